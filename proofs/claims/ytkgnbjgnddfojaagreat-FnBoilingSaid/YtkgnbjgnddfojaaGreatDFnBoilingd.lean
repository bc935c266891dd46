/- Walks through the functions that FnBoiling reaches: what each answers. -/
import Derived.Test.YtkgnbjgnddfojaaGreatDFnBoilingc
set_option linter.unusedVariables false
set_option linter.unusedSimpArgs false
set_option maxRecDepth 20000
set_option maxHeartbeats 2000000
namespace Go.Proofs.YtkgnbjgnddfojaaGreat.DFnBoiling
open Go Go.RowKit Go.Proofs Go.Proofs.YtkgnbjgnddfojaaGreat Go.Proofs.YtkgnbjgnddfojaaGreat.Ev
-- spec.R8Tree
theorem D_spec_R8Tree_X (cs : List Int) (hc : cs.length ≤ 17592186044416) (hb : byteL cs) : DenXR Tryz.prog 13 [] [.lst 1 (cs.map cb)] (τ := List Int × List Pi) (fun (ns, ps) => DrT ns ps) (fun (ns, ps) => [(900001, .row 2 1 (ns.map ci)), (900002, .row 95 6 (ps.map piA))]) (fun (ns, ps) => .agg [.own 900001 ns.length, .own 900002 ps.length]) := by
  refine denXR_of_good Tryz.func13 (by decide) rfl (Nat.le_of_ble_eq_true rfl) (Nat.le_of_ble_eq_true rfl) rfl ?_
  refine good_seq fun K1 hK1 => ?_
  refine gr rfl ?_
  refine ev_k rfl (k_alloc zA31 rfl ?_)
  refine ev_nil (hK1 _ ?_); clear hK1
  refine good_seq fun K2 hK2 => ?_
  refine gr rfl ?_
  refine em rfl (by conv=>lhs;whnf) ?_
  refine ev_k rfl (k_callX [(5, 900000)] (D_spec_l00From cs) rfl (rfl) (rfl) trivial ⟨⟨rfl, show (900000 : Nat) < 1000000 by decide⟩, trivial⟩ rfl rfl rfl ?_)
  refine ea rfl (by conv=>lhs;whnf) ?_
  refine ev_nil (hK2 _ ?_); clear hK2
  refine good_seq fun K3 hK3 => ?_
  refine gr rfl ?_
  refine em rfl (by conv=>lhs;whnf) ?_
  refine ev_k rfl (k_callR [(1000000, 900000), (900001, 900001), (900002, 900002)] (D_spec_l04DrawTree cs _ _ hc hb (by omega)) rfl (rfl) (rfl) ⟨rfl, trivial⟩ rfl (by rintro ⟨ns4, ps4, a4, s4⟩ ⟨hx4_0, hx4_1⟩; exact ⟨⟨rfl, rfl, ⟨⟨rfl, show (900001 : Nat) < 1000000 by decide⟩, ⟨⟨rfl, show (900002 : Nat) < 1000000 by decide⟩, trivial⟩⟩⟩, rfl⟩) rfl rfl ?_)
  rintro ⟨ns4, ps4, a4, s4⟩ ⟨hx4_0, hx4_1⟩
  have hi1 := hx4_0
  refine ev_k rfl (k_store sz31 rfl (by conv=>lhs;whnf) rfl rfl rfl (Nat.le_of_ble_eq_true rfl) rfl ?_)
  refine ev_nil (hK3 _ ?_); clear hK3
  refine good_ret ?_
  repeat first|refine thenQ_ret ?_|refine blockQ_ret ?_
  refine ex_2 (v := ns4) (a := ps4) ?hF ?hR
  case hF =>
    refine fx_cell rfl tA31 rfl rfl rfl ?_
    exact ⟨_, conv_eq (by first | rfl | exact fAgg1 (by first | rfl | exact ownEq (by first | done | omega | (simp; done)) | (simp_all; done)) (fAgg1 (by first | rfl | exact ownEq (by first | done | omega | (simp; done)) | (simp_all; done)) (rfl))), weakH_row (rowEq (by first | rfl | (rw [e]; done) | (rw [e]; rfl) | (simp_all; done))) (weakH_row (rowEq (by first | rfl | (rw [e]; done) | (rw [e]; rfl) | (simp_all; done))) (weakH_none _)), refsIn_ok rfl⟩
  case hR =>
    exact hi1
theorem D_spec_R8Tree (cs : List Int) (hc : cs.length ≤ 17592186044416) (hb : byteL cs) : DenR Tryz.prog 13 [.lst 1 (cs.map cb)] (τ := List Int × List Pi) (fun (ns, ps) => DrT ns ps) (fun (ns, ps) => .agg [.lst 1 (ns.map ci), .lst 6 (ps.map piA)]) :=
  denR_of_denXR (D_spec_R8Tree_X cs hc hb) (by rintro ⟨ns, ps⟩ _; change (some (.agg [.lst 1 (List.take ns.length (ns.map ci)), .lst 6 (List.take ps.length (ps.map piA))]) : Option AV) = some (.agg [.lst 1 (ns.map ci), .lst 6 (ps.map piA)]); simp only [takeMap])

-- spec.R8Water
theorem D_spec_R8Water_X (cs : List Int) (ns : List Int) (ps : List Pi) (hc : cs.length ≤ 17592186044416) (hb : byteL cs) (hn : ns.length ≤ 16) : DenXR Tryz.prog 15 [] [.lst 1 (cs.map cb), .agg [.lst 1 (ns.map ci), .lst 6 (ps.map piA)]] (τ := List Int) (fun u => dmP ns u) (fun u => [(900001, .row 2 1 (u.map ci))]) (fun u => .own 900001 u.length) := by
  refine denXR_of_good Tryz.func15 (by decide) rfl (Nat.le_of_ble_eq_true rfl) (Nat.le_of_ble_eq_true rfl) rfl ?_
  refine good_seq fun K1 hK1 => ?_
  refine gr rfl ?_
  refine ev_k rfl (k_box (by conv=>lhs;whnf) rfl rfl rfl ?_)
  refine ea rfl (by conv=>lhs;whnf) ?_
  refine ev_nil (hK1 _ ?_); clear hK1
  refine good_seq fun K2 hK2 => ?_
  refine gr rfl ?_
  refine em rfl (by conv=>lhs;whnf) ?_
  refine ev_k rfl (k_callX [(5, 900000)] (D_spec_l00From cs) rfl (rfl) (rfl) trivial ⟨⟨rfl, show (900000 : Nat) < 1000000 by decide⟩, trivial⟩ rfl rfl rfl ?_)
  refine ea rfl (by conv=>lhs;whnf) ?_
  refine ev_nil (hK2 _ ?_); clear hK2
  refine good_seq fun K3 hK3 => ?_
  refine gr rfl ?_
  refine ev_k rfl (k_lit tE22 zA2 rfl rfl (by decide) (by decide) rfl rfl rfl ?_)
  refine ea rfl (by conv=>lhs;whnf) ?_
  refine ev_nil (hK3 _ ?_); clear hK3
  refine good_seq fun K4 hK4 => ?_
  refine good_seq fun K5 hK5 => ?_
  refine gr rfl ?_
  refine ev_q rfl (q_fieldAddrP fO31_0 rfl rfl ?_)
  refine ev_q rfl (q_load tA22 rfl ?_)
  refine ev_q rfl (q_len tEs22 rfl ?_)
  intro n6 hn6
  try simp only [List.length_map] at hn6
  refine ea rfl (by conv=>lhs;whnf) ?_
  refine ev_nil (hK5 _ ?_); clear hK5
  refine good_block ?_
  refine good_loop (α := List Int × Nat × Int × Int) (fun (u, k, a1, s1) => { env := upd (upd (upd ((fun _ => .junk)) 5 (.ptr 900000 0)) 6 (.own 23 u.length)) 7 (.s (.int .i64 ((k : Int)))), H := upd (upd ((fun _ => none)) 23 (some (.row 2 1 (u.map ci)))) 900000 (some (.box 108 (src cs a1 s1))) }) (fun (u, k, a1, s1) => (u.length + k = ns.length ∧ ∀ x ∈ u, 0 ≤ x ∧ x ≤ 2000) ∧ (0 ≤ a1 ∧ a1 ≤ 10000 - 100 * k)) (fun (u, k, a1, s1) => k) ([], ns.length, 0, 0) ?_ ?_ ?_
  · exact ⟨⟨by simp, fun x hx => (by cases hx)⟩, by omega⟩
  · refine Sub.trans (sub_move 6 10 23 rfl rfl rfl (by decide)) ?_
    refine sub_weak ?_ ?_
    · exact weakH_box (boxEq (rfl)) rfl (weakH_row (rowEq (rfl)) (weakH_none _))
    · refine weakE_upd ?e7 ?r7 (weakE_upd ?e6 ?r6 (weakE_upd ?e5 ?r5 (weakE_junk _ _)))
      case e5 => first | rfl | exact fI (by omega) | (simp_all)
      case r5 => intro h hh; simp [refs] at hh; subst hh; rfl
      case e6 => first | rfl | exact fI (by omega) | (first | rfl | exact ownEq (by simp))
      case r6 => intro h hh; simp [refs] at hh; subst hh; rfl
      case e7 => first | rfl | exact fI (by omega) | (first | rfl | exact fI (by omega))
      case r7 => intro h hh; cases hh
  · rintro ⟨u, k, a1, s1⟩ ⟨⟨hul, hu⟩, ha1⟩
    refine good_seq fun K7 hK7 => ?_
    refine good_seq fun K8 hK8 => ?_
    refine gr rfl ?_
    refine em rfl (by conv=>lhs;whnf) ?_
    refine ei rfl rfl rfl ?_
    intro b9 hb9; cases b9
    · replace hb9 := dF hb9
      refine ev_nil (hK8 _ ?_); clear hK8
      refine good_condF rfl ?_
      refine good_exit ?_
      repeat first|refine thenQ_exit ?_|refine blockQ_pass rfl ?_
      refine blockQ_exit (hK4 _ ?_); clear hK4
      refine good_seq fun K10 hK10 => ?_
      refine gr rfl ?_
      refine em rfl (by conv=>lhs;whnf) ?_
      refine ea rfl (by conv=>lhs;whnf) ?_
      refine ev_nil (hK10 _ ?_); clear hK10
      refine good_weak (sub_move 4 23 900001 rfl rfl rfl (by decide)) ?_
      refine good_ret ?_
      repeat first|refine thenQ_ret ?_|refine blockQ_ret ?_
      clear hK7
      refine ex_1 (v := u) ?hF ?hR
      case hF =>
        refine fx_tmp rfl (by conv=>lhs;whnf) ?_
        exact ⟨_, conv_eq (by first | rfl | (rw [e]; done) | (rw [e]; rfl) | exact ownEq (by first | omega | simp_all)), weakH_row (rowEq (by first | rfl | (rw [e]; done) | (rw [e]; rfl) | (simp_all; done))) (weakH_none _), refsIn_ok rfl⟩
      case hR =>
        exact ⟨by omega, hu⟩
    · replace hb9 := dT hb9
      refine ev_nil (hK8 _ ?_); clear hK8
      refine good_condT rfl ?_
      refine good_skip (hK7 _ ?_); clear hK7
      refine good_seq fun K11 hK11 => ?_
      refine good_block ?_
      refine gr rfl ?_
      refine em rfl (by conv=>lhs;whnf) ?_
      refine em rfl (by conv=>lhs;whnf) ?_
      refine ev_k rfl (k_lit tE22 zA2 rfl rfl (by decide) (by decide) rfl rfl rfl ?_)
      refine ev_k rfl (k_callR [(1000000, 900000), (1000001, 20)] (D_spec_l00Src_among cs _ _ [0, 500, 900, 1300, 2000] hc hb (by omega) (by decide)) rfl (rfl) (rfl) ⟨rfl, ⟨rfl, trivial⟩⟩ rfl (by rintro ⟨v12, a12, s12⟩ ⟨hx12_0, hx12_1⟩; exact ⟨⟨rfl, rfl, ⟨rfl, ⟨rfl, rfl, by first | exact Nat.le_refl _ | (simp; done) | (simp; omega)⟩, trivial⟩⟩, rfl⟩) rfl rfl ?_)
      rintro ⟨v12, a12, s12⟩ ⟨hx12_0, hx12_1⟩
      simp only [List.mem_cons, List.not_mem_nil, or_false] at hx12_0
      refine ev_k rfl (k_lit tE22 zA2 rfl rfl (by decide) (by decide) rfl rfl rfl ?_)
      refine ev_k rfl (k_app tApp22 rfl rfl (by simp) rfl (.inr rfl) (by first | (simp [maxLen]; omega)) (by first | (simp; omega)) ?_)
      refine ea rfl (by conv=>lhs;whnf) ?_
      refine ev_nil (hK11 _ ?_); clear hK11
      refine gr rfl ?_
      refine em rfl (by conv=>lhs;whnf) ?_
      refine ei rfl rfl rfl ?_
      intro n13 hn13
      replace hn13 := in64 hn13 (by omega) (by omega)
      refine ea rfl (by conv=>lhs;whnf) ?_
      refine ev_nil ?_
      clear hK4
      refine ⟨(u ++ [v12], k - 1, a12, s12), ?_, ?_, ?_⟩
      · exact ⟨⟨by simp; omega, dmP_app (ns := ns) hu (by omega)⟩, by first | omega | (dsimp only; omega)⟩
      · first | omega | (dsimp only; omega)
      · refine sub_weak ?_ ?_
        · exact weakH_box (boxEq (rfl)) rfl (weakH_row (rowEq (by rw [List.map_append]; rfl)) (weakH_none _))
        · refine weakE_upd ?e7 ?r7 (weakE_upd ?e6 ?r6 (weakE_upd ?e5 ?r5 (weakE_junk _ _)))
          case e5 => first | rfl | exact fI (by omega) | (simp_all)
          case r5 => intro h hh; simp [refs] at hh; subst hh; rfl
          case e6 => first | rfl | exact fI (by omega) | (first | rfl | exact ownEq (by simp))
          case r6 => intro h hh; simp [refs] at hh; subst hh; rfl
          case e7 => first | rfl | exact fI (by omega) | (first | rfl | exact fI (by omega))
          case r7 => intro h hh; cases hh
theorem D_spec_R8Water (cs : List Int) (ns : List Int) (ps : List Pi) (hc : cs.length ≤ 17592186044416) (hb : byteL cs) (hn : ns.length ≤ 16) : DenR Tryz.prog 15 [.lst 1 (cs.map cb), .agg [.lst 1 (ns.map ci), .lst 6 (ps.map piA)]] (τ := List Int) (fun u => dmP ns u) (fun u => .lst 1 (u.map ci)) :=
  denR_of_denXR (D_spec_R8Water_X cs ns ps hc hb hn) (by rintro u _; change (some (.lst 1 (List.take u.length (u.map ci))) : Option AV) = some (.lst 1 (u.map ci)); simp only [takeMap])

-- spec.l07Given
theorem D_spec_l07Given_P (ns : List Int) (ps : List Pi) (s : Int) (fl : List Int) (pr : Int) (hn : ns.length ≤ 17592186044416) (hp : ps.length ≤ 2513169434843) (hz : idSz ps) (hf : fl.length ≤ 17592186044416) (hpr : 0 ≤ pr ∧ pr ≤ 100000000) : Den Tryz.prog 53 [.rp [.lst 1 (ns.map ci), .lst 6 (ps.map piA)], .s (.int .i64 s), .s (.int .i64 pr), .lst 1 (fl.map ci)] (.s (.int .i64 (fcC ns ps s fl))) := by
  refine den_of_good Tryz.func53 (by decide) rfl (Nat.le_of_ble_eq_true rfl) (Nat.le_of_ble_eq_true rfl) ?_
  refine good_seq fun K1 hK1 => ?_
  refine gr rfl ?_
  refine ea rfl (by conv=>lhs;whnf) ?_
  refine ev_nil (hK1 _ ?_); clear hK1
  refine good_seq fun K2 hK2 => ?_
  refine gr rfl ?_
  refine em rfl (by conv=>lhs;whnf) ?_
  refine em rfl (by conv=>lhs;whnf) ?_
  refine ev_q rfl (q_callI rfl rfl (rfl) (D_spec_l07Ask ns ps s hn hp hz) ?_)
  intro n3 hn3
  have hask := ask_y (fl := fl) hn3
  refine ea rfl (by conv=>lhs;whnf) ?_
  refine ev_nil (hK2 _ ?_); clear hK2
  refine good_seq fun K4 hK4 => ?_
  refine good_seq fun K5 hK5 => ?_
  refine gr rfl ?_
  refine em rfl (by conv=>lhs;whnf) ?_
  refine ei rfl rfl rfl ?_
  intro b6 hb6; cases b6
  · replace hb6 := neF hb6
    obtain ⟨hok, hsr⟩ := hask.1 (by omega)
    refine ev_nil (hK5 _ ?_); clear hK5
    refine good_condF rfl ?_
    refine good_skip (hK4 _ ?_); clear hK4
    refine good_seq fun K7 hK7 => ?_
    refine good_seq fun K8 hK8 => ?_
    refine gr rfl ?_
    refine em rfl (by conv=>lhs;whnf) ?_
    refine ev_q rfl (q_callB rfl rfl (rfl) (D_spec_l03Press ..) ?_)
    intro b9 hb9; cases b9
    · first | replace hb9 := dF hb9 | skip
      refine ev_q rfl (q_not rfl rfl ?_)
      refine ev_nil (hK8 _ ?_); clear hK8
      refine good_condT rfl ?_
      refine good_seq fun K10 hK10 => ?_
      refine gr rfl ?_
      refine ea rfl (by conv=>lhs;whnf) ?_
      refine ev_nil (hK10 _ ?_); clear hK10
      refine good_ret ?_
      repeat first|refine thenQ_ret ?_|refine blockQ_ret ?_
      refine ret_tmp (st := _) rfl (by conv=>lhs;whnf) rfl ?_
      clear hK7
      first | exact fI hfc.symm | exact fI (by unfold fcC; rw [if_neg (by assumption)]) | exact fI (by unfold fcC; rw [if_pos (by assumption), if_neg (by omega)]) | exact fI (by unfold fcC; rw [if_pos (by assumption), if_pos (by omega), if_neg (by assumption)]) | exact fI (by unfold fcC; rw [if_pos (by assumption), if_pos (by omega), if_pos (by assumption), if_neg (by assumption)]) | exact fI (by unfold fcC; rw [if_pos (by assumption), if_pos (by omega), if_pos (by assumption), if_pos (by assumption)]) | (exfalso; omega)
    · first | replace hb9 := dT hb9 | skip
      refine ev_q rfl (q_not rfl rfl ?_)
      refine ev_nil (hK8 _ ?_); clear hK8
      refine good_condF rfl ?_
      refine good_skip (hK7 _ ?_); clear hK7
      refine good_seq fun K11 hK11 => ?_
      refine good_seq fun K12 hK12 => ?_
      refine gr rfl ?_
      refine em rfl (by conv=>lhs;whnf) ?_
      refine em rfl (by conv=>lhs;whnf) ?_
      refine ev_q rfl (q_callB rfl rfl (rfl) (D_spec_l07Flows ns ps fl hn hp hz hf) ?_)
      intro b13 hb13; cases b13
      · first | replace hb13 := dF hb13 | skip
        refine ev_q rfl (q_not rfl rfl ?_)
        refine ev_nil (hK12 _ ?_); clear hK12
        refine good_condT rfl ?_
        refine good_seq fun K14 hK14 => ?_
        refine gr rfl ?_
        refine ea rfl (by conv=>lhs;whnf) ?_
        refine ev_nil (hK14 _ ?_); clear hK14
        refine good_ret ?_
        repeat first|refine thenQ_ret ?_|refine blockQ_ret ?_
        refine ret_tmp (st := _) rfl (by conv=>lhs;whnf) rfl ?_
        clear hK11
        first | exact fI hfc.symm | exact fI (by unfold fcC; rw [if_neg (by assumption)]) | exact fI (by unfold fcC; rw [if_pos (by assumption), if_neg (by omega)]) | exact fI (by unfold fcC; rw [if_pos (by assumption), if_pos (by omega), if_neg (by assumption)]) | exact fI (by unfold fcC; rw [if_pos (by assumption), if_pos (by omega), if_pos (by assumption), if_neg (by assumption)]) | exact fI (by unfold fcC; rw [if_pos (by assumption), if_pos (by omega), if_pos (by assumption), if_pos (by assumption)]) | (exfalso; omega)
      · first | replace hb13 := dT hb13 | skip
        refine ev_q rfl (q_not rfl rfl ?_)
        refine ev_nil (hK12 _ ?_); clear hK12
        refine good_condF rfl ?_
        refine good_skip (hK11 _ ?_); clear hK11
        refine good_seq fun K15 hK15 => ?_
        refine good_seq fun K16 hK16 => ?_
        refine gr rfl ?_
        refine em rfl (by conv=>lhs;whnf) ?_
        refine ev_q rfl (q_callB rfl rfl (rfl) (D_spec_l04IsTree ns ps hn hp hz hok) ?_)
        intro b17 hb17; cases b17
        · first | replace hb17 := dF hb17 | skip
          refine ev_q rfl (q_not rfl rfl ?_)
          refine ev_nil (hK16 _ ?_); clear hK16
          refine good_condT rfl ?_
          refine good_seq fun K18 hK18 => ?_
          refine gr rfl ?_
          refine ea rfl (by conv=>lhs;whnf) ?_
          refine ev_nil (hK18 _ ?_); clear hK18
          refine good_ret ?_
          repeat first|refine thenQ_ret ?_|refine blockQ_ret ?_
          refine ret_tmp (st := _) rfl (by conv=>lhs;whnf) rfl ?_
          clear hK15
          first | exact fI hfc.symm | exact fI (by unfold fcC; rw [if_neg (by assumption)]) | exact fI (by unfold fcC; rw [if_pos (by assumption), if_neg (by omega)]) | exact fI (by unfold fcC; rw [if_pos (by assumption), if_pos (by omega), if_neg (by assumption)]) | exact fI (by unfold fcC; rw [if_pos (by assumption), if_pos (by omega), if_pos (by assumption), if_neg (by assumption)]) | exact fI (by unfold fcC; rw [if_pos (by assumption), if_pos (by omega), if_pos (by assumption), if_pos (by assumption)]) | (exfalso; omega)
        · first | replace hb17 := dT hb17 | skip
          refine ev_q rfl (q_not rfl rfl ?_)
          refine ev_nil (hK16 _ ?_); clear hK16
          refine good_condF rfl ?_
          refine good_skip (hK15 _ ?_); clear hK15
          refine good_seq fun K19 hK19 => ?_
          refine gr rfl ?_
          refine ea rfl (by conv=>lhs;whnf) ?_
          refine ev_nil (hK19 _ ?_); clear hK19
          refine good_ret ?_
          repeat first|refine thenQ_ret ?_|refine blockQ_ret ?_
          refine ret_tmp (st := _) rfl (by conv=>lhs;whnf) rfl ?_
          first | exact fI hfc.symm | exact fI (by unfold fcC; rw [if_neg (by assumption)]) | exact fI (by unfold fcC; rw [if_pos (by assumption), if_neg (by omega)]) | exact fI (by unfold fcC; rw [if_pos (by assumption), if_pos (by omega), if_neg (by assumption)]) | exact fI (by unfold fcC; rw [if_pos (by assumption), if_pos (by omega), if_pos (by assumption), if_neg (by assumption)]) | exact fI (by unfold fcC; rw [if_pos (by assumption), if_pos (by omega), if_pos (by assumption), if_pos (by assumption)]) | (exfalso; omega)
  · replace hb6 := neT hb6
    have hfc := hask.2 (by omega)
    refine ev_nil (hK5 _ ?_); clear hK5
    refine good_condT rfl ?_
    refine good_seq fun K20 hK20 => ?_
    refine gr rfl ?_
    refine em rfl (by conv=>lhs;whnf) ?_
    refine ea rfl (by conv=>lhs;whnf) ?_
    refine ev_nil (hK20 _ ?_); clear hK20
    refine good_ret ?_
    repeat first|refine thenQ_ret ?_|refine blockQ_ret ?_
    refine ret_tmp (st := _) rfl (by conv=>lhs;whnf) rfl ?_
    clear hK4
    first | exact fI hfc.symm | exact fI (by unfold fcC; rw [if_neg (by assumption)]) | exact fI (by unfold fcC; rw [if_pos (by assumption), if_neg (by omega)]) | exact fI (by unfold fcC; rw [if_pos (by assumption), if_pos (by omega), if_neg (by assumption)]) | exact fI (by unfold fcC; rw [if_pos (by assumption), if_pos (by omega), if_pos (by assumption), if_neg (by assumption)]) | exact fI (by unfold fcC; rw [if_pos (by assumption), if_pos (by omega), if_pos (by assumption), if_pos (by assumption)]) | (exfalso; omega)

-- spec.l00Own
theorem D_spec_l00Own_X (xs : List Int) (hx : xs.length ≤ 17592186044416) : DenX Tryz.prog 96 [] [.lst 1 (xs.map ci)] [(5, .row 2 1 (xs.map ci))] (.own 5 xs.length) := by
  refine denX_of_good Tryz.func96 (by decide) rfl (Nat.le_of_ble_eq_true rfl) (Nat.le_of_ble_eq_true rfl) rfl ?_
  refine good_seq fun K1 hK1 => ?_
  refine gr rfl ?_
  refine ea rfl (by conv=>lhs;whnf) ?_
  refine ev_nil (hK1 _ ?_); clear hK1
  refine good_seq fun K2 hK2 => ?_
  refine gr rfl ?_
  refine ev_k rfl (k_lit tE22 zA2 rfl rfl (by decide) (by decide) rfl rfl rfl ?_)
  refine em rfl (by conv=>lhs;whnf) ?_
  refine ev_k rfl (k_app tApp22 rfl rfl (by simp) rfl (.inl rfl) (by simp [maxLen]; omega) (by simp; omega) ?_)
  refine ea rfl (by conv=>lhs;whnf) ?_
  refine ev_nil (hK2 _ ?_); clear hK2
  refine good_ret ?_
  repeat first|refine thenQ_ret ?_|refine blockQ_ret ?_
  refine fx_tmp rfl (by conv=>lhs;whnf) ?_
  exact ⟨_, conv_eq (by first | rfl | (rw [e]; done) | (rw [e]; rfl) | exact ownEq (by first | omega | simp_all)), weakH_row (rowEq (by first | rfl | (rw [e]; done) | (rw [e]; rfl) | (simp_all; done))) (weakH_none _), refsIn_ok rfl⟩

-- spec.l07Tree
theorem D_spec_l07Tree (ns : List Int) (ps : List Pi) (s : Int) (ds : List Int) (hn : ns.length ≤ 17592186044416) (hp : ps.length ≤ 2513169434843) (hz : idSz ps) (ok : netOk ns ps) (hs : 0 ≤ s ∧ s < ns.length) (htr : treeP ns ps) (hdm : dmP ns ds) : DenX Tryz.prog 52 [] [.rp [.lst 1 (ns.map ci), .lst 6 (ps.map piA)], .s (.int .i64 s), .lst 1 (ds.map ci)] [(900003, .row 2 1 ((flL (ps.map pe) (smB (waysF (ps.map pe) ns.length s.toNat).2 ds) (waysF (ps.map pe) ns.length s.toNat).2).map ci))] (.tup [.own 900003 ps.length, .s (.bool true)]) := by
  have h16 := ok.1.1
  have h20 := ok.1.2.2
  have hol := ord_len (es := (ps.map pe)) (n := ns.length) (s := s.toNat)
  have hwl := ways_le (s := s.toNat) (esF_lt ok) (by omega)
  have hd16 := hdm.1
  refine denX_of_good Tryz.func52 (by decide) rfl (Nat.le_of_ble_eq_true rfl) (Nat.le_of_ble_eq_true rfl) rfl ?_
  refine good_seq fun K1 hK1 => ?_
  refine gr rfl ?_
  refine ea rfl (by conv=>lhs;whnf) ?_
  refine ea rfl (by conv=>lhs;whnf) ?_
  refine ev_nil (hK1 _ ?_); clear hK1
  refine good_seq fun K2 hK2 => ?_
  refine gr rfl ?_
  refine em rfl (by conv=>lhs;whnf) ?_
  refine em rfl (by conv=>lhs;whnf) ?_
  refine ev_k rfl (k_callX [(900001, 900001), (900002, 900002)] (D_spec_l07Order ns ps s hn hp hz ok hs) rfl (rfl) (rfl) trivial ⟨⟨rfl, show (900001 : Nat) < 1000000 by decide⟩, ⟨⟨rfl, show (900002 : Nat) < 1000000 by decide⟩, trivial⟩⟩ rfl rfl rfl ?_)
  refine em rfl (by conv=>lhs;whnf) ?_
  refine ev_q rfl (q_extract rfl rfl ?_)
  refine ev_q rfl (q_extract rfl rfl ?_)
  refine ea rfl (by conv=>lhs;whnf) ?_
  refine ea rfl (by conv=>lhs;whnf) ?_
  refine ev_nil (hK2 _ ?_); clear hK2
  refine good_seq fun K3 hK3 => ?_
  refine gr rfl ?_
  refine em rfl (by conv=>lhs;whnf) ?_
  refine ev_k rfl (k_callX [(5, 900004)] (D_spec_l00Own_X ds (by omega)) rfl (rfl) (rfl) trivial ⟨⟨rfl, show (900004 : Nat) < 1000000 by decide⟩, trivial⟩ rfl rfl rfl ?_)
  refine ea rfl (by conv=>lhs;whnf) ?_
  refine ev_nil (hK3 _ ?_); clear hK3
  refine good_seq fun K4 hK4 => ?_
  refine gr rfl ?_
  refine em rfl (by conv=>lhs;whnf) ?_
  refine ev_q rfl (q_nilCheck (by conv=>lhs;whnf) rfl ?_)
  refine ev_q rfl (q_fieldAddr fO31_1 rfl rfl ?_)
  refine ev_q rfl (q_load tA29 rfl ?_)
  refine ev_q rfl (q_len tEs29 rfl ?_)
  intro n5 hn5
  try simp only [List.length_map] at hn5
  refine ev_k rfl (k_make tE22 rfl rfl zA2 tBy2 rfl (by omega) (by omega) (by omega) rfl (by show _ = ps.length; omega) ?_)
  refine ea rfl (by conv=>lhs;whnf) ?_
  refine ev_nil (hK4 _ ?_); clear hK4
  refine good_seq fun K6 hK6 => ?_
  refine good_seq fun K7 hK7 => ?_
  refine gr rfl ?_
  refine em rfl (by conv=>lhs;whnf) ?_
  refine ev_q rfl (q_len tEs22 rfl ?_)
  intro n8 hn8
  try simp only [List.length_map] at hn8
  refine ei rfl rfl rfl ?_
  intro n9 hn9
  replace hn9 := in64 hn9 (by omega) (by omega)
  refine ea rfl (by conv=>lhs;whnf) ?_
  refine ev_nil (hK7 _ ?_); clear hK7
  refine good_block ?_
  refine good_loop (α := Nat) (fun m => { env := upd (upd (upd (upd (upd (upd ((fun _ => .junk)) 0 (.rp [.lst 1 (ns.map ci), .lst 6 (ps.map piA)])) 8 (.own 900001 (toI (waysF (ps.map pe) ns.length s.toNat).1).length)) 9 (.own 900002 ns.length)) 10 (.own 900004 ds.length)) 11 (.own 28 ps.length)) 12 (.s (.int .i64 ((m : Int)))), H := upd (upd (upd (upd ((fun _ => none)) 28 (some (.row 2 1 ((flL (ps.map pe) (smB (waysF (ps.map pe) ns.length s.toNat).2 ds) ((waysF (ps.map pe) ns.length s.toNat).2.drop m)).map ci)))) 900004 (some (.row 2 1 ((smB ((waysF (ps.map pe) ns.length s.toNat).2.drop m) ds).map ci)))) 900002 (some (.row 2 1 ((byL (ps.map pe) (waysF (ps.map pe) ns.length s.toNat).2 ns.length).map ci)))) 900001 (some (.row 2 1 ((toI (waysF (ps.map pe) ns.length s.toNat).1).map ci))) }) (fun m => m ≤ (waysF (ps.map pe) ns.length s.toNat).2.length) (fun m => m) (waysF (ps.map pe) ns.length s.toNat).2.length ?_ ?_ ?_
  · exact Nat.le_refl _
  · refine sub_weak ?_ ?_
    · exact weakH_row (rowEq (rfl)) (weakH_row (rowEq (rfl)) (weakH_row (rowEq (by rw [List.drop_of_length_le (Nat.le_refl _)]; rfl)) (weakH_row (rowEq (by rw [List.drop_of_length_le (Nat.le_refl _), flL_0, List.length_map]; exact repI)) (weakH_none _))))
    · refine weakE_upd ?e12 ?r12 (weakE_upd ?e11 ?r11 (weakE_upd ?e10 ?r10 (weakE_upd ?e9 ?r9 (weakE_upd ?e8 ?r8 (weakE_upd ?e0 ?r0 (weakE_junk _ _))))))
      case e0 => first | rfl | exact fI (by omega) | (simp_all)
      case r0 => intro h hh; cases hh
      case e8 => first | rfl | exact fI (by omega) | (simp_all)
      case r8 => intro h hh; simp [refs] at hh; subst hh; rfl
      case e9 => first | rfl | exact fI (by omega) | (simp_all)
      case r9 => intro h hh; simp [refs] at hh; subst hh; rfl
      case e10 => first | rfl | exact fI (by omega) | (simp_all)
      case r10 => intro h hh; simp [refs] at hh; subst hh; rfl
      case e11 => first | rfl | exact fI (by omega) | (simp_all)
      case r11 => intro h hh; simp [refs] at hh; subst hh; rfl
      case e12 => first | rfl | exact fI (by omega) | (first | rfl | exact fI (by omega))
      case r12 => intro h hh; cases hh
  · rintro m hI
    refine good_seq fun K10 hK10 => ?_
    refine good_seq fun K11 hK11 => ?_
    refine gr rfl ?_
    refine em rfl (by conv=>lhs;whnf) ?_
    refine ei rfl rfl rfl ?_
    intro b12 hb12; cases b12
    · replace hb12 := dF hb12
      refine ev_nil (hK11 _ ?_); clear hK11
      refine good_condF rfl ?_
      refine good_exit ?_
      repeat first|refine thenQ_exit ?_|refine blockQ_pass rfl ?_
      refine blockQ_exit (hK6 _ ?_); clear hK6
      refine good_seq fun K13 hK13 => ?_
      refine gr rfl ?_
      refine em rfl (by conv=>lhs;whnf) ?_
      refine ea rfl (by conv=>lhs;whnf) ?_
      refine ea rfl (by conv=>lhs;whnf) ?_
      refine ev_nil (hK13 _ ?_); clear hK13
      refine good_weak (sub_move 6 28 900003 rfl rfl rfl (by decide)) ?_
      refine good_ret ?_
      repeat first|refine thenQ_ret ?_|refine blockQ_ret ?_
      refine fx_many rfl ?_
      refine fxs_tmp (by conv=>lhs;whnf) ?_
      refine fxs_tmp (by conv=>lhs;whnf) ?_
      refine fx_nil ?_
      clear hK10
      have e0 : m = 0 := by omega
      subst e0
      exact ⟨_, .tup (.cons (conv_eq (by first | rfl | (rw [e]; done) | (rw [e]; rfl) | exact ownEq (by first | omega | simp_all))) (.cons (conv_eq (by first | rfl | exact fT (by first | omega | grind) | exact fF (by first | omega | grind) | exact fT' (by first | omega | grind) | (exfalso; first | omega | grind))) (.nil))), weakH_row (rowEq (by first | rfl | (rw [List.drop_zero]; rfl))) (weakH_none _), refsIn_ok rfl⟩
    · replace hb12 := dT hb12
      obtain ⟨j, rfl⟩ : ∃ j, m = j + 1 := ⟨m - 1, by omega⟩
      obtain ⟨w, hw⟩ : ∃ w, (waysF (ps.map pe) ns.length s.toNat).2[j]? = some w := ⟨_, List.getElem?_eq_getElem (by omega)⟩
      have hwm := List.mem_of_getElem? hw
      obtain ⟨p, hW⟩ := wayOf ok (show s.toNat < ns.length by omega) hwm
      have hpp := hW.hp
      have hw1 := hW.l1
      have hw2 := hW.l2
      have hwn := hW.ne
      have hpl := (List.getElem?_eq_some_iff.1 hpp).1
      have hpo := (ok.2 _ p hpp).1
      have hp1 := hpo.1.2.1
      have hp2 := hpo.1.2.2.1
      have hp3 := hpo.1.2.2.2.1
      have hp4 := hpo.1.2.2.2.2.1
      have hp5 := hpo.1.2.2.2.2.2.1
      have hp6 := hpo.1.2.2.2.2.2.2
      have hord := ways_ord (s := s.toNat) (esF_lt ok) (by omega)
      have hfin := smB_fin (d := ds) hord hw
      have hsl := smB_len ((waysF (ps.map pe) ns.length s.toNat).2.drop (j + 1)) ds
      have hdl := hdm.1
      have htk := hord.tk hw
      have hl1 := sm_le (esF_lt ok) (s := s.toNat) (by omega) (by omega) hdl hdm.g (m := j + 1) (v := w.1) (by omega) (by rw [htk.2.2]; simp)
      have hl2 := sm_le (esF_lt ok) (s := s.toNat) (by omega) (by omega) hdl hdm.g (m := j + 1) (v := w.2.1) (by omega) (by have := hord.bf j w hw; rw [htk.2.2, List.map_append, ← List.cons_append]; exact List.mem_append_left _ this)
      have hsm := smB_s (d := ds) hw
      have hdc := drop_c hw
      refine ev_nil (hK11 _ ?_); clear hK11
      refine good_condT rfl ?_
      refine good_skip (hK10 _ ?_); clear hK10
      refine good_seq fun K14 hK14 => ?_
      refine good_block ?_
      refine good_seq fun K15 hK15 => ?_
      refine gr rfl ?_
      refine em rfl (by conv=>lhs;whnf) ?_
      refine em rfl (by conv=>lhs;whnf) ?_
      refine em rfl (by conv=>lhs;whnf) ?_
      refine ev_q rfl (q_idxO tE22 rfl rfl rfl (by omega) (by first | omega | (simp; omega)) rfl ?_)
      refine ev_q rfl (q_loadE tA2 rfl rfl (by rw [show ((j + 1 : Nat) : Int).toNat = ((j : Int) + 1).toNat by omega]; exact ord_get hw) rfl ?_)
      refine ev_q rfl (q_idxO tE22 rfl rfl rfl (by omega) (by first | omega | (simp; omega)) rfl ?_)
      refine ev_q rfl (q_loadE tA2 rfl rfl (by exact by_get ok (by omega) hwm rfl) rfl ?_)
      refine ea rfl (by conv=>lhs;whnf) ?_
      refine ev_nil (hK15 _ ?_); clear hK15
      refine good_seq fun K16 hK16 => ?_
      refine gr rfl ?_
      refine em rfl (by conv=>lhs;whnf) ?_
      refine em rfl (by conv=>lhs;whnf) ?_
      refine em rfl (by conv=>lhs;whnf) ?_
      refine ev_q rfl (q_idxO tE22 rfl rfl rfl (by omega) (by first | omega | (simp; omega)) rfl ?_)
      refine ev_q rfl (q_loadE tA2 rfl rfl (by rw [show ((j + 1 : Nat) : Int).toNat = ((j : Int) + 1).toNat by omega]; exact ord_get hw) rfl ?_)
      refine ev_q rfl (q_idxO tE22 rfl rfl rfl (by omega) (by first | omega | (simp; omega)) rfl ?_)
      refine ev_q rfl (q_loadE tA2 rfl rfl (by exact getW (t := (smB ((waysF (ps.map pe) ns.length s.toNat).2.drop (j + 1)) ds)) (v := w.1) (by omega) rfl) rfl ?_)
      refine ea rfl (by conv=>lhs;whnf) ?_
      refine ev_nil (hK16 _ ?_); clear hK16
      refine good_seq fun K17 hK17 => ?_
      refine good_seq fun K18 hK18 => ?_
      refine gr rfl ?_
      refine em rfl (by conv=>lhs;whnf) ?_
      refine ei rfl rfl rfl ?_
      intro b19 hb19; cases b19
      rotate_left
      · replace hb19 := dT hb19
        exfalso; omega
      replace hb19 := dF hb19
      refine ev_nil (hK18 _ ?_); clear hK18
      refine good_condF rfl ?_
      refine good_skip (hK17 _ ?_); clear hK17
      refine good_seq fun K20 hK20 => ?_
      refine gr rfl ?_
      refine em rfl (by conv=>lhs;whnf) ?_
      refine em rfl (by conv=>lhs;whnf) ?_
      refine em rfl (by conv=>lhs;whnf) ?_
      refine ev_q rfl (q_callI rfl rfl (rfl) (D_before ns ps w p hW (by omega)) ?_)
      intro n21 hn21
      refine ev_q rfl (q_idxO tE22 rfl rfl rfl (by omega) (by first | omega | (simp; omega)) rfl ?_)
      refine ev_q rfl (q_loadE tA2 rfl rfl (by exact getW (t := (smB ((waysF (ps.map pe) ns.length s.toNat).2.drop (j + 1)) ds)) (v := w.2.1) (by omega) (by assumption)) rfl ?_)
      refine em rfl (by conv=>lhs;whnf) ?_
      refine ei rfl rfl rfl ?_
      intro n22 hn22
      replace hn22 := in64 hn22 (by omega) (by omega)
      refine ev_q rfl (q_idxO tE22 rfl rfl rfl (by omega) (by first | omega | (simp; omega)) rfl ?_)
      refine ev_k rfl (k_storeE sz2 rfl (by conv=>lhs;whnf) rfl rfl rfl (Nat.le_of_ble_eq_true rfl) rfl (by exact getW (t := (smB ((waysF (ps.map pe) ns.length s.toNat).2.drop (j + 1)) ds)) (v := w.2.1) (by omega) (by assumption)) (Nat.le_of_ble_eq_true rfl) rfl ?_)
      refine ev_nil (hK20 _ ?_); clear hK20
      refine good_seq fun K23 hK23 => ?_
      refine gr rfl ?_
      have hS : ((smB ((waysF (ps.map pe) ns.length s.toNat).2.drop (j + 1)) ds).map ci).set n21.toNat (ci n22) = (smB ((waysF (ps.map pe) ns.length s.toNat).2.drop j) ds).map ci := by rw [mapSet, show n21.toNat = w.2.1 by omega, show n22 = (smB ((waysF (ps.map pe) ns.length s.toNat).2.drop (j + 1)) ds).getD w.2.1 0 + (smB ((waysF (ps.map pe) ns.length s.toNat).2.drop (j + 1)) ds).getD w.1 0 by omega, ← hsm]
      refine em rfl (by conv=>lhs;whnf) ?_
      refine ei rfl rfl rfl ?_
      intro b24 hb24; cases b24
      · replace hb24 := dF hb24
        have hsg : sgW (ps.map pe) w = -((w.2.2 : Int) + 1) ∧ p.tt = (w.2.1 : Int) ∧ p.fm = (w.1 : Int) := by rcases hW.sg with h | h <;> first | exact h | (exfalso; omega)
        refine ev_nil (hK23 _ ?_); clear hK23
        refine good_condF rfl ?_
        refine gr rfl ?_
        refine em rfl (by conv=>lhs;whnf) ?_
        refine em rfl (by conv=>lhs;whnf) ?_
        refine ev_q rfl (q_neg rfl ?_)
        intro n25 hn25
        replace hn25 := neg64 hn25 (by omega) (by omega)
        refine ei rfl rfl rfl ?_
        intro n26 hn26
        replace hn26 := in64 hn26 (by omega) (by omega)
        refine em rfl (by conv=>lhs;whnf) ?_
        refine ev_q rfl (q_neg rfl ?_)
        intro n27 hn27
        replace hn27 := neg64 hn27 (by omega) (by omega)
        have hF := fl_s (S := (smB (waysF (ps.map pe) ns.length s.toNat).2 ds)) (ws := (waysF (ps.map pe) ns.length s.toNat).2.drop (j + 1)) (k := n26) (x := n27) hpl (by omega) (by rw [flW_M hW hsg.2.2, hn27]; exact congrArg (fun x => -x) hfin)
        rw [← hdc] at hF
        refine ev_q rfl (q_idxO tE22 rfl rfl rfl (by omega) (by first | omega | (simp; omega)) rfl ?_)
        refine ev_k rfl (k_storeE sz2 rfl (by conv=>lhs;whnf) rfl rfl rfl (Nat.le_of_ble_eq_true rfl) rfl (by exact getW (v := w.2.2) (by rw [flL_len, List.length_map]; omega) (by omega)) (Nat.le_of_ble_eq_true rfl) rfl ?_)
        refine ev_nil (hK14 _ ?_); clear hK14
        refine gr rfl ?_
        refine em rfl (by conv=>lhs;whnf) ?_
        refine ei rfl rfl rfl ?_
        intro n28 hn28
        replace hn28 := in64 hn28 (by omega) (by omega)
        refine ea rfl (by conv=>lhs;whnf) ?_
        refine ev_nil ?_
        clear hK6
        refine ⟨j, ?_, ?_, ?_⟩
        · show _ ≤ _; omega
        · show _ < _; omega
        · refine sub_weak ?_ ?_
          · exact weakH_row (rowEq (rfl)) (weakH_row (rowEq (rfl)) (weakH_row (rowEq (by exact hS)) (weakH_row (rowEq (by exact hF)) (weakH_none _))))
          · refine weakE_upd ?e12 ?r12 (weakE_upd ?e11 ?r11 (weakE_upd ?e10 ?r10 (weakE_upd ?e9 ?r9 (weakE_upd ?e8 ?r8 (weakE_upd ?e0 ?r0 (weakE_junk _ _))))))
            case e0 => first | rfl | exact fI (by omega) | (simp_all)
            case r0 => intro h hh; cases hh
            case e8 => first | rfl | exact fI (by omega) | (simp_all)
            case r8 => intro h hh; simp [refs] at hh; subst hh; rfl
            case e9 => first | rfl | exact fI (by omega) | (simp_all)
            case r9 => intro h hh; simp [refs] at hh; subst hh; rfl
            case e10 => first | rfl | exact fI (by omega) | (simp_all)
            case r10 => intro h hh; simp [refs] at hh; subst hh; rfl
            case e11 => first | rfl | exact fI (by omega) | (simp_all)
            case r11 => intro h hh; simp [refs] at hh; subst hh; rfl
            case e12 => first | rfl | exact fI (by omega) | (first | rfl | exact fI (by omega))
            case r12 => intro h hh; cases hh
      · replace hb24 := dT hb24
        have hsg : sgW (ps.map pe) w = (w.2.2 : Int) + 1 ∧ p.fm = (w.2.1 : Int) ∧ p.tt = (w.1 : Int) := by rcases hW.sg with h | h <;> first | exact h | (exfalso; omega)
        refine ev_nil (hK23 _ ?_); clear hK23
        refine good_condT rfl ?_
        refine gr rfl ?_
        refine em rfl (by conv=>lhs;whnf) ?_
        refine em rfl (by conv=>lhs;whnf) ?_
        refine ei rfl rfl rfl ?_
        intro n29 hn29
        replace hn29 := in64 hn29 (by omega) (by omega)
        refine em rfl (by conv=>lhs;whnf) ?_
        have hF := fl_s (S := (smB (waysF (ps.map pe) ns.length s.toNat).2 ds)) (ws := (waysF (ps.map pe) ns.length s.toNat).2.drop (j + 1)) (k := n29) (x := (smB ((waysF (ps.map pe) ns.length s.toNat).2.drop (j + 1)) ds).getD w.1 0) hpl (by omega) (by rw [flW_P hW hsg.2.1]; exact hfin)
        rw [← hdc] at hF
        refine ev_q rfl (q_idxO tE22 rfl rfl rfl (by omega) (by first | omega | (simp; omega)) rfl ?_)
        refine ev_k rfl (k_storeE sz2 rfl (by conv=>lhs;whnf) rfl rfl rfl (Nat.le_of_ble_eq_true rfl) rfl (by exact getW (v := w.2.2) (by rw [flL_len, List.length_map]; omega) (by omega)) (Nat.le_of_ble_eq_true rfl) rfl ?_)
        refine ev_nil (hK14 _ ?_); clear hK14
        refine gr rfl ?_
        refine em rfl (by conv=>lhs;whnf) ?_
        refine ei rfl rfl rfl ?_
        intro n30 hn30
        replace hn30 := in64 hn30 (by omega) (by omega)
        refine ea rfl (by conv=>lhs;whnf) ?_
        refine ev_nil ?_
        clear hK6
        refine ⟨j, ?_, ?_, ?_⟩
        · show _ ≤ _; omega
        · show _ < _; omega
        · refine sub_weak ?_ ?_
          · exact weakH_row (rowEq (rfl)) (weakH_row (rowEq (rfl)) (weakH_row (rowEq (by exact hS)) (weakH_row (rowEq (by exact hF)) (weakH_none _))))
          · refine weakE_upd ?e12 ?r12 (weakE_upd ?e11 ?r11 (weakE_upd ?e10 ?r10 (weakE_upd ?e9 ?r9 (weakE_upd ?e8 ?r8 (weakE_upd ?e0 ?r0 (weakE_junk _ _))))))
            case e0 => first | rfl | exact fI (by omega) | (simp_all)
            case r0 => intro h hh; cases hh
            case e8 => first | rfl | exact fI (by omega) | (simp_all)
            case r8 => intro h hh; simp [refs] at hh; subst hh; rfl
            case e9 => first | rfl | exact fI (by omega) | (simp_all)
            case r9 => intro h hh; simp [refs] at hh; subst hh; rfl
            case e10 => first | rfl | exact fI (by omega) | (simp_all)
            case r10 => intro h hh; simp [refs] at hh; subst hh; rfl
            case e11 => first | rfl | exact fI (by omega) | (simp_all)
            case r11 => intro h hh; simp [refs] at hh; subst hh; rfl
            case e12 => first | rfl | exact fI (by omega) | (first | rfl | exact fI (by omega))
            case r12 => intro h hh; cases hh

-- spec.l07Demands
theorem D_spec_l07Demands (ns : List Int) (ps : List Pi) (ds : List Int) (hdm : dmP ns ds) (hd16 : ds.length ≤ 16) : Den Tryz.prog 95 [.rp [.lst 1 (ns.map ci), .lst 6 (ps.map piA)], .lst 1 (ds.map ci)] (.s (.bool true)) := by
  refine den_of_good Tryz.func95 (by decide) rfl (Nat.le_of_ble_eq_true rfl) (Nat.le_of_ble_eq_true rfl) ?_
  refine good_seq fun K1 hK1 => ?_
  refine gr rfl ?_
  refine ea rfl (by conv=>lhs;whnf) ?_
  refine ev_nil (hK1 _ ?_); clear hK1
  refine good_seq fun K2 hK2 => ?_
  refine good_seq fun K3 hK3 => ?_
  refine gr rfl ?_
  refine ea rfl (by conv=>lhs;whnf) ?_
  refine ev_nil (hK3 _ ?_); clear hK3
  refine good_block ?_
  refine good_loop (α := Nat) (fun k => { env := upd (upd (upd ((fun _ => .junk)) 0 (.rp [.lst 1 (ns.map ci), .lst 6 (ps.map piA)])) 1 (.lst 1 (ds.map ci))) 5 (.s (.int .i64 k)), H := fun _ => none }) (fun k => k ≤ ds.length) (fun k => ds.length - k) 0 ?_ ?_ ?_
  · exact Nat.zero_le _
  · refine sub_weak ?_ ?_
    · exact weakH_none _
    · refine weakE_upd ?e5 ?r5 (weakE_upd ?e1 ?r1 (weakE_upd ?e0 ?r0 (weakE_junk _ _)))
      case e0 => first | rfl | exact fI (by omega) | (simp_all)
      case r0 => intro h hh; cases hh
      case e1 => first | rfl | exact fI (by omega) | (simp_all)
      case r1 => intro h hh; cases hh
      case e5 => first | rfl | exact fI (by omega) | (simp_all)
      case r5 => intro h hh; cases hh
  · rintro k hk
    refine good_seq fun K4 hK4 => ?_
    refine good_seq fun K5 hK5 => ?_
    refine gr rfl ?_
    refine em rfl (by conv=>lhs;whnf) ?_
    refine em rfl (by conv=>lhs;whnf) ?_
    refine ev_q rfl (q_len tEs22 rfl ?_)
    intro n6 hn6
    try simp only [List.length_map] at hn6
    refine ei rfl rfl rfl ?_
    intro b7 hb7; cases b7
    · replace hb7 := dF hb7
      have hdl := hdm.1
      refine ev_nil (hK5 _ ?_); clear hK5
      refine good_condF rfl ?_
      refine good_exit ?_
      repeat first|refine thenQ_exit ?_|refine blockQ_pass rfl ?_
      refine blockQ_exit (hK2 _ ?_); clear hK2
      refine good_seq fun K8 hK8 => ?_
      refine gr rfl ?_
      refine em rfl (by conv=>lhs;whnf) ?_
      refine ev_q rfl (q_len tEs22 rfl ?_)
      intro n9 hn9
      try simp only [List.length_map] at hn9
      refine em rfl (by conv=>lhs;whnf) ?_
      refine ev_q rfl (q_nilCheck (by conv=>lhs;whnf) rfl ?_)
      refine ev_q rfl (q_fieldAddr fO31_0 rfl rfl ?_)
      refine ev_q rfl (q_load tA22 rfl ?_)
      refine ev_q rfl (q_len tEs22 rfl ?_)
      intro n10 hn10
      try simp only [List.length_map] at hn10
      refine ei rfl rfl rfl ?_
      intro b11 hb11; cases b11
      · replace hb11 := eqF hb11
        refine ea rfl (by conv=>lhs;whnf) ?_
        refine ev_nil (hK8 _ ?_); clear hK8
        refine good_ret ?_
        repeat first|refine thenQ_ret ?_|refine blockQ_ret ?_
        refine ret_tmp (st := _) rfl (by conv=>lhs;whnf) rfl ?_
        clear hK4
        first | rfl | exact fT (by omega) | (exfalso; omega)
      · replace hb11 := eqT hb11
        refine ea rfl (by conv=>lhs;whnf) ?_
        refine ev_nil (hK8 _ ?_); clear hK8
        refine good_ret ?_
        repeat first|refine thenQ_ret ?_|refine blockQ_ret ?_
        refine ret_tmp (st := _) rfl (by conv=>lhs;whnf) rfl ?_
        clear hK4
        first | rfl | exact fT (by omega) | (exfalso; omega)
    · replace hb7 := dT hb7
      obtain ⟨pk, hpk⟩ := getL (xs := ds) (n := (k : Int)) (by omega) (by omega)
      replace hpk : ds[k]? = some pk := hpk
      have hq := hdm.2 _ (List.mem_of_getElem? hpk)
      refine ev_nil (hK5 _ ?_); clear hK5
      refine good_condT rfl ?_
      refine good_skip (hK4 _ ?_); clear hK4
      refine good_seq fun K12 hK12 => ?_
      refine good_block ?_
      refine good_seq fun K13 hK13 => ?_
      refine gr rfl ?_
      refine em rfl (by conv=>lhs;whnf) ?_
      refine em rfl (by conv=>lhs;whnf) ?_
      refine ev_q rfl (q_idx tE22 rfl rfl (by exact Int.natCast_nonneg _) (by exact map_get hpk) rfl ?_)
      refine ev_q rfl (q_load tA2 rfl ?_)
      refine ev_q rfl (q_callB rfl rfl (rfl) (D_spec_l00In ..) ?_)
      intro b14 hb14; cases b14
      · first | replace hb14 := dF hb14 | skip
        refine ev_q rfl (q_not rfl rfl ?_)
        refine ev_nil (hK13 _ ?_); clear hK13
        refine good_condT rfl ?_
        refine good_seq fun K15 hK15 => ?_
        refine gr rfl ?_
        refine ea rfl (by conv=>lhs;whnf) ?_
        refine ev_nil (hK15 _ ?_); clear hK15
        refine good_ret ?_
        repeat first|refine thenQ_ret ?_|refine blockQ_ret ?_
        refine ret_tmp (st := _) rfl (by conv=>lhs;whnf) rfl ?_
        clear hK2 hK12
        first | rfl | exact fT (by omega) | (exfalso; omega)
      · first | replace hb14 := dT hb14 | skip
        refine ev_q rfl (q_not rfl rfl ?_)
        refine ev_nil (hK13 _ ?_); clear hK13
        refine good_condF rfl ?_
        refine good_skip (hK12 _ ?_); clear hK12
        refine gr rfl ?_
        refine em rfl (by conv=>lhs;whnf) ?_
        refine ei rfl rfl rfl ?_
        intro n16 hn16
        replace hn16 := in64 hn16 (by omega) (by omega)
        refine ea rfl (by conv=>lhs;whnf) ?_
        refine ev_nil ?_
        clear hK2
        refine ⟨k + 1, ?_, ?_, ?_⟩
        · show _ ≤ _; omega
        · first | omega | (simp only []; omega) | (dsimp only; omega)
        · refine sub_weak ?_ ?_
          · exact weakH_none _
          · refine weakE_upd ?e5 ?r5 (weakE_upd ?e1 ?r1 (weakE_upd ?e0 ?r0 (weakE_junk _ _)))
            case e0 => first | rfl | exact fI (by omega) | (simp_all)
            case r0 => intro h hh; cases hh
            case e1 => first | rfl | exact fI (by omega) | (simp_all)
            case r1 => intro h hh; cases hh
            case e5 => first | rfl | exact fI (by omega) | (simp_all)
            case r5 => intro h hh; cases hh

-- spec.l07Begin
theorem D_spec_l07Begin (ns : List Int) (ps : List Pi) (s : Int) (ds : List Int) (hn : ns.length ≤ 17592186044416) (hp : ps.length ≤ 2513169434843) (hz : idSz ps) (ok : netOk ns ps) (hs : 0 ≤ s ∧ s < ns.length) (htr : treeP ns ps) (hdm : dmP ns ds) : Den Tryz.prog 51 [.rp [.lst 1 (ns.map ci), .lst 6 (ps.map piA)], .s (.int .i64 s), .lst 1 (ds.map ci)] (.s (.int .i64 0)) := by
  have h16 := ok.1.1
  have hd16 := hdm.1
  refine den_of_good Tryz.func51 (by decide) rfl (Nat.le_of_ble_eq_true rfl) (Nat.le_of_ble_eq_true rfl) ?_
  refine good_seq fun K1 hK1 => ?_
  refine gr rfl ?_
  refine ea rfl (by conv=>lhs;whnf) ?_
  refine ev_nil (hK1 _ ?_); clear hK1
  refine good_seq fun K2 hK2 => ?_
  refine gr rfl ?_
  refine em rfl (by conv=>lhs;whnf) ?_
  refine em rfl (by conv=>lhs;whnf) ?_
  refine ev_q rfl (q_callI rfl rfl (rfl) (D_spec_l07Ask ns ps s hn hp hz) ?_)
  intro n3 hn3
  rw [if_pos ok, if_pos hs] at hn3
  refine ea rfl (by conv=>lhs;whnf) ?_
  refine ev_nil (hK2 _ ?_); clear hK2
  refine good_seq fun K4 hK4 => ?_
  refine good_seq fun K5 hK5 => ?_
  refine gr rfl ?_
  refine em rfl (by conv=>lhs;whnf) ?_
  refine ei rfl rfl rfl ?_
  intro b6 hb6; cases b6
  · replace hb6 := neF hb6
    refine ev_nil (hK5 _ ?_); clear hK5
    refine good_condF rfl ?_
    refine good_skip (hK4 _ ?_); clear hK4
    refine good_seq fun K7 hK7 => ?_
    refine good_seq fun K8 hK8 => ?_
    refine gr rfl ?_
    refine em rfl (by conv=>lhs;whnf) ?_
    refine em rfl (by conv=>lhs;whnf) ?_
    refine ev_q rfl (q_callB rfl rfl (rfl) (D_spec_l07Demands ns ps ds hdm (by omega)) ?_)
    intro b9 hb9; cases b9
    · first | replace hb9 := dF hb9 | skip
      refine ev_q rfl (q_not rfl rfl ?_)
      refine ev_nil (hK8 _ ?_); clear hK8
      refine good_condT rfl ?_
      refine good_seq fun K10 hK10 => ?_
      refine gr rfl ?_
      refine ea rfl (by conv=>lhs;whnf) ?_
      refine ev_nil (hK10 _ ?_); clear hK10
      refine good_ret ?_
      repeat first|refine thenQ_ret ?_|refine blockQ_ret ?_
      refine ret_tmp (st := _) rfl (by conv=>lhs;whnf) rfl ?_
      clear hK7
      first | rfl | (exfalso; first | omega | contradiction)
    · first | replace hb9 := dT hb9 | skip
      refine ev_q rfl (q_not rfl rfl ?_)
      refine ev_nil (hK8 _ ?_); clear hK8
      refine good_condF rfl ?_
      refine good_skip (hK7 _ ?_); clear hK7
      refine good_seq fun K11 hK11 => ?_
      refine good_seq fun K12 hK12 => ?_
      refine gr rfl ?_
      refine em rfl (by conv=>lhs;whnf) ?_
      refine ev_q rfl (q_callB rfl rfl (rfl) (D_spec_l04IsTree ns ps hn hp hz ok) ?_)
      intro b13 hb13; cases b13
      · first | replace hb13 := dF hb13 | skip
        refine ev_q rfl (q_not rfl rfl ?_)
        refine ev_nil (hK12 _ ?_); clear hK12
        refine good_condT rfl ?_
        refine good_seq fun K14 hK14 => ?_
        refine gr rfl ?_
        refine ea rfl (by conv=>lhs;whnf) ?_
        refine ev_nil (hK14 _ ?_); clear hK14
        refine good_ret ?_
        repeat first|refine thenQ_ret ?_|refine blockQ_ret ?_
        refine ret_tmp (st := _) rfl (by conv=>lhs;whnf) rfl ?_
        clear hK11
        first | rfl | (exfalso; first | omega | contradiction)
      · first | replace hb13 := dT hb13 | skip
        refine ev_q rfl (q_not rfl rfl ?_)
        refine ev_nil (hK12 _ ?_); clear hK12
        refine good_condF rfl ?_
        refine good_skip (hK11 _ ?_); clear hK11
        refine good_seq fun K15 hK15 => ?_
        refine gr rfl ?_
        refine ea rfl (by conv=>lhs;whnf) ?_
        refine ev_nil (hK15 _ ?_); clear hK15
        refine good_ret ?_
        repeat first|refine thenQ_ret ?_|refine blockQ_ret ?_
        refine ret_tmp (st := _) rfl (by conv=>lhs;whnf) rfl ?_
        first | rfl | (exfalso; first | omega | contradiction)
  · replace hb6 := neT hb6
    refine ev_nil (hK5 _ ?_); clear hK5
    refine good_condT rfl ?_
    refine good_seq fun K16 hK16 => ?_
    refine gr rfl ?_
    refine em rfl (by conv=>lhs;whnf) ?_
    refine ea rfl (by conv=>lhs;whnf) ?_
    refine ev_nil (hK16 _ ?_); clear hK16
    refine good_ret ?_
    repeat first|refine thenQ_ret ?_|refine blockQ_ret ?_
    refine ret_tmp (st := _) rfl (by conv=>lhs;whnf) rfl ?_
    clear hK4
    first | rfl | (exfalso; first | omega | contradiction)

-- spec.TreeFlows
theorem D_spec_TreeFlows_X (ns : List Int) (ps : List Pi) (s : Int) (ds : List Int) (hn : ns.length ≤ 17592186044416) (hp : ps.length ≤ 2513169434843) (hz : idSz ps) (ok : netOk ns ps) (hs : 0 ≤ s ∧ s < ns.length) (htr : treeP ns ps) (hdm : dmP ns ds) : DenX Tryz.prog 16 [] [.agg [.lst 1 (ns.map ci), .lst 6 (ps.map piA)], .s (.int .i64 s), .lst 1 (ds.map ci)] [(900003, .row 2 1 ((flL (ps.map pe) (smB (waysF (ps.map pe) ns.length s.toNat).2 ds) (waysF (ps.map pe) ns.length s.toNat).2).map ci))] (.tup [.own 900003 ps.length, .s (.int .i64 0)]) := by
  refine denX_of_good Tryz.func16 (by decide) rfl (Nat.le_of_ble_eq_true rfl) (Nat.le_of_ble_eq_true rfl) rfl ?_
  refine good_seq fun K1 hK1 => ?_
  refine gr rfl ?_
  refine ev_k rfl (k_box (by conv=>lhs;whnf) rfl rfl rfl ?_)
  refine ea rfl (by conv=>lhs;whnf) ?_
  refine ea rfl (by conv=>lhs;whnf) ?_
  refine ev_nil (hK1 _ ?_); clear hK1
  refine good_seq fun K2 hK2 => ?_
  refine gr rfl ?_
  refine em rfl (by conv=>lhs;whnf) ?_
  refine em rfl (by conv=>lhs;whnf) ?_
  refine ev_q rfl (q_callI rfl rfl (rfl) (D_spec_l07Begin ns ps s ds hn hp hz ok hs htr hdm) ?_)
  intro n3 hn3
  refine ea rfl (by conv=>lhs;whnf) ?_
  refine ev_nil (hK2 _ ?_); clear hK2
  refine good_seq fun K4 hK4 => ?_
  refine good_seq fun K5 hK5 => ?_
  refine gr rfl ?_
  refine em rfl (by conv=>lhs;whnf) ?_
  refine ei rfl rfl rfl ?_
  intro b6 hb6; cases b6
  rotate_left
  · replace hb6 := neT hb6
    exfalso; omega
  replace hb6 := neF hb6
  refine ev_nil (hK5 _ ?_); clear hK5
  refine good_condF rfl ?_
  refine good_skip (hK4 _ ?_); clear hK4
  refine good_seq fun K7 hK7 => ?_
  refine gr rfl ?_
  refine em rfl (by conv=>lhs;whnf) ?_
  refine em rfl (by conv=>lhs;whnf) ?_
  refine ev_k rfl (k_callXc [(900003, 900003)] (D_spec_l07Tree ns ps s ds hn hp hz ok hs htr hdm) rfl (rfl) (⟨rfl, ⟨pure_ci, trivial⟩⟩) trivial ⟨⟨rfl, show (900003 : Nat) < 1000000 by decide⟩, trivial⟩ rfl rfl rfl ?_)
  refine em rfl (by conv=>lhs;whnf) ?_
  refine ev_q rfl (q_extract rfl rfl ?_)
  refine ev_q rfl (q_extractB rfl rfl ?_)
  intro b8 hb8; cases b8
  · first | replace hb8 := dF hb8 | skip
    exfalso; first | contradiction | simp_all
  first | replace hb8 := dT hb8 | skip
  refine ea rfl (by conv=>lhs;whnf) ?_
  refine ea rfl (by conv=>lhs;whnf) ?_
  refine ev_nil (hK7 _ ?_); clear hK7
  refine good_seq fun K9 hK9 => ?_
  refine good_seq fun K10 hK10 => ?_
  refine gr rfl ?_
  refine em rfl (by conv=>lhs;whnf) ?_
  refine ev_q rfl (q_not rfl rfl ?_)
  refine ev_nil (hK10 _ ?_); clear hK10
  refine good_condF rfl ?_
  refine good_skip (hK9 _ ?_); clear hK9
  refine good_seq fun K11 hK11 => ?_
  refine gr rfl ?_
  refine em rfl (by conv=>lhs;whnf) ?_
  refine ea rfl (by conv=>lhs;whnf) ?_
  refine ea rfl (by conv=>lhs;whnf) ?_
  refine ev_nil (hK11 _ ?_); clear hK11
  refine good_ret ?_
  repeat first|refine thenQ_ret ?_|refine blockQ_ret ?_
  refine fx_many rfl ?_
  refine fxs_tmp (by conv=>lhs;whnf) ?_
  refine fxs_tmp (by conv=>lhs;whnf) ?_
  refine fx_nil ?_
  exact ⟨_, .tup (.cons (conv_eq (by first | rfl | (rw [e]; done) | (rw [e]; rfl) | exact ownEq (by first | omega | simp_all))) (.cons (conv_eq (by first | rfl | exact fI (by first | omega | grind) | (exfalso; first | omega | grind))) (.nil))), weakH_row (rowEq (by first | rfl | (rw [e]; done) | (rw [e]; rfl) | (simp_all; done))) (weakH_none _), refsIn_ok rfl⟩
theorem D_spec_TreeFlows (ns : List Int) (ps : List Pi) (s : Int) (ds : List Int) (hn : ns.length ≤ 17592186044416) (hp : ps.length ≤ 2513169434843) (hz : idSz ps) (ok : netOk ns ps) (hs : 0 ≤ s ∧ s < ns.length) (htr : treeP ns ps) (hdm : dmP ns ds) : Den Tryz.prog 16 [.agg [.lst 1 (ns.map ci), .lst 6 (ps.map piA)], .s (.int .i64 s), .lst 1 (ds.map ci)] (.tup [.lst 1 ((flL (ps.map pe) (smB (waysF (ps.map pe) ns.length s.toNat).2 ds) (waysF (ps.map pe) ns.length s.toNat).2).map ci), .s (.int .i64 0)]) :=
  den_of_denX (D_spec_TreeFlows_X ns ps s ds hn hp hz ok hs htr hdm) (by change (some (.tup [.lst 1 (List.take ps.length ((flL (ps.map pe) (smB (waysF (ps.map pe) ns.length s.toNat).2 ds) (waysF (ps.map pe) ns.length s.toNat).2).map ci)), .s (.int .i64 0)]) : Option AV) = some (.tup [.lst 1 ((flL (ps.map pe) (smB (waysF (ps.map pe) ns.length s.toNat).2 ds) (waysF (ps.map pe) ns.length s.toNat).2).map ci), .s (.int .i64 0)]); rw [show List.take ps.length ((flL (ps.map pe) (smB (waysF (ps.map pe) ns.length s.toNat).2 ds) (waysF (ps.map pe) ns.length s.toNat).2).map ci) = (flL (ps.map pe) (smB (waysF (ps.map pe) ns.length s.toNat).2 ds) (waysF (ps.map pe) ns.length s.toNat).2).map ci from takeLen (by rw [List.length_map, flL_len, List.length_map]; exact Nat.le_refl _)])

-- spec.l07Pressures
theorem D_spec_l07Pressures (ns : List Int) (ps : List Pi) (s : Int) (fl : List Int) (pr : Int) (hn : ns.length ≤ 17592186044416) (hp : ps.length ≤ 2513169434843) (hz : idSz ps) (hf : fl.length ≤ 17592186044416) (ok : netOk ns ps) (hs : 0 ≤ s ∧ s < ns.length) (hfl : flP ps fl) (hpr : 0 ≤ pr ∧ pr ≤ 100000000) (htr : treeP ns ps) : DenX Tryz.prog 34 [] [.rp [.lst 1 (ns.map ci), .lst 6 (ps.map piA)], .s (.int .i64 s), .lst 1 (fl.map ci), .s (.int .i64 pr)] [(900003, .row 2 1 ((if dropP ps fl then (wyR (prF ns ps fl) (ps.map pe) ns.length s.toNat pr (waysF (ps.map pe) ns.length s.toNat).2.length) else []).map ci))] (.tup [.own 900003 (if dropP ps fl then (wyR (prF ns ps fl) (ps.map pe) ns.length s.toNat pr (waysF (ps.map pe) ns.length s.toNat).2.length) else []).length, .s (.bool (decide (dropP ps fl)))]) := by
  have h16 := ok.1.1
  have h20 := ok.1.2.2
  have hol := ord_len (es := (ps.map pe)) (n := ns.length) (s := s.toNat)
  have hwl := ways_le (s := s.toNat) (esF_lt ok) (by omega)
  refine denX_of_good Tryz.func34 (by decide) rfl (Nat.le_of_ble_eq_true rfl) (Nat.le_of_ble_eq_true rfl) rfl ?_
  refine good_seq fun K1 hK1 => ?_
  refine gr rfl ?_
  refine ea rfl (by conv=>lhs;whnf) ?_
  refine ea rfl (by conv=>lhs;whnf) ?_
  refine ev_nil (hK1 _ ?_); clear hK1
  refine good_seq fun K2 hK2 => ?_
  refine gr rfl ?_
  refine em rfl (by conv=>lhs;whnf) ?_
  refine em rfl (by conv=>lhs;whnf) ?_
  refine ev_k rfl (k_callX [(900001, 900001), (900002, 900002)] (D_spec_l07Order ns ps s hn hp hz ok hs) rfl (rfl) (rfl) trivial ⟨⟨rfl, show (900001 : Nat) < 1000000 by decide⟩, ⟨⟨rfl, show (900002 : Nat) < 1000000 by decide⟩, trivial⟩⟩ rfl rfl rfl ?_)
  refine em rfl (by conv=>lhs;whnf) ?_
  refine ev_q rfl (q_extract rfl rfl ?_)
  refine ev_q rfl (q_extract rfl rfl ?_)
  refine ea rfl (by conv=>lhs;whnf) ?_
  refine ea rfl (by conv=>lhs;whnf) ?_
  refine ev_nil (hK2 _ ?_); clear hK2
  refine good_seq fun K3 hK3 => ?_
  refine gr rfl ?_
  refine em rfl (by conv=>lhs;whnf) ?_
  refine ev_q rfl (q_nilCheck (by conv=>lhs;whnf) rfl ?_)
  refine ev_q rfl (q_fieldAddr fO31_0 rfl rfl ?_)
  refine ev_q rfl (q_load tA22 rfl ?_)
  refine ev_q rfl (q_len tEs22 rfl ?_)
  intro n4 hn4
  try simp only [List.length_map] at hn4
  refine ev_k rfl (k_make tE22 rfl rfl zA2 tBy2 rfl (by omega) (by omega) (by omega) rfl (by show _ = ns.length; omega) ?_)
  refine ea rfl (by conv=>lhs;whnf) ?_
  refine ev_nil (hK3 _ ?_); clear hK3
  refine good_seq fun K5 hK5 => ?_
  refine gr rfl ?_
  refine em rfl (by conv=>lhs;whnf) ?_
  refine em rfl (by conv=>lhs;whnf) ?_
  refine em rfl (by conv=>lhs;whnf) ?_
  refine ev_q rfl (q_idxO tE22 rfl rfl rfl (by omega) (by first | omega | (simp; omega)) rfl ?_)
  refine ev_k rfl (k_storeE sz2 rfl (by conv=>lhs;whnf) rfl rfl rfl (Nat.le_of_ble_eq_true rfl) rfl (by exact repG (by omega)) (Nat.le_of_ble_eq_true rfl) rfl ?_)
  refine ev_nil (hK5 _ ?_); clear hK5
  refine good_seq fun K6 hK6 => ?_
  refine good_seq fun K7 hK7 => ?_
  refine gr rfl ?_
  refine ea rfl (by conv=>lhs;whnf) ?_
  refine ev_nil (hK7 _ ?_); clear hK7
  refine good_block ?_
  refine good_loop (α := Nat) (fun m => { env := upd (upd (upd (upd (upd (upd ((fun _ => .junk)) 0 (.rp [.lst 1 (ns.map ci), .lst 6 (ps.map piA)])) 2 (.lst 1 (fl.map ci))) 10 (.own 900001 (toI (waysF (ps.map pe) ns.length s.toNat).1).length)) 11 (.own 900002 ns.length)) 12 (.own 29 ns.length)) 13 (.s (.int .i64 ((m : Int) + 1))), H := upd (upd (upd ((fun _ => none)) 29 (some (.row 2 1 ((wyR (prF ns ps fl) (ps.map pe) ns.length s.toNat pr m).map ci)))) 900002 (some (.row 2 1 ((byL (ps.map pe) (waysF (ps.map pe) ns.length s.toNat).2 ns.length).map ci)))) 900001 (some (.row 2 1 ((toI (waysF (ps.map pe) ns.length s.toNat).1).map ci))) }) (fun m => m ≤ (waysF (ps.map pe) ns.length s.toNat).2.length ∧ ∀ (j : Nat) (w : Nat × Nat × Nat), j < m → (waysF (ps.map pe) ns.length s.toNat).2[j]? = some w → (drW ps fl w).natAbs ≤ 100000000) (fun m => (waysF (ps.map pe) ns.length s.toNat).2.length - m) 0 ?_ ?_ ?_
  · exact ⟨Nat.zero_le _, fun j w hj => by omega⟩
  · refine sub_weak ?_ ?_
    · exact weakH_row (rowEq (rfl)) (weakH_row (rowEq (rfl)) (weakH_row (rowEq (by first | exact wyR_0)) (weakH_none _)))
    · refine weakE_upd ?e13 ?r13 (weakE_upd ?e12 ?r12 (weakE_upd ?e11 ?r11 (weakE_upd ?e10 ?r10 (weakE_upd ?e2 ?r2 (weakE_upd ?e0 ?r0 (weakE_junk _ _))))))
      case e0 => first | rfl | exact fI (by omega) | (simp_all)
      case r0 => intro h hh; cases hh
      case e2 => first | rfl | exact fI (by omega) | (simp_all)
      case r2 => intro h hh; cases hh
      case e10 => first | rfl | exact fI (by omega) | (simp_all)
      case r10 => intro h hh; simp [refs] at hh; subst hh; rfl
      case e11 => first | rfl | exact fI (by omega) | (simp_all)
      case r11 => intro h hh; simp [refs] at hh; subst hh; rfl
      case e12 => first | rfl | exact fI (by omega) | (simp_all)
      case r12 => intro h hh; simp [refs] at hh; subst hh; rfl
      case e13 => first | rfl | exact fI (by omega) | (first | rfl | exact fI (by omega))
      case r13 => intro h hh; cases hh
  · rintro m ⟨hI, hJ⟩
    refine good_seq fun K8 hK8 => ?_
    refine good_seq fun K9 hK9 => ?_
    refine gr rfl ?_
    refine em rfl (by conv=>lhs;whnf) ?_
    refine em rfl (by conv=>lhs;whnf) ?_
    refine ev_q rfl (q_len tEs22 rfl ?_)
    intro n10 hn10
    try simp only [List.length_map] at hn10
    refine ei rfl rfl rfl ?_
    intro b11 hb11; cases b11
    · replace hb11 := dF hb11
      refine ev_nil (hK9 _ ?_); clear hK9
      refine good_condF rfl ?_
      refine good_exit ?_
      repeat first|refine thenQ_exit ?_|refine blockQ_pass rfl ?_
      refine blockQ_exit (hK6 _ ?_); clear hK6
      refine good_seq fun K12 hK12 => ?_
      refine gr rfl ?_
      refine em rfl (by conv=>lhs;whnf) ?_
      refine ea rfl (by conv=>lhs;whnf) ?_
      refine ea rfl (by conv=>lhs;whnf) ?_
      refine ev_nil (hK12 _ ?_); clear hK12
      refine good_weak (sub_move 8 29 900003 rfl rfl rfl (by decide)) ?_
      refine good_ret ?_
      repeat first|refine thenQ_ret ?_|refine blockQ_ret ?_
      refine fx_many rfl ?_
      refine fxs_tmp (by conv=>lhs;whnf) ?_
      refine fxs_tmp (by conv=>lhs;whnf) ?_
      refine fx_nil ?_
      clear hK8
      try (have hyes : dropP ps fl := drop_ways (s := s.toNat) ok hfl htr (by omega) (fun w hw => by obtain ⟨j, hj⟩ := List.getElem?_of_mem hw; exact hJ j w (by have := (List.getElem?_eq_some_iff.1 hj).1; omega) hj))
      first | (have e : (if dropP ps fl then (wyR (prF ns ps fl) (ps.map pe) ns.length s.toNat pr (waysF (ps.map pe) ns.length s.toNat).2.length) else []) = [] := if_neg hno) | (have e : (if dropP ps fl then (wyR (prF ns ps fl) (ps.map pe) ns.length s.toNat pr (waysF (ps.map pe) ns.length s.toNat).2.length) else []) = (wyR (prF ns ps fl) (ps.map pe) ns.length s.toNat pr m) := (if_pos hyes).trans (by rw [show (waysF (ps.map pe) ns.length s.toNat).2.length = m by omega]))
      try (have eln := wyR_len (f := prF ns ps fl) (es := (ps.map pe)) (n := ns.length) (s := s.toNat) (x := pr) (m := m))
      exact ⟨_, .tup (.cons (conv_eq (by first | rfl | (rw [e]; done) | (rw [e]; rfl) | exact ownEq (by first | omega | simp_all))) (.cons (conv_eq (by first | rfl | exact fT (by first | exact hyes | exact hno | omega) | exact fF (by first | exact hyes | exact hno | omega) | exact fT' (by first | exact hyes | exact hno | omega) | (exfalso; first | omega | grind))) (.nil))), weakH_row (rowEq (by first | (rw [e]; done) | (rw [e]; rfl))) (weakH_none _), refsIn_ok rfl⟩
    · replace hb11 := dT hb11
      obtain ⟨w, hw⟩ : ∃ w, (waysF (ps.map pe) ns.length s.toNat).2[m]? = some w := ⟨_, List.getElem?_eq_getElem (by omega)⟩
      have hwm := List.mem_of_getElem? hw
      obtain ⟨p, hW⟩ := wayOf ok (show s.toNat < ns.length by omega) hwm
      have hpp := hW.hp
      have hw1 := hW.l1
      have hw2 := hW.l2
      have hwn := hW.ne
      have hpl := (List.getElem?_eq_some_iff.1 hpp).1
      have hpo := (ok.2 _ p hpp).1
      have hp1 := hpo.1.2.1
      have hp2 := hpo.1.2.2.1
      have hp3 := hpo.1.2.2.2.1
      have hp4 := hpo.1.2.2.2.2.1
      have hp5 := hpo.1.2.2.2.2.2.1
      have hp6 := hpo.1.2.2.2.2.2.2
      obtain ⟨l, hl⟩ : ∃ l, fl[w.2.2]? = some l := ⟨_, List.getElem?_eq_getElem (by have := hfl.1; omega)⟩
      have hlb := hfl.2 _ _ hl
      have hfs := flS_y hpp hl
      have hfb : -100000 ≤ flS (ps.map pe) fl w ∧ flS (ps.map pe) fl w ≤ 100000 := by rw [hfs]; split <;> omega
      have hst := wyR_s (f := (prF ns ps fl)) (n := ns.length) (s := s.toNat) (x := pr) hw
      have hln := wyR_len (f := (prF ns ps fl)) (es := (ps.map pe)) (n := ns.length) (s := s.toNat) (m := m) (x := pr)
      have htb := wyR_grow (f := (prF ns ps fl)) (es := (ps.map pe)) (n := ns.length) (s := s.toNat) (m := m) (x := pr) (esF_lt ok) (by omega) (by omega) (by omega) (by omega) (prF_d ok hfl (by omega)) w.2.1
      have hdw := drW_bd ok hfl (by omega) hwm
      have hdq := drW_eq (fl := fl) hpp
      have hwi := ok.1.2.1
      have hg1 := nsG hwi w.1
      have hg2 := nsG hwi w.2.1
      have hrb := riW_bd (w := w) hg1 hg2
      have hri : riW ns w = dr (981 * (ns.getD w.1 0 - ns.getD w.2.1 0)) 10 := rfl
      refine ev_nil (hK9 _ ?_); clear hK9
      refine good_condT rfl ?_
      refine good_skip (hK8 _ ?_); clear hK8
      refine good_seq fun K13 hK13 => ?_
      refine good_block ?_
      refine good_seq fun K14 hK14 => ?_
      refine gr rfl ?_
      refine em rfl (by conv=>lhs;whnf) ?_
      refine em rfl (by conv=>lhs;whnf) ?_
      refine ev_q rfl (q_idxO tE22 rfl rfl rfl (by omega) (by first | omega | (simp; omega)) rfl ?_)
      refine ev_q rfl (q_loadE tA2 rfl rfl (by exact ord_get hw) rfl ?_)
      refine ea rfl (by conv=>lhs;whnf) ?_
      refine ev_nil (hK14 _ ?_); clear hK14
      refine good_seq fun K15 hK15 => ?_
      refine gr rfl ?_
      refine em rfl (by conv=>lhs;whnf) ?_
      refine em rfl (by conv=>lhs;whnf) ?_
      refine em rfl (by conv=>lhs;whnf) ?_
      refine ev_q rfl (q_idxO tE22 rfl rfl rfl (by omega) (by first | omega | (simp; omega)) rfl ?_)
      refine ev_q rfl (q_loadE tA2 rfl rfl (by exact by_get ok (by omega) hwm rfl) rfl ?_)
      refine ev_q rfl (q_callI rfl rfl (rfl) (D_before ns ps w p hW (by omega)) ?_)
      intro n16 hn16
      refine ea rfl (by conv=>lhs;whnf) ?_
      refine ev_nil (hK15 _ ?_); clear hK15
      refine good_seq fun K17 hK17 => ?_
      refine good_draw 18 hmix (by kernel_rfl) rfl ?_
      refine qm rfl (by conv=>lhs;whnf) ?_
      refine qm rfl (by conv=>lhs;whnf) ?_
      refine qm rfl (by conv=>lhs;whnf) ?_
      refine qo_q rfl (q_idxO tE22 rfl rfl rfl (by omega) (by first | omega | (simp; omega)) rfl ?_)
      refine qo_q rfl (q_loadE tA2 rfl rfl (by exact by_get ok (by omega) hwm rfl) rfl ?_)
      refine qo_q rfl (q_call rfl rfl (rfl) (D_pipe ns ps w p hW (by omega)) rfl ?_)
      refine qm rfl (by conv=>lhs;whnf) ?_
      refine qm rfl (by conv=>lhs;whnf) ?_
      refine qm rfl (by conv=>lhs;whnf) ?_
      refine qo_q rfl (q_idxO tE22 rfl rfl rfl (by omega) (by first | omega | (simp; omega)) rfl ?_)
      refine qo_q rfl (q_loadE tA2 rfl rfl (by exact by_get ok (by omega) hwm rfl) rfl ?_)
      refine qo_q rfl (q_callI rfl rfl (rfl) (D_along ps ns fl w p l hW (by omega) hl hlb hp3) ?_)
      intro n18 hn18
      have hdq2 : drp p.le p.di n18 = drW ps fl w := by rw [hdq, hn18]
      refine qo_q rfl (q_call rfl rfl (rfl) (D_spec_l03Drop _ _ _ _ _ _ _ hp4 hp5 (by omega)) rfl ?_)
      refine qm rfl (by conv=>lhs;whnf) ?_
      refine qo_q rfl (q_extractI rfl rfl ?_)
      intro n19 hn19
      rw [hdq2] at hn19
      refine qo_q rfl (q_extractI rfl rfl ?_)
      intro n20 hn20
      rw [hdq2] at hn20
      refine qa rfl (by conv=>lhs;whnf) ?_
      refine qa rfl (by conv=>lhs;whnf) ?_
      refine qo_nil ?_
      refine ev_nil (hK17 _ ?_); clear hK17
      refine good_seq fun K21 hK21 => ?_
      refine good_seq fun K22 hK22 => ?_
      refine gr rfl ?_
      refine em rfl (by conv=>lhs;whnf) ?_
      refine ei rfl rfl rfl ?_
      intro b23 hb23; cases b23
      · replace hb23 := neF hb23
        have hab : (drW ps fl w).natAbs ≤ 100000000 := by split at hn20 <;> omega
        have hd0 : n19 = drW ps fl w := by split at hn19 <;> omega
        refine ev_nil (hK22 _ ?_); clear hK22
        refine good_condF rfl ?_
        refine good_skip (hK21 _ ?_); clear hK21
        refine good_draw 25 hmix (by kernel_rfl) rfl ?_
        refine qm rfl (by conv=>lhs;whnf) ?_
        refine qm rfl (by conv=>lhs;whnf) ?_
        refine qm rfl (by conv=>lhs;whnf) ?_
        refine qm rfl (by conv=>lhs;whnf) ?_
        refine qo_q rfl (q_idxO tE22 rfl rfl rfl (by omega) (by first | omega | (simp; omega)) rfl ?_)
        refine qo_q rfl (q_loadE tA2 rfl rfl (by exact getW (t := (wyR (prF ns ps fl) (ps.map pe) ns.length s.toNat pr m)) (v := w.2.1) (by omega) (by assumption)) rfl ?_)
        refine qm rfl (by conv=>lhs;whnf) ?_
        refine qo_q rfl (q_int rfl rfl ?_)
        intro n24 hn24
        replace hn24 := in64 hn24 (by omega) (by omega)
        refine qm rfl (by conv=>lhs;whnf) ?_
        refine qo_q rfl (q_nilCheck (by conv=>lhs;whnf) rfl ?_)
        refine qo_q rfl (q_fieldAddr fO31_0 rfl rfl ?_)
        refine qo_q rfl (q_load tA22 rfl ?_)
        refine qm rfl (by conv=>lhs;whnf) ?_
        refine qo_q rfl (q_idx tE22 rfl rfl (by omega) (by exact getW (t := ns) (v := w.2.1) (by omega) (by assumption)) rfl ?_)
        refine qo_q rfl (q_load tA2 rfl ?_)
        refine qm rfl (by conv=>lhs;whnf) ?_
        refine qo_q rfl (q_nilCheck (by conv=>lhs;whnf) rfl ?_)
        refine qo_q rfl (q_fieldAddr fO31_0 rfl rfl ?_)
        refine qo_q rfl (q_load tA22 rfl ?_)
        refine qm rfl (by conv=>lhs;whnf) ?_
        refine qo_q rfl (q_idx tE22 rfl rfl (by omega) (by exact getW (t := ns) (v := w.1) (by omega) (by first | rfl | assumption)) rfl ?_)
        refine qo_q rfl (q_load tA2 rfl ?_)
        refine qo_q rfl (q_callI rfl rfl (rfl) (D_spec_l07Static _ _ hg2 hg1) ?_)
        intro n25 hn25
        rw [← hri] at hn25
        refine qo_q rfl (q_int rfl rfl ?_)
        intro n26 hn26
        replace hn26 := in64 hn26 (by omega) (by omega)
        have hS : ((wyR (prF ns ps fl) (ps.map pe) ns.length s.toNat pr m).map ci).set w.1 (ci n26) = (wyR (prF ns ps fl) (ps.map pe) ns.length s.toNat pr (m + 1)).map ci := by rw [mapSet, hst, show n26 = prF ns ps fl w ((wyR (prF ns ps fl) (ps.map pe) ns.length s.toNat pr m).getD w.2.1 0) by have := prF_eq (ns := ns) (ps := ps) (fl := fl) (w := w) (a := (wyR (prF ns ps fl) (ps.map pe) ns.length s.toNat pr m).getD w.2.1 0); omega]
        refine qo_q rfl (q_idxO tE22 rfl rfl rfl (by omega) (by first | omega | (simp; omega)) rfl ?_)
        refine qo_nil ?_
        refine ev_k rfl (k_storeE sz2 rfl (by conv=>lhs;whnf) rfl rfl rfl (Nat.le_of_ble_eq_true rfl) rfl (by exact getG (by omega)) (Nat.le_of_ble_eq_true rfl) rfl ?_)
        refine ev_nil (hK13 _ ?_); clear hK13
        refine gr rfl ?_
        refine em rfl (by conv=>lhs;whnf) ?_
        refine ei rfl rfl rfl ?_
        intro n27 hn27
        replace hn27 := in64 hn27 (by omega) (by omega)
        refine ea rfl (by conv=>lhs;whnf) ?_
        refine ev_nil ?_
        clear hK6
        refine ⟨m + 1, ?_, ?_, ?_⟩
        · refine ⟨by omega, fun j w2 hj h1 => ?_⟩
          by_cases c : j = m
          · subst c; rw [hw] at h1; cases h1; exact hab
          · exact hJ j w2 (by omega) h1
        · first | omega | (simp only []; omega) | (dsimp only; omega)
        · refine sub_weak ?_ ?_
          · exact weakH_row (rowEq (rfl)) (weakH_row (rowEq (rfl)) (weakH_row (rowEq (by exact hS)) (weakH_none _)))
          · refine weakE_upd ?e13 ?r13 (weakE_upd ?e12 ?r12 (weakE_upd ?e11 ?r11 (weakE_upd ?e10 ?r10 (weakE_upd ?e2 ?r2 (weakE_upd ?e0 ?r0 (weakE_junk _ _))))))
            case e0 => first | rfl | exact fI (by omega) | (simp_all)
            case r0 => intro h hh; cases hh
            case e2 => first | rfl | exact fI (by omega) | (simp_all)
            case r2 => intro h hh; cases hh
            case e10 => first | rfl | exact fI (by omega) | (simp_all)
            case r10 => intro h hh; simp [refs] at hh; subst hh; rfl
            case e11 => first | rfl | exact fI (by omega) | (simp_all)
            case r11 => intro h hh; simp [refs] at hh; subst hh; rfl
            case e12 => first | rfl | exact fI (by omega) | (simp_all)
            case r12 => intro h hh; simp [refs] at hh; subst hh; rfl
            case e13 => first | rfl | exact fI (by omega) | (first | rfl | exact fI (by omega))
            case r13 => intro h hh; cases hh
      · replace hb23 := neT hb23
        have hno := drop_no ok hpp hl (by split at hn20 <;> omega)
        refine ev_nil (hK22 _ ?_); clear hK22
        refine good_condT rfl ?_
        refine good_seq fun K28 hK28 => ?_
        refine gr rfl ?_
        refine ea rfl (by conv=>lhs;whnf) ?_
        refine ea rfl (by conv=>lhs;whnf) ?_
        refine ev_nil (hK28 _ ?_); clear hK28
        refine good_ret ?_
        repeat first|refine thenQ_ret ?_|refine blockQ_ret ?_
        refine fx_many rfl ?_
        refine fxs_tmp (by conv=>lhs;whnf) ?_
        refine fxs_tmp (by conv=>lhs;whnf) ?_
        refine fx_nil ?_
        clear hK6 hK13 hK21
        try (have hyes : dropP ps fl := drop_ways (s := s.toNat) ok hfl htr (by omega) (fun w hw => by obtain ⟨j, hj⟩ := List.getElem?_of_mem hw; exact hJ j w (by have := (List.getElem?_eq_some_iff.1 hj).1; omega) hj))
        first | (have e : (if dropP ps fl then (wyR (prF ns ps fl) (ps.map pe) ns.length s.toNat pr (waysF (ps.map pe) ns.length s.toNat).2.length) else []) = [] := if_neg hno) | (have e : (if dropP ps fl then (wyR (prF ns ps fl) (ps.map pe) ns.length s.toNat pr (waysF (ps.map pe) ns.length s.toNat).2.length) else []) = (wyR (prF ns ps fl) (ps.map pe) ns.length s.toNat pr m) := (if_pos hyes).trans (by rw [show (waysF (ps.map pe) ns.length s.toNat).2.length = m by omega]))
        try (have eln := wyR_len (f := prF ns ps fl) (es := (ps.map pe)) (n := ns.length) (s := s.toNat) (x := pr) (m := m))
        exact ⟨_, .tup (.cons (conv_nil rfl (by decide) (by rw [e]; rfl)) (.cons (conv_eq (by first | rfl | exact fT (by first | exact hyes | exact hno | omega) | exact fF (by first | exact hyes | exact hno | omega) | exact fT' (by first | exact hyes | exact hno | omega) | (exfalso; first | omega | grind))) (.nil))), weakH_row (rowEq (by first | (rw [e]; done) | (rw [e]; rfl))) (weakH_none _), refsIn_ok rfl⟩

-- spec.PressuresOf
theorem D_spec_PressuresOf_X (ns : List Int) (ps : List Pi) (s : Int) (fl : List Int) (pr : Int) (hn : ns.length ≤ 17592186044416) (hp : ps.length ≤ 2513169434843) (hz : idSz ps) (hf : fl.length ≤ 17592186044416) (ok : netOk ns ps) (hs : 0 ≤ s ∧ s < ns.length) (hfl : flP ps fl) (hpr : 0 ≤ pr ∧ pr ≤ 100000000) (htr : treeP ns ps) (hdr : dropP ps fl) : DenX Tryz.prog 18 [] [.agg [.lst 1 (ns.map ci), .lst 6 (ps.map piA)], .s (.int .i64 s), .lst 1 (fl.map ci), .s (.int .i64 pr)] [(900003, .row 2 1 ((wyR (prF ns ps fl) (ps.map pe) ns.length s.toNat pr (waysF (ps.map pe) ns.length s.toNat).2.length).map ci))] (.tup [.own 900003 ns.length, .s (.int .i64 0)]) := by
  refine denX_of_good Tryz.func18 (by decide) rfl (Nat.le_of_ble_eq_true rfl) (Nat.le_of_ble_eq_true rfl) rfl ?_
  refine good_seq fun K1 hK1 => ?_
  refine gr rfl ?_
  refine ev_k rfl (k_box (by conv=>lhs;whnf) rfl rfl rfl ?_)
  refine ea rfl (by conv=>lhs;whnf) ?_
  refine ea rfl (by conv=>lhs;whnf) ?_
  refine ev_nil (hK1 _ ?_); clear hK1
  refine good_seq fun K2 hK2 => ?_
  refine gr rfl ?_
  refine em rfl (by conv=>lhs;whnf) ?_
  refine em rfl (by conv=>lhs;whnf) ?_
  refine em rfl (by conv=>lhs;whnf) ?_
  refine ev_q rfl (q_callI rfl rfl (rfl) (D_spec_l07Given_P ns ps s fl pr hn hp hz hf hpr) ?_)
  intro n3 hn3
  rw [fc_y ok hs hfl htr] at hn3
  refine ea rfl (by conv=>lhs;whnf) ?_
  refine ev_nil (hK2 _ ?_); clear hK2
  refine good_seq fun K4 hK4 => ?_
  refine good_seq fun K5 hK5 => ?_
  refine gr rfl ?_
  refine em rfl (by conv=>lhs;whnf) ?_
  refine ei rfl rfl rfl ?_
  intro b6 hb6; cases b6
  rotate_left
  · replace hb6 := neT hb6
    exfalso; omega
  replace hb6 := neF hb6
  refine ev_nil (hK5 _ ?_); clear hK5
  refine good_condF rfl ?_
  refine good_skip (hK4 _ ?_); clear hK4
  refine good_seq fun K7 hK7 => ?_
  refine gr rfl ?_
  refine em rfl (by conv=>lhs;whnf) ?_
  refine em rfl (by conv=>lhs;whnf) ?_
  refine em rfl (by conv=>lhs;whnf) ?_
  refine ev_k rfl (k_callXc [(900003, 900003)] (D_spec_l07Pressures ns ps s fl pr hn hp hz hf ok hs hfl hpr htr) rfl (rfl) (⟨rfl, ⟨pure_ci, trivial⟩⟩) trivial ⟨⟨rfl, show (900003 : Nat) < 1000000 by decide⟩, trivial⟩ rfl rfl rfl ?_)
  refine em rfl (by conv=>lhs;whnf) ?_
  refine ev_q rfl (q_extract rfl rfl ?_)
  refine ev_q rfl (q_extractB rfl rfl ?_)
  intro b8 hb8; cases b8
  · first | replace hb8 := dF hb8 | skip
    exfalso; first | contradiction | simp_all
  first | replace hb8 := dT hb8 | skip
  refine ea rfl (by conv=>lhs;whnf) ?_
  refine ea rfl (by conv=>lhs;whnf) ?_
  refine ev_nil (hK7 _ ?_); clear hK7
  refine good_seq fun K9 hK9 => ?_
  refine good_seq fun K10 hK10 => ?_
  refine gr rfl ?_
  refine em rfl (by conv=>lhs;whnf) ?_
  refine ev_q rfl (q_not rfl rfl ?_)
  refine ev_nil (hK10 _ ?_); clear hK10
  refine good_condF rfl ?_
  refine good_skip (hK9 _ ?_); clear hK9
  refine good_seq fun K11 hK11 => ?_
  refine gr rfl ?_
  refine em rfl (by conv=>lhs;whnf) ?_
  refine ea rfl (by conv=>lhs;whnf) ?_
  refine ea rfl (by conv=>lhs;whnf) ?_
  refine ev_nil (hK11 _ ?_); clear hK11
  refine good_ret ?_
  repeat first|refine thenQ_ret ?_|refine blockQ_ret ?_
  refine fx_many rfl ?_
  refine fxs_tmp (by conv=>lhs;whnf) ?_
  refine fxs_tmp (by conv=>lhs;whnf) ?_
  refine fx_nil ?_
  have e : (if dropP ps fl then (wyR (prF ns ps fl) (ps.map pe) ns.length s.toNat pr (waysF (ps.map pe) ns.length s.toNat).2.length) else []) = (wyR (prF ns ps fl) (ps.map pe) ns.length s.toNat pr (waysF (ps.map pe) ns.length s.toNat).2.length) := if_pos hdr
  have eln := wyR_len (f := prF ns ps fl) (es := (ps.map pe)) (n := ns.length) (s := s.toNat) (x := pr) (m := (waysF (ps.map pe) ns.length s.toNat).2.length)
  exact ⟨_, .tup (.cons (conv_eq (by first | rfl | (rw [e]; done) | (rw [e]; rfl) | exact ownEq (by first | omega | simp_all))) (.cons (conv_eq (by first | rfl | exact fI (by first | omega | grind) | (exfalso; first | omega | grind))) (.nil))), weakH_row (rowEq (by first | (rw [e]; done) | (rw [e]; rfl))) (weakH_none _), refsIn_ok rfl⟩
theorem D_spec_PressuresOf (ns : List Int) (ps : List Pi) (s : Int) (fl : List Int) (pr : Int) (hn : ns.length ≤ 17592186044416) (hp : ps.length ≤ 2513169434843) (hz : idSz ps) (hf : fl.length ≤ 17592186044416) (ok : netOk ns ps) (hs : 0 ≤ s ∧ s < ns.length) (hfl : flP ps fl) (hpr : 0 ≤ pr ∧ pr ≤ 100000000) (htr : treeP ns ps) (hdr : dropP ps fl) : Den Tryz.prog 18 [.agg [.lst 1 (ns.map ci), .lst 6 (ps.map piA)], .s (.int .i64 s), .lst 1 (fl.map ci), .s (.int .i64 pr)] (.tup [.lst 1 ((wyR (prF ns ps fl) (ps.map pe) ns.length s.toNat pr (waysF (ps.map pe) ns.length s.toNat).2.length).map ci), .s (.int .i64 0)]) :=
  den_of_denX (D_spec_PressuresOf_X ns ps s fl pr hn hp hz hf ok hs hfl hpr htr hdr) (by change (some (.tup [.lst 1 (List.take ns.length ((wyR (prF ns ps fl) (ps.map pe) ns.length s.toNat pr (waysF (ps.map pe) ns.length s.toNat).2.length).map ci)), .s (.int .i64 0)]) : Option AV) = some (.tup [.lst 1 ((wyR (prF ns ps fl) (ps.map pe) ns.length s.toNat pr (waysF (ps.map pe) ns.length s.toNat).2.length).map ci), .s (.int .i64 0)]); rw [show List.take ns.length ((wyR (prF ns ps fl) (ps.map pe) ns.length s.toNat pr (waysF (ps.map pe) ns.length s.toNat).2.length).map ci) = (wyR (prF ns ps fl) (ps.map pe) ns.length s.toNat pr (waysF (ps.map pe) ns.length s.toNat).2.length).map ci from takeLen (by rw [List.length_map, wyR_len]; exact Nat.le_refl _)])

-- spec.SteamPressure
theorem D_spec_SteamPressure (t : Int)  : Den Tryz.prog 25 [.s (.int .i64 t)] (.tup [.s (.int .i64 (if 0 ≤ t ∧ t ≤ 18000 then stm t else 0)), .s (.int .i64 (if 0 ≤ t ∧ t ≤ 18000 then 0 else 2))]) := by
  refine den_of_good Tryz.func25 (by decide) rfl (Nat.le_of_ble_eq_true rfl) (Nat.le_of_ble_eq_true rfl) ?_
  refine good_seq fun K1 hK1 => ?_
  refine gr rfl ?_
  refine ea rfl (by conv=>lhs;whnf) ?_
  refine ea rfl (by conv=>lhs;whnf) ?_
  refine ev_nil (hK1 _ ?_); clear hK1
  refine good_seq fun K2 hK2 => ?_
  refine good_seq fun K3 hK3 => ?_
  refine gr rfl ?_
  refine em rfl (by conv=>lhs;whnf) ?_
  refine ev_q rfl (q_callB rfl rfl (rfl) (D_spec_l02Degrees ..) ?_)
  intro b4 hb4; cases b4
  · first | replace hb4 := dF hb4 | skip
    refine ev_q rfl (q_not rfl rfl ?_)
    refine ev_nil (hK3 _ ?_); clear hK3
    refine good_condT rfl ?_
    refine good_seq fun K5 hK5 => ?_
    refine gr rfl ?_
    refine ea rfl (by conv=>lhs;whnf) ?_
    refine ea rfl (by conv=>lhs;whnf) ?_
    refine ev_nil (hK5 _ ?_); clear hK5
    refine good_ret ?_
    repeat first|refine thenQ_ret ?_|refine blockQ_ret ?_
    refine ret_many rfl ?_
    refine res_tmp (by conv=>lhs;whnf) rfl ?_
    refine res_tmp (by conv=>lhs;whnf) rfl ?_
    refine res_nil ?_
    clear hK2
    first | exact fTup1 (fI (by rw [if_pos (by omega)]; assumption)) (fTup1 (fI (by rw [if_pos (by omega)])) rfl) | exact fTup1 (fI (by rw [if_neg (by omega)])) (fTup1 (fI (by rw [if_neg (by omega)])) rfl)
  · first | replace hb4 := dT hb4 | skip
    refine ev_q rfl (q_not rfl rfl ?_)
    refine ev_nil (hK3 _ ?_); clear hK3
    refine good_condF rfl ?_
    refine good_skip (hK2 _ ?_); clear hK2
    refine good_seq fun K6 hK6 => ?_
    refine gr rfl ?_
    refine em rfl (by conv=>lhs;whnf) ?_
    refine ev_q rfl (q_callI rfl rfl (rfl) (D_spec_l02Pressure _ (by omega)) ?_)
    intro n7 hn7
    refine ea rfl (by conv=>lhs;whnf) ?_
    refine ea rfl (by conv=>lhs;whnf) ?_
    refine ev_nil (hK6 _ ?_); clear hK6
    refine good_ret ?_
    repeat first|refine thenQ_ret ?_|refine blockQ_ret ?_
    refine ret_many rfl ?_
    refine res_tmp (by conv=>lhs;whnf) rfl ?_
    refine res_tmp (by conv=>lhs;whnf) rfl ?_
    refine res_nil ?_
    first | exact fTup1 (fI (by rw [if_pos (by omega)]; assumption)) (fTup1 (fI (by rw [if_pos (by omega)])) rfl) | exact fTup1 (fI (by rw [if_neg (by omega)])) (fTup1 (fI (by rw [if_neg (by omega)])) rfl)

-- impl.boilingCode
theorem D_impl_boilingCode (xs ds : List Int) (m lim : Int) (hx : xs.length ≤ 17592186044416) (hd : ds.length ≤ 17592186044416) : Den Tryz.prog 54 [.lst 1 (xs.map ci), .lst 1 (ds.map ci), .s (.int .i64 m), .s (.int .i64 lim)] (.s (.int .i64 (bc xs ds m lim))) := by
  refine den_of_good Tryz.func54 (by decide) rfl (Nat.le_of_ble_eq_true rfl) (Nat.le_of_ble_eq_true rfl) ?_
  refine good_seq fun K1 hK1 => ?_
  refine gr rfl ?_
  refine ea rfl (by conv=>lhs;whnf) ?_
  refine ev_nil (hK1 _ ?_); clear hK1
  refine good_seq fun K2 hK2 => ?_
  refine good_block ?_
  refine good_seq fun K3 hK3 => ?_
  refine gr rfl ?_
  refine em rfl (by conv=>lhs;whnf) ?_
  refine ev_q rfl (q_callB rfl rfl (rfl) (D_impl_marginOk ..) ?_)
  intro b4 hb4; cases b4
  · first | replace hb4 := dF hb4 | skip
    refine ev_q rfl (q_not rfl rfl ?_)
    refine em rfl (by conv=>lhs;whnf) ?_
    refine ev_skip rfl ?_
    refine ev_skip rfl ?_
    refine ev_skip rfl ?_
    refine ev_q rfl (q_pickT rfl (by conv=>lhs;whnf) ?_)
    refine em rfl (by conv=>lhs;whnf) ?_
    refine ev_skip rfl ?_
    refine ev_skip rfl ?_
    refine ev_skip rfl ?_
    refine ev_q rfl (q_pickT rfl (by conv=>lhs;whnf) ?_)
    refine em rfl (by conv=>lhs;whnf) ?_
    refine ev_skip rfl ?_
    refine ev_skip rfl ?_
    refine ev_skip rfl ?_
    refine ev_q rfl (q_pickT rfl (by conv=>lhs;whnf) ?_)
    refine ea rfl (by conv=>lhs;whnf) ?_
    refine ev_nil (hK3 _ ?_); clear hK3
    refine good_condT rfl ?_
    refine good_seq fun K5 hK5 => ?_
    refine gr rfl ?_
    refine ea rfl (by conv=>lhs;whnf) ?_
    refine ev_nil (hK5 _ ?_); clear hK5
    refine good_ret ?_
    repeat first|refine thenQ_ret ?_|refine blockQ_ret ?_
    refine ret_tmp (st := _) rfl (by conv=>lhs;whnf) rfl ?_
    clear hK2
    first | exact fI (by rw [bc_zero ⟨by omega, by omega⟩]; first | rw [ln0 (by assumption) (by assumption) (by omega)] | rw [ln7 (by assumption) (by assumption) (by omega)] | rw [ln2 (.inl (by assumption))] | rw [ln2 (.inr (by assumption))]) | exact fI (by unfold bc; rw [if_neg (by omega)])
  · first | replace hb4 := dT hb4 | skip
    refine ev_q rfl (q_not rfl rfl ?_)
    refine em rfl (by conv=>lhs;whnf) ?_
    refine em rfl (by conv=>lhs;whnf) ?_
    refine ev_q rfl (q_callB rfl rfl (rfl) (D_impl_pressureOk ..) ?_)
    intro b6 hb6; cases b6
    · first | replace hb6 := dF hb6 | skip
      refine ev_q rfl (q_not rfl rfl ?_)
      refine ev_q rfl (q_pickF rfl (by conv=>lhs;whnf) ?_)
      refine em rfl (by conv=>lhs;whnf) ?_
      refine ev_skip rfl ?_
      refine ev_skip rfl ?_
      refine ev_skip rfl ?_
      refine ev_q rfl (q_pickT rfl (by conv=>lhs;whnf) ?_)
      refine em rfl (by conv=>lhs;whnf) ?_
      refine ev_skip rfl ?_
      refine ev_skip rfl ?_
      refine ev_skip rfl ?_
      refine ev_q rfl (q_pickT rfl (by conv=>lhs;whnf) ?_)
      refine ea rfl (by conv=>lhs;whnf) ?_
      refine ev_nil (hK3 _ ?_); clear hK3
      refine good_condT rfl ?_
      refine good_seq fun K7 hK7 => ?_
      refine gr rfl ?_
      refine ea rfl (by conv=>lhs;whnf) ?_
      refine ev_nil (hK7 _ ?_); clear hK7
      refine good_ret ?_
      repeat first|refine thenQ_ret ?_|refine blockQ_ret ?_
      refine ret_tmp (st := _) rfl (by conv=>lhs;whnf) rfl ?_
      clear hK2
      first | exact fI (by rw [bc_zero ⟨by omega, by omega⟩]; first | rw [ln0 (by assumption) (by assumption) (by omega)] | rw [ln7 (by assumption) (by assumption) (by omega)] | rw [ln2 (.inl (by assumption))] | rw [ln2 (.inr (by assumption))]) | exact fI (by unfold bc; rw [if_neg (by omega)])
    · first | replace hb6 := dT hb6 | skip
      refine ev_q rfl (q_not rfl rfl ?_)
      refine ev_q rfl (q_pickF rfl (by conv=>lhs;whnf) ?_)
      refine em rfl (by conv=>lhs;whnf) ?_
      refine em rfl (by conv=>lhs;whnf) ?_
      refine ev_q rfl (q_callB rfl rfl (rfl) (D_impl_allWithin xs _ _ hx) ?_)
      intro b8 hb8; cases b8
      · first | replace hb8 := dF hb8 | skip
        refine ev_q rfl (q_not rfl rfl ?_)
        refine ev_q rfl (q_pickF rfl (by conv=>lhs;whnf) ?_)
        refine em rfl (by conv=>lhs;whnf) ?_
        refine ev_skip rfl ?_
        refine ev_skip rfl ?_
        refine ev_skip rfl ?_
        refine ev_q rfl (q_pickT rfl (by conv=>lhs;whnf) ?_)
        refine ea rfl (by conv=>lhs;whnf) ?_
        refine ev_nil (hK3 _ ?_); clear hK3
        refine good_condT rfl ?_
        refine good_seq fun K9 hK9 => ?_
        refine gr rfl ?_
        refine ea rfl (by conv=>lhs;whnf) ?_
        refine ev_nil (hK9 _ ?_); clear hK9
        refine good_ret ?_
        repeat first|refine thenQ_ret ?_|refine blockQ_ret ?_
        refine ret_tmp (st := _) rfl (by conv=>lhs;whnf) rfl ?_
        clear hK2
        first | exact fI (by rw [bc_zero ⟨by omega, by omega⟩]; first | rw [ln0 (by assumption) (by assumption) (by omega)] | rw [ln7 (by assumption) (by assumption) (by omega)] | rw [ln2 (.inl (by assumption))] | rw [ln2 (.inr (by assumption))]) | exact fI (by unfold bc; rw [if_neg (by omega)])
      · first | replace hb8 := dT hb8 | skip
        refine ev_q rfl (q_not rfl rfl ?_)
        refine ev_q rfl (q_pickF rfl (by conv=>lhs;whnf) ?_)
        refine em rfl (by conv=>lhs;whnf) ?_
        refine em rfl (by conv=>lhs;whnf) ?_
        refine ev_q rfl (q_callB rfl rfl (rfl) (D_impl_allWithin ds _ _ hd) ?_)
        intro b10 hb10; cases b10
        · first | replace hb10 := dF hb10 | skip
          refine ev_q rfl (q_not rfl rfl ?_)
          refine ev_q rfl (q_pickF rfl (by conv=>lhs;whnf) ?_)
          refine ea rfl (by conv=>lhs;whnf) ?_
          refine ev_nil (hK3 _ ?_); clear hK3
          refine good_condT rfl ?_
          refine good_seq fun K11 hK11 => ?_
          refine gr rfl ?_
          refine ea rfl (by conv=>lhs;whnf) ?_
          refine ev_nil (hK11 _ ?_); clear hK11
          refine good_ret ?_
          repeat first|refine thenQ_ret ?_|refine blockQ_ret ?_
          refine ret_tmp (st := _) rfl (by conv=>lhs;whnf) rfl ?_
          clear hK2
          first | exact fI (by rw [bc_zero ⟨by omega, by omega⟩]; first | rw [ln0 (by assumption) (by assumption) (by omega)] | rw [ln7 (by assumption) (by assumption) (by omega)] | rw [ln2 (.inl (by assumption))] | rw [ln2 (.inr (by assumption))]) | exact fI (by unfold bc; rw [if_neg (by omega)])
        · first | replace hb10 := dT hb10 | skip
          refine ev_q rfl (q_not rfl rfl ?_)
          refine ev_q rfl (q_pickF rfl (by conv=>lhs;whnf) ?_)
          refine ea rfl (by conv=>lhs;whnf) ?_
          refine ev_nil (hK3 _ ?_); clear hK3
          refine good_condF rfl ?_
          refine good_seq fun K12 hK12 => ?_
          refine gr rfl ?_
          refine em rfl (by conv=>lhs;whnf) ?_
          refine ev_q rfl (q_len tEs22 rfl ?_)
          intro n13 hn13
          try simp only [List.length_map] at hn13
          refine em rfl (by conv=>lhs;whnf) ?_
          refine ev_q rfl (q_len tEs22 rfl ?_)
          intro n14 hn14
          try simp only [List.length_map] at hn14
          refine ei rfl rfl rfl ?_
          intro b15 hb15; cases b15
          · replace hb15 := neF hb15
            refine em rfl (by conv=>lhs;whnf) ?_
            refine em rfl (by conv=>lhs;whnf) ?_
            refine ev_q rfl (q_len tEs22 rfl ?_)
            intro n16 hn16
            try simp only [List.length_map] at hn16
            refine ei rfl rfl rfl ?_
            intro b17 hb17; cases b17
            · replace hb17 := dF hb17
              refine ev_q rfl (q_pickF rfl (by conv=>lhs;whnf) ?_)
              refine ea rfl (by conv=>lhs;whnf) ?_
              refine ev_nil (hK12 _ ?_); clear hK12
              refine good_condF rfl ?_
              refine good_skip (hK2 _ ?_); clear hK2
              refine good_seq fun K18 hK18 => ?_
              refine gr rfl ?_
              refine ea rfl (by conv=>lhs;whnf) ?_
              refine ev_nil (hK18 _ ?_); clear hK18
              refine good_ret ?_
              repeat first|refine thenQ_ret ?_|refine blockQ_ret ?_
              refine ret_tmp (st := _) rfl (by conv=>lhs;whnf) rfl ?_
              first | exact fI (by rw [bc_zero ⟨by omega, by omega⟩]; first | rw [ln0 (by assumption) (by assumption) (by omega)] | rw [ln7 (by assumption) (by assumption) (by omega)] | rw [ln2 (.inl (by assumption))] | rw [ln2 (.inr (by assumption))]) | exact fI (by unfold bc; rw [if_neg (by omega)])
            · replace hb17 := dT hb17
              refine ev_q rfl (q_pickF rfl (by conv=>lhs;whnf) ?_)
              refine ea rfl (by conv=>lhs;whnf) ?_
              refine ev_nil (hK12 _ ?_); clear hK12
              refine good_condT rfl ?_
              refine good_seq fun K19 hK19 => ?_
              refine gr rfl ?_
              refine ea rfl (by conv=>lhs;whnf) ?_
              refine ev_nil (hK19 _ ?_); clear hK19
              refine good_ret ?_
              repeat first|refine thenQ_ret ?_|refine blockQ_ret ?_
              refine ret_tmp (st := _) rfl (by conv=>lhs;whnf) rfl ?_
              clear hK2
              first | exact fI (by rw [bc_zero ⟨by omega, by omega⟩]; first | rw [ln0 (by assumption) (by assumption) (by omega)] | rw [ln7 (by assumption) (by assumption) (by omega)] | rw [ln2 (.inl (by assumption))] | rw [ln2 (.inr (by assumption))]) | exact fI (by unfold bc; rw [if_neg (by omega)])
          · replace hb15 := neT hb15
            refine em rfl (by conv=>lhs;whnf) ?_
            refine ev_skip rfl ?_
            refine ev_skip rfl ?_
            refine ev_skip rfl ?_
            refine ev_q rfl (q_pickT rfl (by conv=>lhs;whnf) ?_)
            refine ea rfl (by conv=>lhs;whnf) ?_
            refine ev_nil (hK12 _ ?_); clear hK12
            refine good_condT rfl ?_
            refine good_seq fun K20 hK20 => ?_
            refine gr rfl ?_
            refine ea rfl (by conv=>lhs;whnf) ?_
            refine ev_nil (hK20 _ ?_); clear hK20
            refine good_ret ?_
            repeat first|refine thenQ_ret ?_|refine blockQ_ret ?_
            refine ret_tmp (st := _) rfl (by conv=>lhs;whnf) rfl ?_
            clear hK2
            first | exact fI (by rw [bc_zero ⟨by omega, by omega⟩]; first | rw [ln0 (by assumption) (by assumption) (by omega)] | rw [ln7 (by assumption) (by assumption) (by omega)] | rw [ln2 (.inl (by assumption))] | rw [ln2 (.inr (by assumption))]) | exact fI (by unfold bc; rw [if_neg (by omega)])

-- impl.BoilingNodes
theorem D_impl_BoilingNodes_X (xs ds : List Int) (m : Int) (hx : xs.length ≤ 17592186044416) (hd : ds.length ≤ 17592186044416) : DenX Tryz.prog 19 [] [.lst 1 (xs.map ci), .lst 1 (ds.map ci), .s (.int .i64 m)] [(38, .row 2 1 ((bnL xs ds m).map ci))] (.tup [.own 38 (bnL xs ds m).length, .s (.int .i64 (bnC xs ds m))]) := by
  refine denX_of_good Tryz.func19 (by decide) rfl (Nat.le_of_ble_eq_true rfl) (Nat.le_of_ble_eq_true rfl) rfl ?_
  refine good_seq fun K1 hK1 => ?_
  refine gr rfl ?_
  refine ea rfl (by conv=>lhs;whnf) ?_
  refine ea rfl (by conv=>lhs;whnf) ?_
  refine ev_nil (hK1 _ ?_); clear hK1
  refine good_seq fun K2 hK2 => ?_
  refine good_seq fun K3 hK3 => ?_
  refine gr rfl ?_
  refine em rfl (by conv=>lhs;whnf) ?_
  refine em rfl (by conv=>lhs;whnf) ?_
  refine em rfl (by conv=>lhs;whnf) ?_
  refine ev_q rfl (q_callI rfl rfl (rfl) (D_impl_boilingCode xs ds m 0 hx hd) ?_)
  intro n4 hn4
  refine ea rfl (by conv=>lhs;whnf) ?_
  refine ev_nil (hK3 _ ?_); clear hK3
  refine good_seq fun K5 hK5 => ?_
  refine gr rfl ?_
  refine em rfl (by conv=>lhs;whnf) ?_
  refine ei rfl rfl rfl ?_
  intro b6 hb6; cases b6
  · replace hb6 := neF hb6
    refine ev_nil (hK5 _ ?_); clear hK5
    refine good_condF rfl ?_
    refine good_skip (hK2 _ ?_); clear hK2
    refine good_seq fun K7 hK7 => ?_
    refine gr rfl ?_
    refine ea rfl (by conv=>lhs;whnf) ?_
    refine ev_nil (hK7 _ ?_); clear hK7
    refine good_seq fun K8 hK8 => ?_
    refine good_seq fun K9 hK9 => ?_
    refine gr rfl ?_
    refine em rfl (by conv=>lhs;whnf) ?_
    refine ev_q rfl (q_len tEs22 rfl ?_)
    intro n10 hn10
    try simp only [List.length_map] at hn10
    refine em rfl (by conv=>lhs;whnf) ?_
    refine ev_nil (hK9 _ ?_); clear hK9
    refine good_block ?_
    have ok := bc_ok (show bc xs ds m 0 = 0 by omega)
    have hok := ok.2
    refine good_loop (α := Nat) (fun i => { env := upd (upd (upd (upd (upd (upd ((fun _ => .junk)) 1 (.lst 1 (ds.map ci))) 2 (.s (.int .i64 m))) 9 (.own 38 (ixs (bnP xs ds m) i).length)) 19 (.lst 1 (xs.map ci))) 20 (.s (.int .i64 ((xs.length : Int))))) 21 (.s (.int .i64 i)), H := upd ((fun _ => none)) 38 (some (.row 2 1 ((ixs (bnP xs ds m) i).map ci))) }) (fun i => i ≤ xs.length) (fun i => xs.length - i) 0 ?_ ?_ ?_
    · show 0 ≤ _; omega
    · refine Sub.trans (sub_nil 9 38 2 1 rfl rfl (by decide)) ?_
      refine sub_weak ?_ ?_
      · exact weakH_row (rowEq (rfl)) (weakH_none _)
      · refine weakE_upd ?e21 ?r21 (weakE_upd ?e20 ?r20 (weakE_upd ?e19 ?r19 (weakE_upd ?e9 ?r9 (weakE_upd ?e2 ?r2 (weakE_upd ?e1 ?r1 (weakE_junk _ _))))))
        case e1 => first | rfl | exact fI (by omega) | (simp_all)
        case r1 => intro h hh; cases hh
        case e2 => first | rfl | exact fI (by omega) | (simp_all)
        case r2 => intro h hh; cases hh
        case e9 => first | rfl | exact fI (by omega) | (first | rfl | (rw [hst]; exact ownEq (by simp)) | (rw [hst]))
        case r9 => intro h hh; simp [refs] at hh; subst hh; rfl
        case e19 => first | rfl | exact fI (by omega) | (simp_all)
        case r19 => intro h hh; cases hh
        case e20 => first | rfl | exact fI (by omega) | (simp_all)
        case r20 => intro h hh; cases hh
        case e21 => first | rfl | exact fI (by omega) | (simp_all)
        case r21 => intro h hh; cases hh
    · rintro i hI
      refine good_seq fun K11 hK11 => ?_
      refine gr rfl ?_
      refine ei rfl rfl rfl ?_
      intro b12 hb12; cases b12
      · replace hb12 := dF hb12
        refine ev_nil (hK11 _ ?_); clear hK11
        refine good_seq fun K13 hK13 => ?_
        refine good_condF rfl ?_
        refine good_exit ?_
        repeat first|refine thenQ_exit ?_|refine blockQ_pass rfl ?_
        refine blockQ_exit (hK8 _ ?_); clear hK8
        refine good_seq fun K14 hK14 => ?_
        refine gr rfl ?_
        refine em rfl (by conv=>lhs;whnf) ?_
        refine ea rfl (by conv=>lhs;whnf) ?_
        refine ea rfl (by conv=>lhs;whnf) ?_
        refine ev_nil (hK14 _ ?_); clear hK14
        refine good_ret ?_
        repeat first|refine thenQ_ret ?_|refine blockQ_ret ?_
        refine fx_many rfl ?_
        refine fxs_tmp (by conv=>lhs;whnf) ?_
        refine fxs_tmp (by conv=>lhs;whnf) ?_
        refine fx_nil ?_
        clear hK13
        have e2 : bnC xs ds m = n4 := (by unfold bnC; omega)
        first | (have e : bnL xs ds m = [] := bnL_no (by omega)) | (have e : bnL xs ds m = ixs (bnP xs ds m) i := (by rw [bnL_ok (by omega), show xs.length = i by omega]))
        exact ⟨_, .tup (.cons (conv_eq (by first | rfl | (rw [e]; done) | (rw [e]; rfl) | exact ownEq (by first | omega | simp_all))) (.cons (conv_eq (by first | rfl | exact fI (by first | omega | grind) | (exfalso; first | omega | grind))) (.nil))), weakH_row (rowEq (by first | rfl | (rw [e]; done) | (rw [e]; rfl) | (simp_all; done))) (weakH_none _), refsIn_ok rfl⟩
      · replace hb12 := dT hb12
        obtain ⟨p, hp⟩ := getL (xs := xs) (n := (i : Int)) (by omega) (by omega)
        replace hp : xs[i]? = some p := hp
        obtain ⟨q, hq⟩ := getL (xs := ds) (n := (i : Int)) (by omega) (by omega)
        replace hq : ds[i]? = some q := hq
        have bp := hok.2.1 _ _ hp
        have bq := nodes_q hok.2.2 hq
        refine ev_nil (hK11 _ ?_); clear hK11
        refine good_seq fun K15 hK15 => ?_
        refine good_condT rfl ?_
        refine good_skip (hK15 _ ?_); clear hK15
        refine good_seq fun K16 hK16 => ?_
        refine good_block ?_
        refine good_seq fun K17 hK17 => ?_
        refine gr rfl ?_
        refine em rfl (by conv=>lhs;whnf) ?_
        refine ev_q rfl (q_idx tE22 rfl rfl (by exact Int.natCast_nonneg _) (by exact map_get hp) rfl ?_)
        refine ev_q rfl (q_load tA2 rfl ?_)
        refine ea rfl (by conv=>lhs;whnf) ?_
        refine ea rfl (by conv=>lhs;whnf) ?_
        refine ev_nil (hK17 _ ?_); clear hK17
        refine good_seq fun K18 hK18 => ?_
        refine gr rfl ?_
        refine em rfl (by conv=>lhs;whnf) ?_
        refine em rfl (by conv=>lhs;whnf) ?_
        refine em rfl (by conv=>lhs;whnf) ?_
        refine ev_q rfl (q_idx tE22 rfl rfl (by exact Int.natCast_nonneg _) (by exact map_get hq) rfl ?_)
        refine ev_q rfl (q_load tA2 rfl ?_)
        refine ev_q rfl (q_callI rfl rfl (rfl) (D_impl_steamPressure _) ?_)
        intro n19 hn19
        refine em rfl (by conv=>lhs;whnf) ?_
        refine ei rfl rfl rfl ?_
        intro n20 hn20
        replace hn20 := in64 hn20 (by omega) (by omega)
        refine ei rfl rfl rfl ?_
        intro b21 hb21; cases b21
        · replace hb21 := dF hb21
          have hst := ixs_F (p := (bnP xs ds m)) (n := i) (fun h => by have := (bnP_eq hp hq).1 h; omega)
          refine ev_nil (hK18 _ ?_); clear hK18
          refine good_condF rfl ?_
          refine good_skip (hK16 _ ?_); clear hK16
          refine gr rfl ?_
          refine ei rfl rfl rfl ?_
          intro n22 hn22
          replace hn22 := in64 hn22 (by omega) (by omega)
          refine em rfl (by conv=>lhs;whnf) ?_
          refine ev_nil ?_
          clear hK8
          refine ⟨i + 1, ?_, ?_, ?_⟩
          · show _ ≤ _; omega
          · first | omega | (simp only []; omega) | (dsimp only; omega)
          · refine sub_weak ?_ ?_
            · exact weakH_row (rowEq (by rw [hst]; first | done | (rw [List.map_append]; rfl))) (weakH_none _)
            · refine weakE_upd ?e21 ?r21 (weakE_upd ?e20 ?r20 (weakE_upd ?e19 ?r19 (weakE_upd ?e9 ?r9 (weakE_upd ?e2 ?r2 (weakE_upd ?e1 ?r1 (weakE_junk _ _))))))
              case e1 => first | rfl | exact fI (by omega) | (simp_all)
              case r1 => intro h hh; cases hh
              case e2 => first | rfl | exact fI (by omega) | (simp_all)
              case r2 => intro h hh; cases hh
              case e9 => first | rfl | exact fI (by omega) | (first | rfl | (rw [hst]; exact ownEq (by simp)) | (rw [hst]))
              case r9 => intro h hh; simp [refs] at hh; subst hh; rfl
              case e19 => first | rfl | exact fI (by omega) | (simp_all)
              case r19 => intro h hh; cases hh
              case e20 => first | rfl | exact fI (by omega) | (simp_all)
              case r20 => intro h hh; cases hh
              case e21 => first | rfl | exact fI (by omega) | (simp_all)
              case r21 => intro h hh; cases hh
        · replace hb21 := dT hb21
          have hst := ixs_T (p := (bnP xs ds m)) (n := i) ((bnP_eq hp hq).2 (by omega))
          have hln := ixs_len (p := (bnP xs ds m)) i
          refine ev_nil (hK18 _ ?_); clear hK18
          refine good_condT rfl ?_
          refine gr rfl ?_
          refine em rfl (by conv=>lhs;whnf) ?_
          refine em rfl (by conv=>lhs;whnf) ?_
          refine ev_k rfl (k_lit tE22 zA2 rfl rfl (by decide) (by decide) rfl rfl rfl ?_)
          refine ev_k rfl (k_app tApp22 rfl rfl (by simp) rfl (.inr rfl) (by show _ ≤ _; have := (ixs_len (p := (bnP xs ds m)) i); simp [maxLen]; omega) (by have := (ixs_len (p := (bnP xs ds m)) i); simp; omega) ?_)
          refine ea rfl (by conv=>lhs;whnf) ?_
          refine ev_nil (hK16 _ ?_); clear hK16
          refine gr rfl ?_
          refine ei rfl rfl rfl ?_
          intro n23 hn23
          replace hn23 := in64 hn23 (by omega) (by omega)
          refine em rfl (by conv=>lhs;whnf) ?_
          refine ev_nil ?_
          clear hK8
          refine ⟨i + 1, ?_, ?_, ?_⟩
          · show _ ≤ _; omega
          · first | omega | (simp only []; omega) | (dsimp only; omega)
          · refine sub_weak ?_ ?_
            · exact weakH_row (rowEq (by rw [hst]; first | done | (rw [List.map_append]; rfl))) (weakH_none _)
            · refine weakE_upd ?e21 ?r21 (weakE_upd ?e20 ?r20 (weakE_upd ?e19 ?r19 (weakE_upd ?e9 ?r9 (weakE_upd ?e2 ?r2 (weakE_upd ?e1 ?r1 (weakE_junk _ _))))))
              case e1 => first | rfl | exact fI (by omega) | (simp_all)
              case r1 => intro h hh; cases hh
              case e2 => first | rfl | exact fI (by omega) | (simp_all)
              case r2 => intro h hh; cases hh
              case e9 => first | rfl | exact fI (by omega) | (first | rfl | (rw [hst]; exact ownEq (by simp)) | (rw [hst]))
              case r9 => intro h hh; simp [refs] at hh; subst hh; rfl
              case e19 => first | rfl | exact fI (by omega) | (simp_all)
              case r19 => intro h hh; cases hh
              case e20 => first | rfl | exact fI (by omega) | (simp_all)
              case r20 => intro h hh; cases hh
              case e21 => first | rfl | exact fI (by omega) | (simp_all)
              case r21 => intro h hh; cases hh
  · replace hb6 := neT hb6
    refine ev_nil (hK5 _ ?_); clear hK5
    refine good_condT rfl ?_
    refine good_seq fun K24 hK24 => ?_
    refine gr rfl ?_
    refine em rfl (by conv=>lhs;whnf) ?_
    refine ea rfl (by conv=>lhs;whnf) ?_
    refine ea rfl (by conv=>lhs;whnf) ?_
    refine ev_nil (hK24 _ ?_); clear hK24
    refine good_ret ?_
    repeat first|refine thenQ_ret ?_|refine blockQ_ret ?_
    refine fx_many rfl ?_
    refine fxs_tmp (by conv=>lhs;whnf) ?_
    refine fxs_tmp (by conv=>lhs;whnf) ?_
    refine fx_nil ?_
    clear hK2
    have e2 : bnC xs ds m = n4 := (by unfold bnC; omega)
    first | (have e : bnL xs ds m = [] := bnL_no (by omega)) | (have e : bnL xs ds m = ixs (bnP xs ds m) i := (by rw [bnL_ok (by omega), show xs.length = i by omega]))
    exact ⟨_, .tup (.cons (conv_nil rfl (by decide) (by rw [e]; rfl)) (.cons (conv_eq (by first | rfl | exact fI (by first | omega | grind) | (exfalso; first | omega | grind))) (.nil))), weakH_row (rowEq (by first | rfl | (rw [e]; done) | (rw [e]; rfl) | (simp_all; done))) (weakH_none _), refsIn_ok rfl⟩
theorem D_impl_BoilingNodes (xs ds : List Int) (m : Int) (hx : xs.length ≤ 17592186044416) (hd : ds.length ≤ 17592186044416) : Den Tryz.prog 19 [.lst 1 (xs.map ci), .lst 1 (ds.map ci), .s (.int .i64 m)] (.tup [.lst 1 ((bnL xs ds m).map ci), .s (.int .i64 (bnC xs ds m))]) :=
  den_of_denX (D_impl_BoilingNodes_X xs ds m hx hd) (by change (some (.tup [.lst 1 (List.take (bnL xs ds m).length ((bnL xs ds m).map ci)), .s (.int .i64 (bnC xs ds m))]) : Option AV) = some (.tup [.lst 1 ((bnL xs ds m).map ci), .s (.int .i64 (bnC xs ds m))]); simp only [takeMap])

-- impl.LeastMargin
theorem D_impl_LeastMargin (xs ds : List Int) (hx : xs.length ≤ 17592186044416) (hd : ds.length ≤ 17592186044416) : Den Tryz.prog 20 [.lst 1 (xs.map ci), .lst 1 (ds.map ci)] (.tup [.s (.int .i64 (if lmC xs ds = 0 then (lmB (lmF xs ds) xs.length : Int) else 0)), .s (.int .i64 (if lmC xs ds = 0 then lmF xs ds (lmB (lmF xs ds) xs.length) else 0)), .s (.int .i64 (lmC xs ds))]) := by
  refine den_of_good Tryz.func20 (by decide) rfl (Nat.le_of_ble_eq_true rfl) (Nat.le_of_ble_eq_true rfl) ?_
  refine good_seq fun K1 hK1 => ?_
  refine gr rfl ?_
  refine ea rfl (by conv=>lhs;whnf) ?_
  refine ea rfl (by conv=>lhs;whnf) ?_
  refine ea rfl (by conv=>lhs;whnf) ?_
  refine ev_nil (hK1 _ ?_); clear hK1
  refine good_seq fun K2 hK2 => ?_
  refine good_seq fun K3 hK3 => ?_
  refine gr rfl ?_
  refine em rfl (by conv=>lhs;whnf) ?_
  refine em rfl (by conv=>lhs;whnf) ?_
  refine ev_q rfl (q_callI rfl rfl (rfl) (D_impl_boilingCode xs ds 0 0 hx hd) ?_)
  intro n4 hn4
  rw [bc_zero ⟨by omega, by omega⟩] at hn4
  refine ea rfl (by conv=>lhs;whnf) ?_
  refine ev_nil (hK3 _ ?_); clear hK3
  refine good_seq fun K5 hK5 => ?_
  refine gr rfl ?_
  refine em rfl (by conv=>lhs;whnf) ?_
  refine ei rfl rfl rfl ?_
  intro b6 hb6; cases b6
  · replace hb6 := neF hb6
    refine ev_nil (hK5 _ ?_); clear hK5
    refine good_condF rfl ?_
    refine good_skip (hK2 _ ?_); clear hK2
    refine good_seq fun K7 hK7 => ?_
    refine gr rfl ?_
    refine ea rfl (by conv=>lhs;whnf) ?_
    refine ea rfl (by conv=>lhs;whnf) ?_
    refine ev_nil (hK7 _ ?_); clear hK7
    refine good_seq fun K8 hK8 => ?_
    refine good_seq fun K9 hK9 => ?_
    refine gr rfl ?_
    refine em rfl (by conv=>lhs;whnf) ?_
    refine ev_q rfl (q_len tEs22 rfl ?_)
    intro n10 hn10
    try simp only [List.length_map] at hn10
    refine em rfl (by conv=>lhs;whnf) ?_
    refine ev_nil (hK9 _ ?_); clear hK9
    refine good_block ?_
    have hok := ln_ok (show ln xs ds = 0 by omega)
    refine good_loop (α := Nat) (fun i => { env := upd (upd (upd (upd (upd (upd (upd ((fun _ => .junk)) 0 (.lst 1 (xs.map ci))) 1 (.lst 1 (ds.map ci))) 8 (.s (.int .i64 (bI (lmF xs ds) i)))) 9 (.s (.int .i64 (lI (lmF xs ds) i)))) 19 (.lst 1 (xs.map ci))) 20 (.s (.int .i64 ((xs.length : Int))))) 21 (.s (.int .i64 i)), H := fun _ => none }) (fun i => i ≤ xs.length) (fun i => xs.length - i) 0 ?_ ?_ ?_
    · show 0 ≤ _; omega
    · refine sub_weak ?_ ?_
      · exact weakH_none _
      · refine weakE_upd ?e21 ?r21 (weakE_upd ?e20 ?r20 (weakE_upd ?e19 ?r19 (weakE_upd ?e9 ?r9 (weakE_upd ?e8 ?r8 (weakE_upd ?e1 ?r1 (weakE_upd ?e0 ?r0 (weakE_junk _ _)))))))
        case e0 => first | rfl | exact fI (by omega) | (simp_all)
        case r0 => intro h hh; cases hh
        case e1 => first | rfl | exact fI (by omega) | (simp_all)
        case r1 => intro h hh; cases hh
        case e8 => first | rfl | exact fI (by omega) | (first | rfl | exact fI (by rw [bI_s (by omega), hlm]; first | done | omega))
        case r8 => intro h hh; cases hh
        case e9 => first | rfl | exact fI (by omega) | (first | rfl | exact fI (by rw [lI_s (by omega), hlm]; first | done | omega))
        case r9 => intro h hh; cases hh
        case e19 => first | rfl | exact fI (by omega) | (simp_all)
        case r19 => intro h hh; cases hh
        case e20 => first | rfl | exact fI (by omega) | (simp_all)
        case r20 => intro h hh; cases hh
        case e21 => first | rfl | exact fI (by omega) | (simp_all)
        case r21 => intro h hh; cases hh
    · rintro i hI
      refine good_seq fun K11 hK11 => ?_
      refine gr rfl ?_
      refine ei rfl rfl rfl ?_
      intro b12 hb12; cases b12
      · replace hb12 := dF hb12
        refine ev_nil (hK11 _ ?_); clear hK11
        refine good_seq fun K13 hK13 => ?_
        refine good_condF rfl ?_
        refine good_exit ?_
        repeat first|refine thenQ_exit ?_|refine blockQ_pass rfl ?_
        refine blockQ_exit (hK8 _ ?_); clear hK8
        refine good_seq fun K14 hK14 => ?_
        refine good_seq fun K15 hK15 => ?_
        refine gr rfl ?_
        refine em rfl (by conv=>lhs;whnf) ?_
        refine ei rfl rfl rfl ?_
        intro b16 hb16; cases b16
        · replace hb16 := dF hb16
          have h0 := bI_pos hb16
          refine ev_nil (hK15 _ ?_); clear hK15
          refine good_condF rfl ?_
          refine good_skip (hK14 _ ?_); clear hK14
          refine good_seq fun K17 hK17 => ?_
          refine gr rfl ?_
          refine em rfl (by conv=>lhs;whnf) ?_
          refine em rfl (by conv=>lhs;whnf) ?_
          refine ea rfl (by conv=>lhs;whnf) ?_
          refine ea rfl (by conv=>lhs;whnf) ?_
          refine ea rfl (by conv=>lhs;whnf) ?_
          refine ev_nil (hK17 _ ?_); clear hK17
          refine good_ret ?_
          repeat first|refine thenQ_ret ?_|refine blockQ_ret ?_
          refine ret_many rfl ?_
          refine res_tmp (by conv=>lhs;whnf) rfl ?_
          refine res_tmp (by conv=>lhs;whnf) rfl ?_
          refine res_tmp (by conv=>lhs;whnf) rfl ?_
          refine res_nil ?_
          clear hK13
          first | (have e : lmC xs ds = ln xs ds := (by unfold lmC; rw [if_neg (by omega)]); exact fTup1 (fI (by rw [if_neg (by omega)])) (fTup1 (fI (by rw [if_neg (by omega)])) (fTup1 (fI (by omega)) rfl))) | (have e : lmC xs ds = 3 := (by unfold lmC; rw [if_pos (by omega), if_pos (by omega)]); exact fTup1 (fI (by rw [if_neg (by omega)])) (fTup1 (fI (by rw [if_neg (by omega)])) (fTup1 (fI (by omega)) rfl))) | (have e : lmC xs ds = 0 := (by unfold lmC; rw [if_pos (by omega), if_neg (by omega)]); have e3 : i = xs.length := (by omega); exact fTup1 (fI (by rw [if_pos e, ← e3]; first | done | exact bI_s h0)) (fTup1 (fI (by rw [if_pos e, ← e3]; first | done | exact lI_s h0)) (fTup1 (fI (by omega)) rfl)))
        · replace hb16 := dT hb16
          have h0 := bI_neg hb16
          refine ev_nil (hK15 _ ?_); clear hK15
          refine good_condT rfl ?_
          refine good_seq fun K18 hK18 => ?_
          refine gr rfl ?_
          refine ea rfl (by conv=>lhs;whnf) ?_
          refine ea rfl (by conv=>lhs;whnf) ?_
          refine ea rfl (by conv=>lhs;whnf) ?_
          refine ev_nil (hK18 _ ?_); clear hK18
          refine good_ret ?_
          repeat first|refine thenQ_ret ?_|refine blockQ_ret ?_
          refine ret_many rfl ?_
          refine res_tmp (by conv=>lhs;whnf) rfl ?_
          refine res_tmp (by conv=>lhs;whnf) rfl ?_
          refine res_tmp (by conv=>lhs;whnf) rfl ?_
          refine res_nil ?_
          clear hK13 hK14
          first | (have e : lmC xs ds = ln xs ds := (by unfold lmC; rw [if_neg (by omega)]); exact fTup1 (fI (by rw [if_neg (by omega)])) (fTup1 (fI (by rw [if_neg (by omega)])) (fTup1 (fI (by omega)) rfl))) | (have e : lmC xs ds = 3 := (by unfold lmC; rw [if_pos (by omega), if_pos (by omega)]); exact fTup1 (fI (by rw [if_neg (by omega)])) (fTup1 (fI (by rw [if_neg (by omega)])) (fTup1 (fI (by omega)) rfl))) | (have e : lmC xs ds = 0 := (by unfold lmC; rw [if_pos (by omega), if_neg (by omega)]); have e3 : i = xs.length := (by omega); exact fTup1 (fI (by rw [if_pos e, ← e3]; first | done | exact bI_s h0)) (fTup1 (fI (by rw [if_pos e, ← e3]; first | done | exact lI_s h0)) (fTup1 (fI (by omega)) rfl)))
      · replace hb12 := dT hb12
        obtain ⟨p, hp⟩ := getL (xs := xs) (n := (i : Int)) (by omega) (by omega)
        replace hp : xs[i]? = some p := hp
        obtain ⟨q, hq⟩ := getL (xs := ds) (n := (i : Int)) (by omega) (by omega)
        replace hq : ds[i]? = some q := hq
        have bp := hok.2.1 _ _ hp
        have bq := nodes_q hok.2.2 hq
        refine ev_nil (hK11 _ ?_); clear hK11
        refine good_seq fun K19 hK19 => ?_
        refine good_condT rfl ?_
        refine good_skip (hK19 _ ?_); clear hK19
        refine good_seq fun K20 hK20 => ?_
        refine good_block ?_
        refine good_seq fun K21 hK21 => ?_
        refine gr rfl ?_
        refine em rfl (by conv=>lhs;whnf) ?_
        refine ev_q rfl (q_idx tE22 rfl rfl (by exact Int.natCast_nonneg _) (by exact map_get hp) rfl ?_)
        refine ev_q rfl (q_load tA2 rfl ?_)
        refine ea rfl (by conv=>lhs;whnf) ?_
        refine ea rfl (by conv=>lhs;whnf) ?_
        refine ev_nil (hK21 _ ?_); clear hK21
        refine good_seq fun K22 hK22 => ?_
        refine gr rfl ?_
        refine em rfl (by conv=>lhs;whnf) ?_
        refine em rfl (by conv=>lhs;whnf) ?_
        refine em rfl (by conv=>lhs;whnf) ?_
        refine ev_q rfl (q_idx tE22 rfl rfl (by exact Int.natCast_nonneg _) (by exact map_get hq) rfl ?_)
        refine ev_q rfl (q_load tA2 rfl ?_)
        refine ev_q rfl (q_callI rfl rfl (rfl) (D_impl_steamPressure _) ?_)
        intro n23 hn23
        refine ei rfl rfl rfl ?_
        intro n24 hn24
        replace hn24 := in64 hn24 (by omega) (by omega)
        replace hn24 : n24 = lmF xs ds i := by rw [lmF_eq hp hq]; omega
        refine ea rfl (by conv=>lhs;whnf) ?_
        refine ev_nil (hK22 _ ?_); clear hK22
        refine good_seq fun K25 hK25 => ?_
        refine gr rfl ?_
        refine em rfl (by conv=>lhs;whnf) ?_
        refine ei rfl rfl rfl ?_
        intro b26 hb26; cases b26
        · replace hb26 := dF hb26
          have h0 := bI_pos hb26
          have e9 := lI_s (f := lmF xs ds) h0
          refine em rfl (by conv=>lhs;whnf) ?_
          refine em rfl (by conv=>lhs;whnf) ?_
          refine em rfl (by conv=>lhs;whnf) ?_
          refine ei rfl rfl rfl ?_
          intro b27 hb27; cases b27
          · replace hb27 := dF hb27
            have hlm := lm_F (f := lmF xs ds) (n := i) (by omega)
            have e8 := bI_s (f := lmF xs ds) h0
            refine ev_q rfl (q_pickF rfl (by conv=>lhs;whnf) ?_)
            refine ev_nil (hK25 _ ?_); clear hK25
            refine good_condF rfl ?_
            refine good_skip (hK20 _ ?_); clear hK20
            refine gr rfl ?_
            refine ei rfl rfl rfl ?_
            intro n28 hn28
            replace hn28 := in64 hn28 (by omega) (by omega)
            refine em rfl (by conv=>lhs;whnf) ?_
            refine ev_nil ?_
            clear hK8
            refine ⟨i + 1, ?_, ?_, ?_⟩
            · show _ ≤ _; omega
            · first | omega | (simp only []; omega) | (dsimp only; omega)
            · refine sub_weak ?_ ?_
              · exact weakH_none _
              · refine weakE_upd ?e21 ?r21 (weakE_upd ?e20 ?r20 (weakE_upd ?e19 ?r19 (weakE_upd ?e9 ?r9 (weakE_upd ?e8 ?r8 (weakE_upd ?e1 ?r1 (weakE_upd ?e0 ?r0 (weakE_junk _ _)))))))
                case e0 => first | rfl | exact fI (by omega) | (simp_all)
                case r0 => intro h hh; cases hh
                case e1 => first | rfl | exact fI (by omega) | (simp_all)
                case r1 => intro h hh; cases hh
                case e8 => first | rfl | exact fI (by omega) | (first | rfl | exact fI (by rw [bI_s (by omega), hlm]; first | done | omega))
                case r8 => intro h hh; cases hh
                case e9 => first | rfl | exact fI (by omega) | (first | rfl | exact fI (by rw [lI_s (by omega), hlm]; first | done | omega))
                case r9 => intro h hh; cases hh
                case e19 => first | rfl | exact fI (by omega) | (simp_all)
                case r19 => intro h hh; cases hh
                case e20 => first | rfl | exact fI (by omega) | (simp_all)
                case r20 => intro h hh; cases hh
                case e21 => first | rfl | exact fI (by omega) | (simp_all)
                case r21 => intro h hh; cases hh
          · replace hb27 := dT hb27
            have hlm := lm_T (f := lmF xs ds) (n := i) (.inr (by omega))
            refine ev_q rfl (q_pickF rfl (by conv=>lhs;whnf) ?_)
            refine ev_nil (hK25 _ ?_); clear hK25
            refine good_condT rfl ?_
            refine gr rfl ?_
            refine em rfl (by conv=>lhs;whnf) ?_
            refine em rfl (by conv=>lhs;whnf) ?_
            refine ea rfl (by conv=>lhs;whnf) ?_
            refine ea rfl (by conv=>lhs;whnf) ?_
            refine ev_nil (hK20 _ ?_); clear hK20
            refine gr rfl ?_
            refine ei rfl rfl rfl ?_
            intro n29 hn29
            replace hn29 := in64 hn29 (by omega) (by omega)
            refine em rfl (by conv=>lhs;whnf) ?_
            refine ev_nil ?_
            clear hK8
            refine ⟨i + 1, ?_, ?_, ?_⟩
            · show _ ≤ _; omega
            · first | omega | (simp only []; omega) | (dsimp only; omega)
            · refine sub_weak ?_ ?_
              · exact weakH_none _
              · refine weakE_upd ?e21 ?r21 (weakE_upd ?e20 ?r20 (weakE_upd ?e19 ?r19 (weakE_upd ?e9 ?r9 (weakE_upd ?e8 ?r8 (weakE_upd ?e1 ?r1 (weakE_upd ?e0 ?r0 (weakE_junk _ _)))))))
                case e0 => first | rfl | exact fI (by omega) | (simp_all)
                case r0 => intro h hh; cases hh
                case e1 => first | rfl | exact fI (by omega) | (simp_all)
                case r1 => intro h hh; cases hh
                case e8 => first | rfl | exact fI (by omega) | (first | rfl | exact fI (by rw [bI_s (by omega), hlm]; first | done | omega))
                case r8 => intro h hh; cases hh
                case e9 => first | rfl | exact fI (by omega) | (first | rfl | exact fI (by rw [lI_s (by omega), hlm]; first | done | omega))
                case r9 => intro h hh; cases hh
                case e19 => first | rfl | exact fI (by omega) | (simp_all)
                case r19 => intro h hh; cases hh
                case e20 => first | rfl | exact fI (by omega) | (simp_all)
                case r20 => intro h hh; cases hh
                case e21 => first | rfl | exact fI (by omega) | (simp_all)
                case r21 => intro h hh; cases hh
        · replace hb26 := dT hb26
          have h0 := bI_neg hb26
          have hlm := lm_T (f := lmF xs ds) (n := i) (.inl h0)
          refine em rfl (by conv=>lhs;whnf) ?_
          refine ev_skip rfl ?_
          refine ev_skip rfl ?_
          refine ev_skip rfl ?_
          refine ev_q rfl (q_pickT rfl (by conv=>lhs;whnf) ?_)
          refine ev_nil (hK25 _ ?_); clear hK25
          refine good_condT rfl ?_
          refine gr rfl ?_
          refine em rfl (by conv=>lhs;whnf) ?_
          refine em rfl (by conv=>lhs;whnf) ?_
          refine ea rfl (by conv=>lhs;whnf) ?_
          refine ea rfl (by conv=>lhs;whnf) ?_
          refine ev_nil (hK20 _ ?_); clear hK20
          refine gr rfl ?_
          refine ei rfl rfl rfl ?_
          intro n30 hn30
          replace hn30 := in64 hn30 (by omega) (by omega)
          refine em rfl (by conv=>lhs;whnf) ?_
          refine ev_nil ?_
          clear hK8
          refine ⟨i + 1, ?_, ?_, ?_⟩
          · show _ ≤ _; omega
          · first | omega | (simp only []; omega) | (dsimp only; omega)
          · refine sub_weak ?_ ?_
            · exact weakH_none _
            · refine weakE_upd ?e21 ?r21 (weakE_upd ?e20 ?r20 (weakE_upd ?e19 ?r19 (weakE_upd ?e9 ?r9 (weakE_upd ?e8 ?r8 (weakE_upd ?e1 ?r1 (weakE_upd ?e0 ?r0 (weakE_junk _ _)))))))
              case e0 => first | rfl | exact fI (by omega) | (simp_all)
              case r0 => intro h hh; cases hh
              case e1 => first | rfl | exact fI (by omega) | (simp_all)
              case r1 => intro h hh; cases hh
              case e8 => first | rfl | exact fI (by omega) | (first | rfl | exact fI (by rw [bI_s (by omega), hlm]; first | done | omega))
              case r8 => intro h hh; cases hh
              case e9 => first | rfl | exact fI (by omega) | (first | rfl | exact fI (by rw [lI_s (by omega), hlm]; first | done | omega))
              case r9 => intro h hh; cases hh
              case e19 => first | rfl | exact fI (by omega) | (simp_all)
              case r19 => intro h hh; cases hh
              case e20 => first | rfl | exact fI (by omega) | (simp_all)
              case r20 => intro h hh; cases hh
              case e21 => first | rfl | exact fI (by omega) | (simp_all)
              case r21 => intro h hh; cases hh
  · replace hb6 := neT hb6
    refine ev_nil (hK5 _ ?_); clear hK5
    refine good_condT rfl ?_
    refine good_seq fun K31 hK31 => ?_
    refine gr rfl ?_
    refine em rfl (by conv=>lhs;whnf) ?_
    refine ea rfl (by conv=>lhs;whnf) ?_
    refine ea rfl (by conv=>lhs;whnf) ?_
    refine ea rfl (by conv=>lhs;whnf) ?_
    refine ev_nil (hK31 _ ?_); clear hK31
    refine good_ret ?_
    repeat first|refine thenQ_ret ?_|refine blockQ_ret ?_
    refine ret_many rfl ?_
    refine res_tmp (by conv=>lhs;whnf) rfl ?_
    refine res_tmp (by conv=>lhs;whnf) rfl ?_
    refine res_tmp (by conv=>lhs;whnf) rfl ?_
    refine res_nil ?_
    clear hK2
    first | (have e : lmC xs ds = ln xs ds := (by unfold lmC; rw [if_neg (by omega)]); exact fTup1 (fI (by rw [if_neg (by omega)])) (fTup1 (fI (by rw [if_neg (by omega)])) (fTup1 (fI (by omega)) rfl))) | (have e : lmC xs ds = 3 := (by unfold lmC; rw [if_pos (by omega), if_pos (by omega)]); exact fTup1 (fI (by rw [if_neg (by omega)])) (fTup1 (fI (by rw [if_neg (by omega)])) (fTup1 (fI (by omega)) rfl))) | (have e : lmC xs ds = 0 := (by unfold lmC; rw [if_pos (by omega), if_neg (by omega)]); have e3 : i = xs.length := (by omega); exact fTup1 (fI (by rw [if_pos e, ← e3]; first | done | exact bI_s h0)) (fTup1 (fI (by rw [if_pos e, ← e3]; first | done | exact lI_s h0)) (fTup1 (fI (by omega)) rfl)))

-- impl.PressureRoom
theorem D_impl_PressureRoom (xs ds : List Int) (m lim : Int) (hx : xs.length ≤ 17592186044416) (hd : ds.length ≤ 17592186044416) : Den Tryz.prog 21 [.lst 1 (xs.map ci), .lst 1 (ds.map ci), .s (.int .i64 m), .s (.int .i64 lim)] (.tup [.s (.int .i64 (if prC xs ds m lim = 0 then prL (prG xs ds m) xs.length else 0)), .s (.int .i64 (if prC xs ds m lim = 0 then prH (prh xs lim) xs.length else 0)), .s (.int .i64 (prC xs ds m lim))]) := by
  refine den_of_good Tryz.func21 (by decide) rfl (Nat.le_of_ble_eq_true rfl) (Nat.le_of_ble_eq_true rfl) ?_
  refine good_seq fun K1 hK1 => ?_
  refine gr rfl ?_
  refine ea rfl (by conv=>lhs;whnf) ?_
  refine ea rfl (by conv=>lhs;whnf) ?_
  refine ea rfl (by conv=>lhs;whnf) ?_
  refine ev_nil (hK1 _ ?_); clear hK1
  refine good_seq fun K2 hK2 => ?_
  refine gr rfl ?_
  refine em rfl (by conv=>lhs;whnf) ?_
  refine em rfl (by conv=>lhs;whnf) ?_
  refine em rfl (by conv=>lhs;whnf) ?_
  refine em rfl (by conv=>lhs;whnf) ?_
  refine ev_q rfl (q_callI rfl rfl (rfl) (D_impl_boilingCode xs ds m lim hx hd) ?_)
  intro n3 hn3
  refine ea rfl (by conv=>lhs;whnf) ?_
  refine ev_nil (hK2 _ ?_); clear hK2
  refine good_seq fun K4 hK4 => ?_
  refine good_block ?_
  refine good_seq fun K5 hK5 => ?_
  refine gr rfl ?_
  refine em rfl (by conv=>lhs;whnf) ?_
  refine ei rfl rfl rfl ?_
  intro b6 hb6; cases b6
  · replace hb6 := neF hb6
    refine ea rfl (by conv=>lhs;whnf) ?_
    refine ev_nil (hK5 _ ?_); clear hK5
    refine good_condF rfl ?_
    refine good_seq fun K7 hK7 => ?_
    refine gr rfl ?_
    refine em rfl (by conv=>lhs;whnf) ?_
    refine ev_q rfl (q_len tEs22 rfl ?_)
    intro n8 hn8
    try simp only [List.length_map] at hn8
    refine ei rfl rfl rfl ?_
    intro b9 hb9; cases b9
    · replace hb9 := eqF hb9
      refine ea rfl (by conv=>lhs;whnf) ?_
      refine ev_nil (hK7 _ ?_); clear hK7
      refine good_condF rfl ?_
      refine good_skip (hK4 _ ?_); clear hK4
      refine good_seq fun K10 hK10 => ?_
      refine gr rfl ?_
      refine ea rfl (by conv=>lhs;whnf) ?_
      refine ea rfl (by conv=>lhs;whnf) ?_
      refine ev_nil (hK10 _ ?_); clear hK10
      refine good_seq fun K11 hK11 => ?_
      refine good_seq fun K12 hK12 => ?_
      refine gr rfl ?_
      refine em rfl (by conv=>lhs;whnf) ?_
      refine ev_q rfl (q_len tEs22 rfl ?_)
      intro n13 hn13
      try simp only [List.length_map] at hn13
      refine em rfl (by conv=>lhs;whnf) ?_
      refine ev_nil (hK12 _ ?_); clear hK12
      refine good_block ?_
      have ok := bc_ok (show bc xs ds m lim = 0 by omega)
      have hok := ok.2
      refine good_loop (α := Nat) (fun i => { env := upd (upd (upd (upd (upd (upd (upd (upd ((fun _ => .junk)) 1 (.lst 1 (ds.map ci))) 2 (.s (.int .i64 m))) 3 (.s (.int .i64 lim))) 12 (.s (.int .i64 (prL (prG xs ds m) i)))) 13 (.s (.int .i64 (prH (prh xs lim) i)))) 29 (.lst 1 (xs.map ci))) 30 (.s (.int .i64 ((xs.length : Int))))) 31 (.s (.int .i64 i)), H := fun _ => none }) (fun i => i ≤ xs.length) (fun i => xs.length - i) 0 ?_ ?_ ?_
      · show 0 ≤ _; omega
      · refine sub_weak ?_ ?_
        · exact weakH_none _
        · refine weakE_upd ?e31 ?r31 (weakE_upd ?e30 ?r30 (weakE_upd ?e29 ?r29 (weakE_upd ?e13 ?r13 (weakE_upd ?e12 ?r12 (weakE_upd ?e3 ?r3 (weakE_upd ?e2 ?r2 (weakE_upd ?e1 ?r1 (weakE_junk _ _))))))))
          case e1 => first | rfl | exact fI (by omega) | (simp_all)
          case r1 => intro h hh; cases hh
          case e2 => first | rfl | exact fI (by omega) | (simp_all)
          case r2 => intro h hh; cases hh
          case e3 => first | rfl | exact fI (by omega) | (simp_all)
          case r3 => intro h hh; cases hh
          case e12 => first | rfl | exact fI (by omega) | (first | rfl | exact fI (by rw [sl]; omega))
          case r12 => intro h hh; cases hh
          case e13 => first | rfl | exact fI (by omega) | (first | rfl | exact fI (by rw [sh]; omega))
          case r13 => intro h hh; cases hh
          case e29 => first | rfl | exact fI (by omega) | (simp_all)
          case r29 => intro h hh; cases hh
          case e30 => first | rfl | exact fI (by omega) | (simp_all)
          case r30 => intro h hh; cases hh
          case e31 => first | rfl | exact fI (by omega) | (simp_all)
          case r31 => intro h hh; cases hh
      · rintro i hI
        refine good_seq fun K14 hK14 => ?_
        refine gr rfl ?_
        refine ei rfl rfl rfl ?_
        intro b15 hb15; cases b15
        · replace hb15 := dF hb15
          refine ev_nil (hK14 _ ?_); clear hK14
          refine good_seq fun K16 hK16 => ?_
          refine good_condF rfl ?_
          refine good_exit ?_
          repeat first|refine thenQ_exit ?_|refine blockQ_pass rfl ?_
          refine blockQ_exit (hK11 _ ?_); clear hK11
          refine good_seq fun K17 hK17 => ?_
          refine good_seq fun K18 hK18 => ?_
          refine gr rfl ?_
          refine em rfl (by conv=>lhs;whnf) ?_
          refine em rfl (by conv=>lhs;whnf) ?_
          refine ei rfl rfl rfl ?_
          intro b19 hb19; cases b19
          · replace hb19 := dF hb19
            refine ev_nil (hK18 _ ?_); clear hK18
            refine good_condF rfl ?_
            refine good_skip (hK17 _ ?_); clear hK17
            refine good_seq fun K20 hK20 => ?_
            refine gr rfl ?_
            refine em rfl (by conv=>lhs;whnf) ?_
            refine em rfl (by conv=>lhs;whnf) ?_
            refine ea rfl (by conv=>lhs;whnf) ?_
            refine ea rfl (by conv=>lhs;whnf) ?_
            refine ea rfl (by conv=>lhs;whnf) ?_
            refine ev_nil (hK20 _ ?_); clear hK20
            refine good_ret ?_
            repeat first|refine thenQ_ret ?_|refine blockQ_ret ?_
            refine ret_many rfl ?_
            refine res_tmp (by conv=>lhs;whnf) rfl ?_
            refine res_tmp (by conv=>lhs;whnf) rfl ?_
            refine res_tmp (by conv=>lhs;whnf) rfl ?_
            refine res_nil ?_
            clear hK16
            first | (have e : prC xs ds m lim = bc xs ds m lim := (by unfold prC; rw [if_neg (by omega)]); exact fTup1 (fI (by rw [if_neg (by omega)])) (fTup1 (fI (by rw [if_neg (by omega)])) (fTup1 (fI (by omega)) rfl))) | (have e : prC xs ds m lim = 6 := (by unfold prC; rw [if_pos (by omega), if_pos (by omega)]); exact fTup1 (fI (by rw [if_neg (by omega)])) (fTup1 (fI (by rw [if_neg (by omega)])) (fTup1 (fI (by omega)) rfl))) | (have e3 : i = xs.length := (by omega); first | (have e : prC xs ds m lim = 3 := (by unfold prC; rw [if_pos (by omega), if_neg (by omega), ← e3, if_pos (by omega)]); exact fTup1 (fI (by rw [if_neg (by omega)])) (fTup1 (fI (by rw [if_neg (by omega)])) (fTup1 (fI (by omega)) rfl))) | (have e : prC xs ds m lim = 0 := (by unfold prC; rw [if_pos (by omega), if_neg (by omega), ← e3, if_neg (by omega)]); exact fTup1 (fI (by rw [if_pos e, ← e3]; first | done | omega)) (fTup1 (fI (by rw [if_pos e, ← e3]; first | done | omega)) (fTup1 (fI (by omega)) rfl))))
          · replace hb19 := dT hb19
            refine ev_nil (hK18 _ ?_); clear hK18
            refine good_condT rfl ?_
            refine good_seq fun K21 hK21 => ?_
            refine gr rfl ?_
            refine ea rfl (by conv=>lhs;whnf) ?_
            refine ea rfl (by conv=>lhs;whnf) ?_
            refine ea rfl (by conv=>lhs;whnf) ?_
            refine ev_nil (hK21 _ ?_); clear hK21
            refine good_ret ?_
            repeat first|refine thenQ_ret ?_|refine blockQ_ret ?_
            refine ret_many rfl ?_
            refine res_tmp (by conv=>lhs;whnf) rfl ?_
            refine res_tmp (by conv=>lhs;whnf) rfl ?_
            refine res_tmp (by conv=>lhs;whnf) rfl ?_
            refine res_nil ?_
            clear hK16 hK17
            first | (have e : prC xs ds m lim = bc xs ds m lim := (by unfold prC; rw [if_neg (by omega)]); exact fTup1 (fI (by rw [if_neg (by omega)])) (fTup1 (fI (by rw [if_neg (by omega)])) (fTup1 (fI (by omega)) rfl))) | (have e : prC xs ds m lim = 6 := (by unfold prC; rw [if_pos (by omega), if_pos (by omega)]); exact fTup1 (fI (by rw [if_neg (by omega)])) (fTup1 (fI (by rw [if_neg (by omega)])) (fTup1 (fI (by omega)) rfl))) | (have e3 : i = xs.length := (by omega); first | (have e : prC xs ds m lim = 3 := (by unfold prC; rw [if_pos (by omega), if_neg (by omega), ← e3, if_pos (by omega)]); exact fTup1 (fI (by rw [if_neg (by omega)])) (fTup1 (fI (by rw [if_neg (by omega)])) (fTup1 (fI (by omega)) rfl))) | (have e : prC xs ds m lim = 0 := (by unfold prC; rw [if_pos (by omega), if_neg (by omega), ← e3, if_neg (by omega)]); exact fTup1 (fI (by rw [if_pos e, ← e3]; first | done | omega)) (fTup1 (fI (by rw [if_pos e, ← e3]; first | done | omega)) (fTup1 (fI (by omega)) rfl))))
        · replace hb15 := dT hb15
          obtain ⟨p, hp⟩ := getL (xs := xs) (n := (i : Int)) (by omega) (by omega)
          replace hp : xs[i]? = some p := hp
          obtain ⟨q, hq⟩ := getL (xs := ds) (n := (i : Int)) (by omega) (by omega)
          replace hq : ds[i]? = some q := hq
          have bp := hok.2.1 _ _ hp
          have bq := nodes_q hok.2.2 hq
          have eg := prG_eq (m := m) hp hq
          have eh := prh_eq (lim := lim) hp
          have sl := prL_s (g := prG xs ds m) (n := i)
          have sh := prH_s (g := prh xs lim) (n := i)
          refine ev_nil (hK14 _ ?_); clear hK14
          refine good_seq fun K22 hK22 => ?_
          refine good_condT rfl ?_
          refine good_skip (hK22 _ ?_); clear hK22
          refine good_seq fun K23 hK23 => ?_
          refine good_block ?_
          refine good_seq fun K24 hK24 => ?_
          refine gr rfl ?_
          refine em rfl (by conv=>lhs;whnf) ?_
          refine ev_q rfl (q_idx tE22 rfl rfl (by exact Int.natCast_nonneg _) (by exact map_get hp) rfl ?_)
          refine ev_q rfl (q_load tA2 rfl ?_)
          refine ea rfl (by conv=>lhs;whnf) ?_
          refine ea rfl (by conv=>lhs;whnf) ?_
          refine ev_nil (hK24 _ ?_); clear hK24
          refine good_seq fun K25 hK25 => ?_
          refine gr rfl ?_
          refine em rfl (by conv=>lhs;whnf) ?_
          refine em rfl (by conv=>lhs;whnf) ?_
          refine em rfl (by conv=>lhs;whnf) ?_
          refine ev_q rfl (q_idx tE22 rfl rfl (by exact Int.natCast_nonneg _) (by exact map_get hq) rfl ?_)
          refine ev_q rfl (q_load tA2 rfl ?_)
          refine ev_q rfl (q_callI rfl rfl (rfl) (D_impl_steamPressure _) ?_)
          intro n26 hn26
          refine em rfl (by conv=>lhs;whnf) ?_
          refine ei rfl rfl rfl ?_
          intro n27 hn27
          replace hn27 := in64 hn27 (by omega) (by omega)
          refine em rfl (by conv=>lhs;whnf) ?_
          refine ei rfl rfl rfl ?_
          intro n28 hn28
          replace hn28 := in64 hn28 (by omega) (by omega)
          refine ev_q rfl (q_max rfl rfl ?_)
          intro n29 hn29; simp only [mxI, mnI] at hn29
          refine ea rfl (by conv=>lhs;whnf) ?_
          refine ev_nil (hK25 _ ?_); clear hK25
          refine gr rfl ?_
          refine em rfl (by conv=>lhs;whnf) ?_
          refine em rfl (by conv=>lhs;whnf) ?_
          refine em rfl (by conv=>lhs;whnf) ?_
          refine ei rfl rfl rfl ?_
          intro n30 hn30
          replace hn30 := in64 hn30 (by omega) (by omega)
          refine ev_q rfl (q_min rfl rfl ?_)
          intro n31 hn31; simp only [mxI, mnI] at hn31
          refine ea rfl (by conv=>lhs;whnf) ?_
          refine ev_nil (hK23 _ ?_); clear hK23
          refine gr rfl ?_
          refine ei rfl rfl rfl ?_
          intro n32 hn32
          replace hn32 := in64 hn32 (by omega) (by omega)
          refine em rfl (by conv=>lhs;whnf) ?_
          refine ev_nil ?_
          clear hK11
          refine ⟨i + 1, ?_, ?_, ?_⟩
          · show _ ≤ _; omega
          · first | omega | (simp only []; omega) | (dsimp only; omega)
          · refine sub_weak ?_ ?_
            · exact weakH_none _
            · refine weakE_upd ?e31 ?r31 (weakE_upd ?e30 ?r30 (weakE_upd ?e29 ?r29 (weakE_upd ?e13 ?r13 (weakE_upd ?e12 ?r12 (weakE_upd ?e3 ?r3 (weakE_upd ?e2 ?r2 (weakE_upd ?e1 ?r1 (weakE_junk _ _))))))))
              case e1 => first | rfl | exact fI (by omega) | (simp_all)
              case r1 => intro h hh; cases hh
              case e2 => first | rfl | exact fI (by omega) | (simp_all)
              case r2 => intro h hh; cases hh
              case e3 => first | rfl | exact fI (by omega) | (simp_all)
              case r3 => intro h hh; cases hh
              case e12 => first | rfl | exact fI (by omega) | (first | rfl | exact fI (by rw [sl]; omega))
              case r12 => intro h hh; cases hh
              case e13 => first | rfl | exact fI (by omega) | (first | rfl | exact fI (by rw [sh]; omega))
              case r13 => intro h hh; cases hh
              case e29 => first | rfl | exact fI (by omega) | (simp_all)
              case r29 => intro h hh; cases hh
              case e30 => first | rfl | exact fI (by omega) | (simp_all)
              case r30 => intro h hh; cases hh
              case e31 => first | rfl | exact fI (by omega) | (simp_all)
              case r31 => intro h hh; cases hh
    · replace hb9 := eqT hb9
      refine ea rfl (by conv=>lhs;whnf) ?_
      refine ev_nil (hK7 _ ?_); clear hK7
      refine good_condT rfl ?_
      refine good_seq fun K33 hK33 => ?_
      refine gr rfl ?_
      refine ea rfl (by conv=>lhs;whnf) ?_
      refine ea rfl (by conv=>lhs;whnf) ?_
      refine ea rfl (by conv=>lhs;whnf) ?_
      refine ev_nil (hK33 _ ?_); clear hK33
      refine good_ret ?_
      repeat first|refine thenQ_ret ?_|refine blockQ_ret ?_
      refine ret_many rfl ?_
      refine res_tmp (by conv=>lhs;whnf) rfl ?_
      refine res_tmp (by conv=>lhs;whnf) rfl ?_
      refine res_tmp (by conv=>lhs;whnf) rfl ?_
      refine res_nil ?_
      clear hK4
      first | (have e : prC xs ds m lim = bc xs ds m lim := (by unfold prC; rw [if_neg (by omega)]); exact fTup1 (fI (by rw [if_neg (by omega)])) (fTup1 (fI (by rw [if_neg (by omega)])) (fTup1 (fI (by omega)) rfl))) | (have e : prC xs ds m lim = 6 := (by unfold prC; rw [if_pos (by omega), if_pos (by omega)]); exact fTup1 (fI (by rw [if_neg (by omega)])) (fTup1 (fI (by rw [if_neg (by omega)])) (fTup1 (fI (by omega)) rfl))) | (have e3 : i = xs.length := (by omega); first | (have e : prC xs ds m lim = 3 := (by unfold prC; rw [if_pos (by omega), if_neg (by omega), ← e3, if_pos (by omega)]); exact fTup1 (fI (by rw [if_neg (by omega)])) (fTup1 (fI (by rw [if_neg (by omega)])) (fTup1 (fI (by omega)) rfl))) | (have e : prC xs ds m lim = 0 := (by unfold prC; rw [if_pos (by omega), if_neg (by omega), ← e3, if_neg (by omega)]); exact fTup1 (fI (by rw [if_pos e, ← e3]; first | done | omega)) (fTup1 (fI (by rw [if_pos e, ← e3]; first | done | omega)) (fTup1 (fI (by omega)) rfl))))
  · replace hb6 := neT hb6
    refine ea rfl (by conv=>lhs;whnf) ?_
    refine ev_nil (hK5 _ ?_); clear hK5
    refine good_condT rfl ?_
    refine good_seq fun K34 hK34 => ?_
    refine gr rfl ?_
    refine em rfl (by conv=>lhs;whnf) ?_
    refine ea rfl (by conv=>lhs;whnf) ?_
    refine ea rfl (by conv=>lhs;whnf) ?_
    refine ea rfl (by conv=>lhs;whnf) ?_
    refine ev_nil (hK34 _ ?_); clear hK34
    refine good_ret ?_
    repeat first|refine thenQ_ret ?_|refine blockQ_ret ?_
    refine ret_many rfl ?_
    refine res_tmp (by conv=>lhs;whnf) rfl ?_
    refine res_tmp (by conv=>lhs;whnf) rfl ?_
    refine res_tmp (by conv=>lhs;whnf) rfl ?_
    refine res_nil ?_
    clear hK4
    first | (have e : prC xs ds m lim = bc xs ds m lim := (by unfold prC; rw [if_neg (by omega)]); exact fTup1 (fI (by rw [if_neg (by omega)])) (fTup1 (fI (by rw [if_neg (by omega)])) (fTup1 (fI (by omega)) rfl))) | (have e : prC xs ds m lim = 6 := (by unfold prC; rw [if_pos (by omega), if_pos (by omega)]); exact fTup1 (fI (by rw [if_neg (by omega)])) (fTup1 (fI (by rw [if_neg (by omega)])) (fTup1 (fI (by omega)) rfl))) | (have e3 : i = xs.length := (by omega); first | (have e : prC xs ds m lim = 3 := (by unfold prC; rw [if_pos (by omega), if_neg (by omega), ← e3, if_pos (by omega)]); exact fTup1 (fI (by rw [if_neg (by omega)])) (fTup1 (fI (by rw [if_neg (by omega)])) (fTup1 (fI (by omega)) rfl))) | (have e : prC xs ds m lim = 0 := (by unfold prC; rw [if_pos (by omega), if_neg (by omega), ← e3, if_neg (by omega)]); exact fTup1 (fI (by rw [if_pos e, ← e3]; first | done | omega)) (fTup1 (fI (by rw [if_pos e, ← e3]; first | done | omega)) (fTup1 (fI (by omega)) rfl))))

-- impl.TooHigh
theorem D_impl_TooHigh_X (xs : List Int) (lim : Int) (hx : xs.length ≤ 17592186044416) : DenX Tryz.prog 22 [] [.lst 1 (xs.map ci), .s (.int .i64 lim)] [(32, .row 2 1 ((thL xs lim).map ci))] (.tup [.own 32 (thL xs lim).length, .s (.int .i64 (thC xs lim))]) := by
  refine denX_of_good Tryz.func22 (by decide) rfl (Nat.le_of_ble_eq_true rfl) (Nat.le_of_ble_eq_true rfl) rfl ?_
  refine good_seq fun K1 hK1 => ?_
  refine gr rfl ?_
  refine ea rfl (by conv=>lhs;whnf) ?_
  refine ea rfl (by conv=>lhs;whnf) ?_
  refine ev_nil (hK1 _ ?_); clear hK1
  refine good_seq fun K2 hK2 => ?_
  refine good_seq fun K3 hK3 => ?_
  refine gr rfl ?_
  refine em rfl (by conv=>lhs;whnf) ?_
  refine em rfl (by conv=>lhs;whnf) ?_
  refine ev_q rfl (q_len tEs22 rfl ?_)
  intro n4 hn4
  try simp only [List.length_map] at hn4
  refine ev_k rfl (k_make tE22 rfl rfl zA2 tBy2 rfl (by omega) (by omega) (by omega) rfl (by show _ = xs.length; omega) ?_)
  refine em rfl (by conv=>lhs;whnf) ?_
  refine ev_q rfl (q_callI rfl rfl (by change ([.lst 1 (xs.map ci), .lst 1 (List.take xs.length (List.replicate xs.length (zelem [.s (.int .i64 0)]))), .s (.int .i64 0), .s (.int .i64 lim)] : List AV) = _; rw [takeRep]) (D_impl_boilingCode xs (List.replicate xs.length 0) 0 lim hx (by simpa using hx)) ?_)
  intro n5 hn5
  refine ea rfl (by conv=>lhs;whnf) ?_
  refine ev_nil (hK3 _ ?_); clear hK3
  refine good_seq fun K6 hK6 => ?_
  refine gr rfl ?_
  refine em rfl (by conv=>lhs;whnf) ?_
  refine ei rfl rfl rfl ?_
  intro b7 hb7; cases b7
  · replace hb7 := neF hb7
    refine ev_nil (hK6 _ ?_); clear hK6
    refine good_condF rfl ?_
    refine good_skip (hK2 _ ?_); clear hK2
    refine good_seq fun K8 hK8 => ?_
    refine gr rfl ?_
    refine ea rfl (by conv=>lhs;whnf) ?_
    refine ev_nil (hK8 _ ?_); clear hK8
    refine good_seq fun K9 hK9 => ?_
    refine good_seq fun K10 hK10 => ?_
    refine gr rfl ?_
    refine em rfl (by conv=>lhs;whnf) ?_
    refine ev_q rfl (q_len tEs22 rfl ?_)
    intro n11 hn11
    try simp only [List.length_map] at hn11
    refine em rfl (by conv=>lhs;whnf) ?_
    refine ev_nil (hK10 _ ?_); clear hK10
    refine good_block ?_
    refine good_loop (α := Nat) (fun i => { env := upd (upd (upd (upd (upd ((fun _ => .junk)) 1 (.s (.int .i64 lim))) 7 (.own 32 (ixs (fun i => lim < gd xs i) i).length)) 19 (.lst 1 (xs.map ci))) 20 (.s (.int .i64 ((xs.length : Int))))) 21 (.s (.int .i64 i)), H := upd ((fun _ => none)) 32 (some (.row 2 1 ((ixs (fun i => lim < gd xs i) i).map ci))) }) (fun i => i ≤ xs.length) (fun i => xs.length - i) 0 ?_ ?_ ?_
    · show 0 ≤ _; omega
    · refine Sub.trans (sub_nil 7 32 2 1 rfl rfl (by decide)) ?_
      refine sub_weak ?_ ?_
      · exact weakH_row (rowEq (rfl)) (weakH_none _)
      · refine weakE_upd ?e21 ?r21 (weakE_upd ?e20 ?r20 (weakE_upd ?e19 ?r19 (weakE_upd ?e7 ?r7 (weakE_upd ?e1 ?r1 (weakE_junk _ _)))))
        case e1 => first | rfl | exact fI (by omega) | (simp_all)
        case r1 => intro h hh; cases hh
        case e7 => first | rfl | exact fI (by omega) | (first | rfl | (rw [hst]; exact ownEq (by simp)) | (rw [hst]))
        case r7 => intro h hh; simp [refs] at hh; subst hh; rfl
        case e19 => first | rfl | exact fI (by omega) | (simp_all)
        case r19 => intro h hh; cases hh
        case e20 => first | rfl | exact fI (by omega) | (simp_all)
        case r20 => intro h hh; cases hh
        case e21 => first | rfl | exact fI (by omega) | (simp_all)
        case r21 => intro h hh; cases hh
    · rintro i hI
      refine good_seq fun K12 hK12 => ?_
      refine gr rfl ?_
      refine ei rfl rfl rfl ?_
      intro b13 hb13; cases b13
      · replace hb13 := dF hb13
        refine ev_nil (hK12 _ ?_); clear hK12
        refine good_seq fun K14 hK14 => ?_
        refine good_condF rfl ?_
        refine good_exit ?_
        repeat first|refine thenQ_exit ?_|refine blockQ_pass rfl ?_
        refine blockQ_exit (hK9 _ ?_); clear hK9
        refine good_seq fun K15 hK15 => ?_
        refine gr rfl ?_
        refine em rfl (by conv=>lhs;whnf) ?_
        refine ea rfl (by conv=>lhs;whnf) ?_
        refine ea rfl (by conv=>lhs;whnf) ?_
        refine ev_nil (hK15 _ ?_); clear hK15
        refine good_ret ?_
        repeat first|refine thenQ_ret ?_|refine blockQ_ret ?_
        refine fx_many rfl ?_
        refine fxs_tmp (by conv=>lhs;whnf) ?_
        refine fxs_tmp (by conv=>lhs;whnf) ?_
        refine fx_nil ?_
        clear hK14
        have e2 : thC xs lim = n5 := (by unfold thC; omega)
        first | (have e : thL xs lim = [] := thL_no (by unfold thC; omega)) | (have e : thL xs lim = ixs (fun i => lim < gd xs i) i := (by rw [thL_ok (by unfold thC; omega), show xs.length = i by omega]))
        exact ⟨_, .tup (.cons (conv_eq (by first | rfl | (rw [e]; done) | (rw [e]; rfl) | exact ownEq (by first | omega | simp_all))) (.cons (conv_eq (by first | rfl | exact fI (by first | omega | grind) | (exfalso; first | omega | grind))) (.nil))), weakH_row (rowEq (by first | rfl | (rw [e]; done) | (rw [e]; rfl) | (simp_all; done))) (weakH_none _), refsIn_ok rfl⟩
      · replace hb13 := dT hb13
        obtain ⟨p, hp⟩ := getL (xs := xs) (n := (i : Int)) (by omega) (by omega)
        replace hp : xs[i]? = some p := hp
        refine ev_nil (hK12 _ ?_); clear hK12
        refine good_seq fun K16 hK16 => ?_
        refine good_condT rfl ?_
        refine good_skip (hK16 _ ?_); clear hK16
        refine good_seq fun K17 hK17 => ?_
        refine good_block ?_
        refine good_seq fun K18 hK18 => ?_
        refine gr rfl ?_
        refine em rfl (by conv=>lhs;whnf) ?_
        refine ev_q rfl (q_idx tE22 rfl rfl (by exact Int.natCast_nonneg _) (by exact map_get hp) rfl ?_)
        refine ev_q rfl (q_load tA2 rfl ?_)
        refine ea rfl (by conv=>lhs;whnf) ?_
        refine ea rfl (by conv=>lhs;whnf) ?_
        refine ev_nil (hK18 _ ?_); clear hK18
        refine good_seq fun K19 hK19 => ?_
        refine gr rfl ?_
        refine em rfl (by conv=>lhs;whnf) ?_
        refine em rfl (by conv=>lhs;whnf) ?_
        refine ei rfl rfl rfl ?_
        intro b20 hb20; cases b20
        · replace hb20 := dF hb20
          have hst := ixs_F (p := (fun i => lim < gd xs i)) (n := i) (by show ¬ lim < gd xs i; rw [gd_eq hp]; omega)
          refine ev_nil (hK19 _ ?_); clear hK19
          refine good_condF rfl ?_
          refine good_skip (hK17 _ ?_); clear hK17
          refine gr rfl ?_
          refine ei rfl rfl rfl ?_
          intro n21 hn21
          replace hn21 := in64 hn21 (by omega) (by omega)
          refine em rfl (by conv=>lhs;whnf) ?_
          refine ev_nil ?_
          clear hK9
          refine ⟨i + 1, ?_, ?_, ?_⟩
          · show _ ≤ _; omega
          · first | omega | (simp only []; omega) | (dsimp only; omega)
          · refine sub_weak ?_ ?_
            · exact weakH_row (rowEq (by rw [hst]; first | done | (rw [List.map_append]; rfl))) (weakH_none _)
            · refine weakE_upd ?e21 ?r21 (weakE_upd ?e20 ?r20 (weakE_upd ?e19 ?r19 (weakE_upd ?e7 ?r7 (weakE_upd ?e1 ?r1 (weakE_junk _ _)))))
              case e1 => first | rfl | exact fI (by omega) | (simp_all)
              case r1 => intro h hh; cases hh
              case e7 => first | rfl | exact fI (by omega) | (first | rfl | (rw [hst]; exact ownEq (by simp)) | (rw [hst]))
              case r7 => intro h hh; simp [refs] at hh; subst hh; rfl
              case e19 => first | rfl | exact fI (by omega) | (simp_all)
              case r19 => intro h hh; cases hh
              case e20 => first | rfl | exact fI (by omega) | (simp_all)
              case r20 => intro h hh; cases hh
              case e21 => first | rfl | exact fI (by omega) | (simp_all)
              case r21 => intro h hh; cases hh
        · replace hb20 := dT hb20
          have hst := ixs_T (p := (fun i => lim < gd xs i)) (n := i) (by show lim < gd xs i; rw [gd_eq hp]; omega)
          have hln := ixs_len (p := (fun i => lim < gd xs i)) i
          refine ev_nil (hK19 _ ?_); clear hK19
          refine good_condT rfl ?_
          refine gr rfl ?_
          refine em rfl (by conv=>lhs;whnf) ?_
          refine em rfl (by conv=>lhs;whnf) ?_
          refine ev_k rfl (k_lit tE22 zA2 rfl rfl (by decide) (by decide) rfl rfl rfl ?_)
          refine ev_k rfl (k_app tApp22 rfl rfl (by simp) rfl (.inr rfl) (by show _ ≤ _; have := (ixs_len (p := (fun i => lim < gd xs i)) i); simp [maxLen]; omega) (by have := (ixs_len (p := (fun i => lim < gd xs i)) i); simp; omega) ?_)
          refine ea rfl (by conv=>lhs;whnf) ?_
          refine ev_nil (hK17 _ ?_); clear hK17
          refine gr rfl ?_
          refine ei rfl rfl rfl ?_
          intro n22 hn22
          replace hn22 := in64 hn22 (by omega) (by omega)
          refine em rfl (by conv=>lhs;whnf) ?_
          refine ev_nil ?_
          clear hK9
          refine ⟨i + 1, ?_, ?_, ?_⟩
          · show _ ≤ _; omega
          · first | omega | (simp only []; omega) | (dsimp only; omega)
          · refine sub_weak ?_ ?_
            · exact weakH_row (rowEq (by rw [hst]; first | done | (rw [List.map_append]; rfl))) (weakH_none _)
            · refine weakE_upd ?e21 ?r21 (weakE_upd ?e20 ?r20 (weakE_upd ?e19 ?r19 (weakE_upd ?e7 ?r7 (weakE_upd ?e1 ?r1 (weakE_junk _ _)))))
              case e1 => first | rfl | exact fI (by omega) | (simp_all)
              case r1 => intro h hh; cases hh
              case e7 => first | rfl | exact fI (by omega) | (first | rfl | (rw [hst]; exact ownEq (by simp)) | (rw [hst]))
              case r7 => intro h hh; simp [refs] at hh; subst hh; rfl
              case e19 => first | rfl | exact fI (by omega) | (simp_all)
              case r19 => intro h hh; cases hh
              case e20 => first | rfl | exact fI (by omega) | (simp_all)
              case r20 => intro h hh; cases hh
              case e21 => first | rfl | exact fI (by omega) | (simp_all)
              case r21 => intro h hh; cases hh
  · replace hb7 := neT hb7
    refine ev_nil (hK6 _ ?_); clear hK6
    refine good_condT rfl ?_
    refine good_seq fun K23 hK23 => ?_
    refine gr rfl ?_
    refine em rfl (by conv=>lhs;whnf) ?_
    refine ea rfl (by conv=>lhs;whnf) ?_
    refine ea rfl (by conv=>lhs;whnf) ?_
    refine ev_nil (hK23 _ ?_); clear hK23
    refine good_ret ?_
    repeat first|refine thenQ_ret ?_|refine blockQ_ret ?_
    refine fx_many rfl ?_
    refine fxs_tmp (by conv=>lhs;whnf) ?_
    refine fxs_tmp (by conv=>lhs;whnf) ?_
    refine fx_nil ?_
    clear hK2
    have e2 : thC xs lim = n5 := (by unfold thC; omega)
    first | (have e : thL xs lim = [] := thL_no (by unfold thC; omega)) | (have e : thL xs lim = ixs (fun i => lim < gd xs i) i := (by rw [thL_ok (by unfold thC; omega), show xs.length = i by omega]))
    exact ⟨_, .tup (.cons (conv_nil rfl (by decide) (by rw [e]; rfl)) (.cons (conv_eq (by first | rfl | exact fI (by first | omega | grind) | (exfalso; first | omega | grind))) (.nil))), weakH_row (rowEq (by first | rfl | (rw [e]; done) | (rw [e]; rfl) | (simp_all; done))) (weakH_none _), refsIn_ok rfl⟩
theorem D_impl_TooHigh (xs : List Int) (lim : Int) (hx : xs.length ≤ 17592186044416) : Den Tryz.prog 22 [.lst 1 (xs.map ci), .s (.int .i64 lim)] (.tup [.lst 1 ((thL xs lim).map ci), .s (.int .i64 (thC xs lim))]) :=
  den_of_denX (D_impl_TooHigh_X xs lim hx) (by change (some (.tup [.lst 1 (List.take (thL xs lim).length ((thL xs lim).map ci)), .s (.int .i64 (thC xs lim))]) : Option AV) = some (.tup [.lst 1 ((thL xs lim).map ci), .s (.int .i64 (thC xs lim))]); simp only [takeMap])

-- impl.HottestWater$1
theorem D_impl_HottestWater_1 (n m p : Int) (h2 : 0 ≤ m ∧ m ≤ 1000000) : Den Tryz.prog 57 [.s (.int .i64 n), .rp [.s (.int .i64 m)], .rp [.s (.int .i64 p)]] (.s (.bool (decide (stm n + m > p)))) := by
  have hb := stm_bd n
  refine den_of_good Tryz.func57 (by decide) rfl (Nat.le_of_ble_eq_true rfl) (Nat.le_of_ble_eq_true rfl) ?_
  refine good_seq fun K1 hK1 => ?_
  refine gr rfl ?_
  refine ea rfl (by conv=>lhs;whnf) ?_
  refine ev_nil (hK1 _ ?_); clear hK1
  refine good_seq fun K2 hK2 => ?_
  refine good_draw 7 hmix (by kernel_rfl) rfl ?_
  refine qm rfl (by conv=>lhs;whnf) ?_
  refine qo_q rfl (q_callI rfl rfl (rfl) (D_impl_steamPressure _) ?_)
  intro n3 hn3
  refine qo_q rfl (q_load tA2 rfl ?_)
  refine qo_q rfl (q_int rfl rfl ?_)
  intro n4 hn4
  replace hn4 := in64 hn4 (by omega) (by omega)
  refine qo_q rfl (q_load tA2 rfl ?_)
  refine qo_q rfl (q_int rfl rfl ?_)
  intro b5 hb5; cases b5
  · replace hb5 := dF hb5
    refine qa rfl (by conv=>lhs;whnf) ?_
    refine qo_nil ?_
    refine ev_nil (hK2 _ ?_); clear hK2
    refine good_ret ?_
    repeat first|refine thenQ_ret ?_|refine blockQ_ret ?_
    refine ret_tmp (st := _) rfl (by conv=>lhs;whnf) rfl ?_
    first | rfl | exact fT (by first | omega | grind) | exact fF (by first | omega | grind) | exact fT' (by first | omega | grind) | (exfalso; first | omega | grind)
  · replace hb5 := dT hb5
    refine qa rfl (by conv=>lhs;whnf) ?_
    refine qo_nil ?_
    refine ev_nil (hK2 _ ?_); clear hK2
    refine good_ret ?_
    repeat first|refine thenQ_ret ?_|refine blockQ_ret ?_
    refine ret_tmp (st := _) rfl (by conv=>lhs;whnf) rfl ?_
    first | rfl | exact fT (by first | omega | grind) | exact fF (by first | omega | grind) | exact fT' (by first | omega | grind) | (exfalso; first | omega | grind)

-- impl.orNotFound
theorem D_impl_orNotFound_F (n : Int)  : Den Tryz.prog 58 [.s (.int .i64 n), .s (.bool false)] (.tup [.s (.int .i64 0), .s (.int .i64 3)]) := by
  refine den_of_good Tryz.func58 (by decide) rfl (Nat.le_of_ble_eq_true rfl) (Nat.le_of_ble_eq_true rfl) ?_
  refine good_seq fun K1 hK1 => ?_
  refine gr rfl ?_
  refine ea rfl (by conv=>lhs;whnf) ?_
  refine ea rfl (by conv=>lhs;whnf) ?_
  refine ev_nil (hK1 _ ?_); clear hK1
  refine good_seq fun K2 hK2 => ?_
  refine good_seq fun K3 hK3 => ?_
  refine gr rfl ?_
  refine em rfl (by conv=>lhs;whnf) ?_
  refine ev_q rfl (q_not rfl rfl ?_)
  refine ev_nil (hK3 _ ?_); clear hK3
  refine good_condT rfl ?_
  refine good_seq fun K4 hK4 => ?_
  refine gr rfl ?_
  refine ea rfl (by conv=>lhs;whnf) ?_
  refine ea rfl (by conv=>lhs;whnf) ?_
  refine ev_nil (hK4 _ ?_); clear hK4
  refine good_ret ?_
  repeat first|refine thenQ_ret ?_|refine blockQ_ret ?_
  refine ret_many rfl ?_
  refine res_tmp (by conv=>lhs;whnf) rfl ?_
  refine res_tmp (by conv=>lhs;whnf) rfl ?_
  refine res_nil ?_
  clear hK2
  exact fTup1 (by first | rfl | exact fI (by first | omega | grind) | (exfalso; first | omega | grind)) (fTup1 (by first | rfl | exact fI (by first | omega | grind) | (exfalso; first | omega | grind)) (rfl))
theorem D_impl_orNotFound_T (n : Int)  : Den Tryz.prog 58 [.s (.int .i64 n), .s (.bool true)] (.tup [.s (.int .i64 n), .s (.int .i64 0)]) := by
  refine den_of_good Tryz.func58 (by decide) rfl (Nat.le_of_ble_eq_true rfl) (Nat.le_of_ble_eq_true rfl) ?_
  refine good_seq fun K1 hK1 => ?_
  refine gr rfl ?_
  refine ea rfl (by conv=>lhs;whnf) ?_
  refine ea rfl (by conv=>lhs;whnf) ?_
  refine ev_nil (hK1 _ ?_); clear hK1
  refine good_seq fun K2 hK2 => ?_
  refine good_seq fun K3 hK3 => ?_
  refine gr rfl ?_
  refine em rfl (by conv=>lhs;whnf) ?_
  refine ev_q rfl (q_not rfl rfl ?_)
  refine ev_nil (hK3 _ ?_); clear hK3
  refine good_condF rfl ?_
  refine good_skip (hK2 _ ?_); clear hK2
  refine good_seq fun K4 hK4 => ?_
  refine gr rfl ?_
  refine em rfl (by conv=>lhs;whnf) ?_
  refine ea rfl (by conv=>lhs;whnf) ?_
  refine ea rfl (by conv=>lhs;whnf) ?_
  refine ev_nil (hK4 _ ?_); clear hK4
  refine good_ret ?_
  repeat first|refine thenQ_ret ?_|refine blockQ_ret ?_
  refine ret_many rfl ?_
  refine res_tmp (by conv=>lhs;whnf) rfl ?_
  refine res_tmp (by conv=>lhs;whnf) rfl ?_
  refine res_nil ?_
  exact fTup1 (by first | rfl | exact fI (by first | omega | grind) | (exfalso; first | omega | grind)) (fTup1 (by first | rfl | exact fI (by first | omega | grind) | (exfalso; first | omega | grind)) (rfl))

-- impl.HottestWater
theorem D_impl_HottestWater (p m : Int)  : Den Tryz.prog 24 [.s (.int .i64 p), .s (.int .i64 m)] (.tup [.s (.int .i64 (if (0 ≤ m ∧ m ≤ 1000000) ∧ (0 ≤ p ∧ p ≤ 100000000) then (if hot p m = 0 then 0 else hot p m - 1) else 0)), .s (.int .i64 (if (0 ≤ m ∧ m ≤ 1000000) ∧ (0 ≤ p ∧ p ≤ 100000000) then (if hot p m = 0 then 3 else 0) else 2))]) := by
  have hs := hot_spec p m
  refine den_of_good Tryz.func24 (by decide) rfl (Nat.le_of_ble_eq_true rfl) (Nat.le_of_ble_eq_true rfl) ?_
  refine good_seq fun K1 hK1 => ?_
  refine gr rfl ?_
  refine ev_k rfl (k_box (by conv=>lhs;whnf) rfl rfl rfl ?_)
  refine ev_k rfl (k_box (by conv=>lhs;whnf) rfl rfl rfl ?_)
  refine ea rfl (by conv=>lhs;whnf) ?_
  refine ea rfl (by conv=>lhs;whnf) ?_
  refine ev_nil (hK1 _ ?_); clear hK1
  refine good_seq fun K2 hK2 => ?_
  refine good_seq fun K3 hK3 => ?_
  refine gr rfl ?_
  refine ev_q rfl (q_load tA2 rfl ?_)
  refine ev_q rfl (q_callB rfl rfl (rfl) (D_impl_marginOk ..) ?_)
  intro b4 hb4; cases b4
  · first | replace hb4 := dF hb4 | skip
    refine ev_q rfl (q_not rfl rfl ?_)
    refine em rfl (by conv=>lhs;whnf) ?_
    refine ev_skip rfl ?_
    refine ev_skip rfl ?_
    refine ev_skip rfl ?_
    refine ev_q rfl (q_pickT rfl (by conv=>lhs;whnf) ?_)
    refine ev_nil (hK3 _ ?_); clear hK3
    refine good_condT rfl ?_
    refine good_seq fun K5 hK5 => ?_
    refine gr rfl ?_
    refine ea rfl (by conv=>lhs;whnf) ?_
    refine ea rfl (by conv=>lhs;whnf) ?_
    refine ev_nil (hK5 _ ?_); clear hK5
    refine good_ret ?_
    repeat first|refine thenQ_ret ?_|refine blockQ_ret ?_
    refine ret_many rfl ?_
    refine res_tmp (by conv=>lhs;whnf) rfl ?_
    refine res_tmp (by conv=>lhs;whnf) rfl ?_
    refine res_nil ?_
    clear hK2
    first | exact fTup1 (fI (by grind)) (fTup1 (fI (by grind)) rfl)
  · first | replace hb4 := dT hb4 | skip
    refine ev_q rfl (q_not rfl rfl ?_)
    refine em rfl (by conv=>lhs;whnf) ?_
    refine ev_q rfl (q_load tA2 rfl ?_)
    refine ev_q rfl (q_callB rfl rfl (rfl) (D_impl_pressureOk ..) ?_)
    intro b6 hb6; cases b6
    · first | replace hb6 := dF hb6 | skip
      refine ev_q rfl (q_not rfl rfl ?_)
      refine ev_q rfl (q_pickF rfl (by conv=>lhs;whnf) ?_)
      refine ev_nil (hK3 _ ?_); clear hK3
      refine good_condT rfl ?_
      refine good_seq fun K7 hK7 => ?_
      refine gr rfl ?_
      refine ea rfl (by conv=>lhs;whnf) ?_
      refine ea rfl (by conv=>lhs;whnf) ?_
      refine ev_nil (hK7 _ ?_); clear hK7
      refine good_ret ?_
      repeat first|refine thenQ_ret ?_|refine blockQ_ret ?_
      refine ret_many rfl ?_
      refine res_tmp (by conv=>lhs;whnf) rfl ?_
      refine res_tmp (by conv=>lhs;whnf) rfl ?_
      refine res_nil ?_
      clear hK2
      first | exact fTup1 (fI (by grind)) (fTup1 (fI (by grind)) rfl)
    · first | replace hb6 := dT hb6 | skip
      refine ev_q rfl (q_not rfl rfl ?_)
      refine ev_q rfl (q_pickF rfl (by conv=>lhs;whnf) ?_)
      refine ev_nil (hK3 _ ?_); clear hK3
      refine good_condF rfl ?_
      refine good_skip (hK2 _ ?_); clear hK2
      refine good_seq fun K8 hK8 => ?_
      refine gr rfl ?_
      refine ev_q rfl (q_clo rfl rfl ?_)
      refine ev_q rfl (q_call rfl rfl (rfl) (D_impl_firstIn _ _ (fun n => stm n + m > p) 0 18000 (by omega) (by omega) (by omega) (fun a b h1 h2 h3 h4 => by have := stm_mono h2; omega) (fun a h1 h2 => D_impl_HottestWater_1 a m p (by omega))) rfl ?_)
      refine em rfl (by conv=>lhs;whnf) ?_
      refine ev_q rfl (q_extractI rfl rfl ?_)
      intro n9 hn9
      refine ev_q rfl (q_extractB rfl rfl ?_)
      intro b10 hb10; cases b10
      · first | replace hb10 := dF hb10 | skip
        replace hb10 : ¬ hot p m ≤ 18000 := hb10
        replace hn9 : n9 = hot p m := hn9
        refine ea rfl (by conv=>lhs;whnf) ?_
        refine ea rfl (by conv=>lhs;whnf) ?_
        refine ev_nil (hK8 _ ?_); clear hK8
        refine good_seq fun K11 hK11 => ?_
        refine good_seq fun K12 hK12 => ?_
        refine gr rfl ?_
        refine em rfl (by conv=>lhs;whnf) ?_
        refine ev_q rfl (q_not rfl rfl ?_)
        refine ev_nil (hK12 _ ?_); clear hK12
        refine good_condT rfl ?_
        refine good_seq fun K13 hK13 => ?_
        refine gr rfl ?_
        refine ea rfl (by conv=>lhs;whnf) ?_
        refine ea rfl (by conv=>lhs;whnf) ?_
        refine ev_nil (hK13 _ ?_); clear hK13
        refine good_ret ?_
        repeat first|refine thenQ_ret ?_|refine blockQ_ret ?_
        refine ret_many rfl ?_
        refine res_tmp (by conv=>lhs;whnf) rfl ?_
        refine res_tmp (by conv=>lhs;whnf) rfl ?_
        refine res_nil ?_
        clear hK11
        first | exact fTup1 (fI (by grind)) (fTup1 (fI (by grind)) rfl)
      · first | replace hb10 := dT hb10 | skip
        replace hb10 : hot p m ≤ 18000 := hb10
        replace hn9 : n9 = hot p m := hn9
        refine ea rfl (by conv=>lhs;whnf) ?_
        refine ea rfl (by conv=>lhs;whnf) ?_
        refine ev_nil (hK8 _ ?_); clear hK8
        refine good_seq fun K14 hK14 => ?_
        refine good_seq fun K15 hK15 => ?_
        refine gr rfl ?_
        refine em rfl (by conv=>lhs;whnf) ?_
        refine ev_q rfl (q_not rfl rfl ?_)
        refine ev_nil (hK15 _ ?_); clear hK15
        refine good_condF rfl ?_
        refine good_skip (hK14 _ ?_); clear hK14
        refine good_seq fun K16 hK16 => ?_
        refine gr rfl ?_
        refine em rfl (by conv=>lhs;whnf) ?_
        refine ei rfl rfl rfl ?_
        intro n17 hn17
        replace hn17 := in64 hn17 (by omega) (by omega)
        refine em rfl (by conv=>lhs;whnf) ?_
        refine ei rfl rfl rfl ?_
        intro b18 hb18; cases b18
        · replace hb18 := dF hb18
          refine ev_q rfl (q_call rfl rfl (rfl) (by first | exact (D_impl_orNotFound_T _) | exact (D_impl_orNotFound_F _)) rfl ?_)
          refine ev_q rfl (q_extractI rfl rfl ?_)
          intro n19 hn19
          refine ev_q rfl (q_extractI rfl rfl ?_)
          intro n20 hn20
          refine ea rfl (by conv=>lhs;whnf) ?_
          refine ea rfl (by conv=>lhs;whnf) ?_
          refine ev_nil (hK16 _ ?_); clear hK16
          refine good_ret ?_
          repeat first|refine thenQ_ret ?_|refine blockQ_ret ?_
          refine ret_many rfl ?_
          refine res_tmp (by conv=>lhs;whnf) rfl ?_
          refine res_tmp (by conv=>lhs;whnf) rfl ?_
          refine res_nil ?_
          first | exact fTup1 (fI (by grind)) (fTup1 (fI (by grind)) rfl)
        · replace hb18 := dT hb18
          refine ev_q rfl (q_call rfl rfl (rfl) (by first | exact (D_impl_orNotFound_T _) | exact (D_impl_orNotFound_F _)) rfl ?_)
          refine ev_q rfl (q_extractI rfl rfl ?_)
          intro n21 hn21
          refine ev_q rfl (q_extractI rfl rfl ?_)
          intro n22 hn22
          refine ea rfl (by conv=>lhs;whnf) ?_
          refine ea rfl (by conv=>lhs;whnf) ?_
          refine ev_nil (hK16 _ ?_); clear hK16
          refine good_ret ?_
          repeat first|refine thenQ_ret ?_|refine blockQ_ret ?_
          refine ret_many rfl ?_
          refine res_tmp (by conv=>lhs;whnf) rfl ?_
          refine res_tmp (by conv=>lhs;whnf) rfl ?_
          refine res_nil ?_
          first | exact fTup1 (fI (by grind)) (fTup1 (fI (by grind)) rfl)

-- impl.waterOk
theorem D_impl_waterOk (a : Int)  : Den Tryz.prog 61 [.s (.int .i64 a)] (.s (.bool (decide (0 ≤ a ∧ a ≤ 18000)))) := by
  refine den_of_good Tryz.func61 (by decide) rfl (Nat.le_of_ble_eq_true rfl) (Nat.le_of_ble_eq_true rfl) ?_
  refine good_seq fun K1 hK1 => ?_
  refine gr rfl ?_
  refine ea rfl (by conv=>lhs;whnf) ?_
  refine ev_nil (hK1 _ ?_); clear hK1
  refine good_seq fun K2 hK2 => ?_
  refine gr rfl ?_
  refine em rfl (by conv=>lhs;whnf) ?_
  refine ev_q rfl (q_callB rfl rfl (rfl) (D_impl_within ..) ?_)
  intro b3 hb3; cases b3
  · first | replace hb3 := dF hb3 | skip
    refine ea rfl (by conv=>lhs;whnf) ?_
    refine ev_nil (hK2 _ ?_); clear hK2
    refine good_ret ?_
    repeat first|refine thenQ_ret ?_|refine blockQ_ret ?_
    refine ret_tmp (st := _) rfl (by conv=>lhs;whnf) rfl ?_
    first | rfl | exact fT (by first | omega | grind) | exact fF (by first | omega | grind) | exact fT' (by first | omega | grind) | (exfalso; first | omega | grind)
  · first | replace hb3 := dT hb3 | skip
    refine ea rfl (by conv=>lhs;whnf) ?_
    refine ev_nil (hK2 _ ?_); clear hK2
    refine good_ret ?_
    repeat first|refine thenQ_ret ?_|refine blockQ_ret ?_
    refine ret_tmp (st := _) rfl (by conv=>lhs;whnf) rfl ?_
    first | rfl | exact fT (by first | omega | grind) | exact fF (by first | omega | grind) | exact fT' (by first | omega | grind) | (exfalso; first | omega | grind)

-- slices.Max[[]int64,int64]
theorem D_slices_Max_int64_int64 (ns : List Int) (hn : ns.length ≤ 17592186044416) (h1 : 1 ≤ ns.length) : Den Tryz.prog 62 [.lst 1 (ns.map ci)] (.s (.int .i64 (topN ns ns.length))) := by
  refine den_of_good Tryz.func62 (by decide) rfl (Nat.le_of_ble_eq_true rfl) (Nat.le_of_ble_eq_true rfl) ?_
  refine good_seq fun K1 hK1 => ?_
  refine gr rfl ?_
  refine ea rfl (by conv=>lhs;whnf) ?_
  refine ev_nil (hK1 _ ?_); clear hK1
  refine good_seq fun K2 hK2 => ?_
  refine good_seq fun K3 hK3 => ?_
  refine gr rfl ?_
  refine em rfl (by conv=>lhs;whnf) ?_
  refine ev_q rfl (q_len tEs22 rfl ?_)
  intro n4 hn4
  try simp only [List.length_map] at hn4
  refine ei rfl rfl rfl ?_
  intro b5 hb5; cases b5
  rotate_left
  · replace hb5 := dT hb5
    exfalso; omega
  replace hb5 := dF hb5
  refine ev_nil (hK3 _ ?_); clear hK3
  refine good_condF rfl ?_
  refine good_skip (hK2 _ ?_); clear hK2
  refine good_seq fun K6 hK6 => ?_
  refine gr rfl ?_
  refine em rfl (by conv=>lhs;whnf) ?_
  obtain ⟨q, hq⟩ := getL (xs := ns) (n := 0) (by omega) (by omega)
  replace hq : ns[0]? = some q := hq
  have eq0 := gd_eq hq
  refine ev_q rfl (q_idx tE22 rfl rfl (by decide) (by exact map_get hq) rfl ?_)
  refine ev_q rfl (q_load tA2 rfl ?_)
  refine ea rfl (by conv=>lhs;whnf) ?_
  refine ev_nil (hK6 _ ?_); clear hK6
  refine good_seq fun K7 hK7 => ?_
  refine good_seq fun K8 hK8 => ?_
  refine gr rfl ?_
  refine ea rfl (by conv=>lhs;whnf) ?_
  refine ev_nil (hK8 _ ?_); clear hK8
  refine good_block ?_
  refine good_loop (α := Nat) (fun i => { env := upd (upd (upd ((fun _ => .junk)) 0 (.lst 1 (ns.map ci))) 3 (.s (.int .i64 (topN ns i)))) 4 (.s (.int .i64 i)), H := fun _ => none }) (fun i => 1 ≤ i ∧ i ≤ ns.length) (fun i => ns.length - i) 1 ?_ ?_ ?_
  · show 1 ≤ 1 ∧ 1 ≤ _; omega
  · refine sub_weak ?_ ?_
    · exact weakH_none _
    · refine weakE_upd ?e4 ?r4 (weakE_upd ?e3 ?r3 (weakE_upd ?e0 ?r0 (weakE_junk _ _)))
      case e0 => first | rfl | exact fI (by omega) | (simp_all)
      case r0 => intro h hh; cases hh
      case e3 => first | rfl | exact fI (by omega) | (first | rfl | exact fI (by rw [topN_1]; omega) | exact fI (by rw [hst]; grind))
      case r3 => intro h hh; cases hh
      case e4 => first | rfl | exact fI (by omega) | (simp_all)
      case r4 => intro h hh; cases hh
  · rintro i hI
    refine good_seq fun K9 hK9 => ?_
    refine good_seq fun K10 hK10 => ?_
    refine gr rfl ?_
    refine em rfl (by conv=>lhs;whnf) ?_
    refine em rfl (by conv=>lhs;whnf) ?_
    refine ev_q rfl (q_len tEs22 rfl ?_)
    intro n11 hn11
    try simp only [List.length_map] at hn11
    refine ei rfl rfl rfl ?_
    intro b12 hb12; cases b12
    · replace hb12 := dF hb12
      refine ev_nil (hK10 _ ?_); clear hK10
      refine good_condF rfl ?_
      refine good_exit ?_
      repeat first|refine thenQ_exit ?_|refine blockQ_pass rfl ?_
      refine blockQ_exit (hK7 _ ?_); clear hK7
      refine good_seq fun K13 hK13 => ?_
      refine gr rfl ?_
      refine em rfl (by conv=>lhs;whnf) ?_
      refine ea rfl (by conv=>lhs;whnf) ?_
      refine ev_nil (hK13 _ ?_); clear hK13
      refine good_ret ?_
      repeat first|refine thenQ_ret ?_|refine blockQ_ret ?_
      refine ret_tmp (st := _) rfl (by conv=>lhs;whnf) rfl ?_
      clear hK9
      exact fI (by rw [show ns.length = i by omega])
    · replace hb12 := dT hb12
      obtain ⟨q2, hq2⟩ := getL (xs := ns) (n := (i : Int)) (by omega) (by omega)
      replace hq2 : ns[i]? = some q2 := hq2
      have eg := gd_eq hq2
      have hst := topN_s (ns := ns) (n := i)
      refine ev_nil (hK10 _ ?_); clear hK10
      refine good_condT rfl ?_
      refine good_skip (hK9 _ ?_); clear hK9
      refine good_seq fun K14 hK14 => ?_
      refine good_block ?_
      refine gr rfl ?_
      refine em rfl (by conv=>lhs;whnf) ?_
      refine em rfl (by conv=>lhs;whnf) ?_
      refine em rfl (by conv=>lhs;whnf) ?_
      refine ev_q rfl (q_idx tE22 rfl rfl (by exact Int.natCast_nonneg _) (by exact map_get hq2) rfl ?_)
      refine ev_q rfl (q_load tA2 rfl ?_)
      refine ev_q rfl (q_max rfl rfl ?_)
      intro n15 hn15; simp only [mxI, mnI] at hn15
      refine ea rfl (by conv=>lhs;whnf) ?_
      refine ev_nil (hK14 _ ?_); clear hK14
      refine gr rfl ?_
      refine em rfl (by conv=>lhs;whnf) ?_
      refine ei rfl rfl rfl ?_
      intro n16 hn16
      replace hn16 := in64 hn16 (by omega) (by omega)
      refine ea rfl (by conv=>lhs;whnf) ?_
      refine ev_nil ?_
      clear hK7
      refine ⟨i + 1, ?_, ?_, ?_⟩
      · show 1 ≤ _ ∧ _ ≤ _; omega
      · first | omega | (simp only []; omega) | (dsimp only; omega)
      · refine sub_weak ?_ ?_
        · exact weakH_none _
        · refine weakE_upd ?e4 ?r4 (weakE_upd ?e3 ?r3 (weakE_upd ?e0 ?r0 (weakE_junk _ _)))
          case e0 => first | rfl | exact fI (by omega) | (simp_all)
          case r0 => intro h hh; cases hh
          case e3 => first | rfl | exact fI (by omega) | (first | rfl | exact fI (by rw [topN_1]; omega) | exact fI (by rw [hst]; grind))
          case r3 => intro h hh; cases hh
          case e4 => first | rfl | exact fI (by omega) | (simp_all)
          case r4 => intro h hh; cases hh

theorem spO {ns : List Int} {ps : List Pi} {k t m : Int} (h : netOk ns ps) (h1 : (0 ≤ k ∧ k < ns.length) ∧ (0 ≤ m ∧ m ≤ 1000000) ∧ (0 ≤ t ∧ t ≤ 18000)) : spOk ns ps k t m = 0 := by unfold spOk; rw [if_pos h, if_pos h1]
theorem spB {ns : List Int} {ps : List Pi} {k t m : Int} (h : ¬ netOk ns ps) : spOk ns ps k t m = 1 := by unfold spOk; rw [if_neg h]
theorem spR {ns : List Int} {ps : List Pi} {k t m : Int} (h : netOk ns ps) (h1 : ¬ ((0 ≤ k ∧ k < ns.length) ∧ (0 ≤ m ∧ m ≤ 1000000) ∧ (0 ≤ t ∧ t ≤ 18000))) : spOk ns ps k t m = 2 := by unfold spOk; rw [if_pos h, if_neg h1]

-- impl.StillPressure
theorem D_impl_StillPressure (ns : List Int) (ps : List Pi) (k t m : Int) (hn : ns.length ≤ 17592186044416) (hp : ps.length ≤ 2513169434843) (hz : idSz ps) : Den Tryz.prog 26 [.agg [.lst 1 (ns.map ci), .lst 6 (ps.map piA)], .s (.int .i64 k), .s (.int .i64 t), .s (.int .i64 m)] (.tup [.s (.int .i64 (if spOk ns ps k t m = 0 then spV ns k t m else 0)), .s (.int .i64 (spOk ns ps k t m))]) := by
  refine den_of_good Tryz.func26 (by decide) rfl (Nat.le_of_ble_eq_true rfl) (Nat.le_of_ble_eq_true rfl) ?_
  refine good_seq fun K1 hK1 => ?_
  refine gr rfl ?_
  refine ev_k rfl (k_box (by conv=>lhs;whnf) rfl rfl rfl ?_)
  refine ea rfl (by conv=>lhs;whnf) ?_
  refine ea rfl (by conv=>lhs;whnf) ?_
  refine ev_nil (hK1 _ ?_); clear hK1
  refine good_seq fun K2 hK2 => ?_
  refine good_block ?_
  refine good_seq fun K3 hK3 => ?_
  refine gr rfl ?_
  refine ev_q rfl (q_loadA tA31 rfl rfl rfl ?_)
  refine ev_q rfl (q_callB rfl rfl (rfl) (D_impl_ValidNetwork ns ps hn hp hz) ?_)
  intro b4 hb4; cases b4
  · first | replace hb4 := dF hb4 | skip
    refine ev_q rfl (q_not rfl rfl ?_)
    refine ea rfl (by conv=>lhs;whnf) ?_
    refine ev_nil (hK3 _ ?_); clear hK3
    refine good_condT rfl ?_
    refine good_seq fun K5 hK5 => ?_
    refine gr rfl ?_
    refine ea rfl (by conv=>lhs;whnf) ?_
    refine ea rfl (by conv=>lhs;whnf) ?_
    refine ev_nil (hK5 _ ?_); clear hK5
    refine good_ret ?_
    repeat first|refine thenQ_ret ?_|refine blockQ_ret ?_
    refine ret_many rfl ?_
    refine res_tmp (by conv=>lhs;whnf) rfl ?_
    refine res_tmp (by conv=>lhs;whnf) rfl ?_
    refine res_nil ?_
    clear hK2
    first | (have e := spB (ns := ns) (ps := ps) (k := k) (t := t) (m := m) ‹¬ netOk ns ps›; exact fTup1 (fI (by rw [e]; first | rfl | grind)) (fTup1 (fI (by rw [e]; first | done | grind)) rfl)) | (have e := spR (ns := ns) (ps := ps) (k := k) (t := t) (m := m) ‹netOk ns ps› (by omega); exact fTup1 (fI (by rw [e]; first | rfl | grind)) (fTup1 (fI (by rw [e]; first | done | grind)) rfl)) | (have e := spO (ns := ns) (ps := ps) (k := k) (t := t) (m := m) ‹netOk ns ps› (by omega); exact fTup1 (fI (by rw [if_pos e]; unfold spV; rw [gd_eq hq, show 981 * (topN ns ns.length - q) = ?t44 by omega]; omega)) (fTup1 (fI (by rw [e])) rfl))
  · first | replace hb4 := dT hb4 | skip
    refine ev_q rfl (q_not rfl rfl ?_)
    refine ea rfl (by conv=>lhs;whnf) ?_
    refine ev_nil (hK3 _ ?_); clear hK3
    refine good_condF rfl ?_
    refine good_seq fun K6 hK6 => ?_
    refine gr rfl ?_
    refine ev_q rfl (q_loadA tA31 rfl rfl rfl ?_)
    refine em rfl (by conv=>lhs;whnf) ?_
    refine ev_q rfl (q_callB rfl rfl (rfl) (D_impl_Network_hasNode ns ps _ hn) ?_)
    intro b7 hb7; cases b7
    · first | replace hb7 := dF hb7 | skip
      refine ev_q rfl (q_not rfl rfl ?_)
      refine em rfl (by conv=>lhs;whnf) ?_
      refine ev_skip rfl ?_
      refine ev_skip rfl ?_
      refine ev_skip rfl ?_
      refine ev_q rfl (q_pickT rfl (by conv=>lhs;whnf) ?_)
      refine em rfl (by conv=>lhs;whnf) ?_
      refine ev_skip rfl ?_
      refine ev_skip rfl ?_
      refine ev_skip rfl ?_
      refine ev_q rfl (q_pickT rfl (by conv=>lhs;whnf) ?_)
      refine ea rfl (by conv=>lhs;whnf) ?_
      refine ev_nil (hK6 _ ?_); clear hK6
      refine good_condT rfl ?_
      refine good_seq fun K8 hK8 => ?_
      refine gr rfl ?_
      refine ea rfl (by conv=>lhs;whnf) ?_
      refine ea rfl (by conv=>lhs;whnf) ?_
      refine ev_nil (hK8 _ ?_); clear hK8
      refine good_ret ?_
      repeat first|refine thenQ_ret ?_|refine blockQ_ret ?_
      refine ret_many rfl ?_
      refine res_tmp (by conv=>lhs;whnf) rfl ?_
      refine res_tmp (by conv=>lhs;whnf) rfl ?_
      refine res_nil ?_
      clear hK2
      first | (have e := spB (ns := ns) (ps := ps) (k := k) (t := t) (m := m) ‹¬ netOk ns ps›; exact fTup1 (fI (by rw [e]; first | rfl | grind)) (fTup1 (fI (by rw [e]; first | done | grind)) rfl)) | (have e := spR (ns := ns) (ps := ps) (k := k) (t := t) (m := m) ‹netOk ns ps› (by omega); exact fTup1 (fI (by rw [e]; first | rfl | grind)) (fTup1 (fI (by rw [e]; first | done | grind)) rfl)) | (have e := spO (ns := ns) (ps := ps) (k := k) (t := t) (m := m) ‹netOk ns ps› (by omega); exact fTup1 (fI (by rw [if_pos e]; unfold spV; rw [gd_eq hq, show 981 * (topN ns ns.length - q) = ?t44 by omega]; omega)) (fTup1 (fI (by rw [e])) rfl))
    · first | replace hb7 := dT hb7 | skip
      refine ev_q rfl (q_not rfl rfl ?_)
      refine em rfl (by conv=>lhs;whnf) ?_
      refine em rfl (by conv=>lhs;whnf) ?_
      refine ev_q rfl (q_callB rfl rfl (rfl) (D_impl_marginOk ..) ?_)
      intro b9 hb9; cases b9
      · first | replace hb9 := dF hb9 | skip
        refine ev_q rfl (q_not rfl rfl ?_)
        refine ev_q rfl (q_pickF rfl (by conv=>lhs;whnf) ?_)
        refine em rfl (by conv=>lhs;whnf) ?_
        refine ev_skip rfl ?_
        refine ev_skip rfl ?_
        refine ev_skip rfl ?_
        refine ev_q rfl (q_pickT rfl (by conv=>lhs;whnf) ?_)
        refine ea rfl (by conv=>lhs;whnf) ?_
        refine ev_nil (hK6 _ ?_); clear hK6
        refine good_condT rfl ?_
        refine good_seq fun K10 hK10 => ?_
        refine gr rfl ?_
        refine ea rfl (by conv=>lhs;whnf) ?_
        refine ea rfl (by conv=>lhs;whnf) ?_
        refine ev_nil (hK10 _ ?_); clear hK10
        refine good_ret ?_
        repeat first|refine thenQ_ret ?_|refine blockQ_ret ?_
        refine ret_many rfl ?_
        refine res_tmp (by conv=>lhs;whnf) rfl ?_
        refine res_tmp (by conv=>lhs;whnf) rfl ?_
        refine res_nil ?_
        clear hK2
        first | (have e := spB (ns := ns) (ps := ps) (k := k) (t := t) (m := m) ‹¬ netOk ns ps›; exact fTup1 (fI (by rw [e]; first | rfl | grind)) (fTup1 (fI (by rw [e]; first | done | grind)) rfl)) | (have e := spR (ns := ns) (ps := ps) (k := k) (t := t) (m := m) ‹netOk ns ps› (by omega); exact fTup1 (fI (by rw [e]; first | rfl | grind)) (fTup1 (fI (by rw [e]; first | done | grind)) rfl)) | (have e := spO (ns := ns) (ps := ps) (k := k) (t := t) (m := m) ‹netOk ns ps› (by omega); exact fTup1 (fI (by rw [if_pos e]; unfold spV; rw [gd_eq hq, show 981 * (topN ns ns.length - q) = ?t44 by omega]; omega)) (fTup1 (fI (by rw [e])) rfl))
      · first | replace hb9 := dT hb9 | skip
        refine ev_q rfl (q_not rfl rfl ?_)
        refine ev_q rfl (q_pickF rfl (by conv=>lhs;whnf) ?_)
        refine em rfl (by conv=>lhs;whnf) ?_
        refine em rfl (by conv=>lhs;whnf) ?_
        refine ev_q rfl (q_callB rfl rfl (rfl) (D_impl_waterOk ..) ?_)
        intro b11 hb11; cases b11
        · first | replace hb11 := dF hb11 | skip
          refine ev_q rfl (q_not rfl rfl ?_)
          refine ev_q rfl (q_pickF rfl (by conv=>lhs;whnf) ?_)
          refine ea rfl (by conv=>lhs;whnf) ?_
          refine ev_nil (hK6 _ ?_); clear hK6
          refine good_condT rfl ?_
          refine good_seq fun K12 hK12 => ?_
          refine gr rfl ?_
          refine ea rfl (by conv=>lhs;whnf) ?_
          refine ea rfl (by conv=>lhs;whnf) ?_
          refine ev_nil (hK12 _ ?_); clear hK12
          refine good_ret ?_
          repeat first|refine thenQ_ret ?_|refine blockQ_ret ?_
          refine ret_many rfl ?_
          refine res_tmp (by conv=>lhs;whnf) rfl ?_
          refine res_tmp (by conv=>lhs;whnf) rfl ?_
          refine res_nil ?_
          clear hK2
          first | (have e := spB (ns := ns) (ps := ps) (k := k) (t := t) (m := m) ‹¬ netOk ns ps›; exact fTup1 (fI (by rw [e]; first | rfl | grind)) (fTup1 (fI (by rw [e]; first | done | grind)) rfl)) | (have e := spR (ns := ns) (ps := ps) (k := k) (t := t) (m := m) ‹netOk ns ps› (by omega); exact fTup1 (fI (by rw [e]; first | rfl | grind)) (fTup1 (fI (by rw [e]; first | done | grind)) rfl)) | (have e := spO (ns := ns) (ps := ps) (k := k) (t := t) (m := m) ‹netOk ns ps› (by omega); exact fTup1 (fI (by rw [if_pos e]; unfold spV; rw [gd_eq hq, show 981 * (topN ns ns.length - q) = ?t44 by omega]; omega)) (fTup1 (fI (by rw [e])) rfl))
        · first | replace hb11 := dT hb11 | skip
          refine ev_q rfl (q_not rfl rfl ?_)
          refine ev_q rfl (q_pickF rfl (by conv=>lhs;whnf) ?_)
          refine ea rfl (by conv=>lhs;whnf) ?_
          refine ev_nil (hK6 _ ?_); clear hK6
          refine good_condF rfl ?_
          refine good_skip (hK2 _ ?_); clear hK2
          refine good_seq fun K13 hK13 => ?_
          refine good_draw 10 hmix (by kernel_rfl) rfl ?_
          refine qo_q rfl (q_fieldAddrP fO31_0 rfl rfl ?_)
          refine qo_q rfl (q_load tA22 rfl ?_)
          obtain ⟨q, hq⟩ := getL (xs := ns) (n := k) (by omega) (by omega)
          have hok : netOk ns ps := by assumption
          have hqb := hok.1.2.1 _ _ hq
          have htb := topN_bd hok.1.2.1 hok.1.1.1 ns.length (Nat.le_refl _)
          have hsb := stm_bd t
          refine qo_q rfl (q_callI rfl rfl (rfl) (D_slices_Max_int64_int64 ns hn (by omega)) ?_)
          intro n14 hn14
          refine qo_q rfl (q_fieldAddrP fO31_0 rfl rfl ?_)
          refine qo_q rfl (q_load tA22 rfl ?_)
          refine qm rfl (by conv=>lhs;whnf) ?_
          refine qo_q rfl (q_idx tE22 rfl rfl (by omega) (by exact map_get hq) rfl ?_)
          refine qo_q rfl (q_load tA2 rfl ?_)
          refine qo_q rfl (q_int rfl rfl ?_)
          intro n15 hn15
          replace hn15 := in64 hn15 (by omega) (by omega)
          refine qa rfl (by conv=>lhs;whnf) ?_
          refine qo_nil ?_
          refine ev_nil (hK13 _ ?_); clear hK13
          refine good_seq fun K16 hK16 => ?_
          refine gr rfl ?_
          refine em rfl (by conv=>lhs;whnf) ?_
          refine ev_q rfl (q_callI rfl rfl (rfl) (D_impl_steamPressure _) ?_)
          intro n17 hn17
          refine em rfl (by conv=>lhs;whnf) ?_
          refine ei rfl rfl rfl ?_
          intro n18 hn18
          replace hn18 := in64 hn18 (by omega) (by omega)
          refine em rfl (by conv=>lhs;whnf) ?_
          refine ei rfl rfl rfl ?_
          intro n19 hn19
          replace hn19 := in64 hn19 (by omega) (by omega)
          refine ev_q rfl (q_callI rfl rfl (rfl) (D_impl_divRound _ _ (by omega) (by omega)) ?_)
          intro n20 hn20
          have hdb := dr_bound (a := n19) (b := 10) (by omega)
          refine ei rfl rfl rfl ?_
          intro n21 hn21
          replace hn21 := in64 hn21 (by omega) (by omega)
          refine ea rfl (by conv=>lhs;whnf) ?_
          refine ea rfl (by conv=>lhs;whnf) ?_
          refine ev_nil (hK16 _ ?_); clear hK16
          refine good_ret ?_
          repeat first|refine thenQ_ret ?_|refine blockQ_ret ?_
          refine ret_many rfl ?_
          refine res_tmp (by conv=>lhs;whnf) rfl ?_
          refine res_tmp (by conv=>lhs;whnf) rfl ?_
          refine res_nil ?_
          first | (have e := spB (ns := ns) (ps := ps) (k := k) (t := t) (m := m) ‹¬ netOk ns ps›; exact fTup1 (fI (by rw [e]; first | rfl | grind)) (fTup1 (fI (by rw [e]; first | done | grind)) rfl)) | (have e := spR (ns := ns) (ps := ps) (k := k) (t := t) (m := m) ‹netOk ns ps› (by omega); exact fTup1 (fI (by rw [e]; first | rfl | grind)) (fTup1 (fI (by rw [e]; first | done | grind)) rfl)) | (have e := spO (ns := ns) (ps := ps) (k := k) (t := t) (m := m) ‹netOk ns ps› (by omega); exact fTup1 (fI (by rw [if_pos e]; unfold spV; rw [gd_eq hq, show 981 * (topN ns ns.length - q) = n19 by omega]; omega)) (fTup1 (fI (by rw [e])) rfl))

-- impl.SourcePressure
theorem D_impl_SourcePressure (ns : List Int) (ps : List Pi) (s : Int) (fl ds : List Int) (mg : Int) (hn : ns.length ≤ 17592186044416) (hp : ps.length ≤ 2513169434843) (hz : idSz ps) (hf : fl.length ≤ 17592186044416) (hd : ds.length ≤ 17592186044416) : Den Tryz.prog 9 [.agg [.lst 1 (ns.map ci), .lst 6 (ps.map piA)], .s (.int .i64 s), .lst 1 (fl.map ci), .lst 1 (ds.map ci), .s (.int .i64 mg)] (.tup [.s (.int .i64 (srV ns ps s fl ds mg)), .s (.int .i64 (srC ns ps s fl ds mg))]) := by
  refine den_of_good Tryz.func9 (by decide) rfl (Nat.le_of_ble_eq_true rfl) (Nat.le_of_ble_eq_true rfl) ?_
  refine good_seq fun K1 hK1 => ?_
  refine gr rfl ?_
  refine ev_k rfl (k_box (by conv=>lhs;whnf) rfl rfl rfl ?_)
  refine ea rfl (by conv=>lhs;whnf) ?_
  refine ea rfl (by conv=>lhs;whnf) ?_
  refine ev_nil (hK1 _ ?_); clear hK1
  refine good_seq fun K2 hK2 => ?_
  refine good_block ?_
  refine good_seq fun K3 hK3 => ?_
  refine gr rfl ?_
  refine ev_q rfl (q_loadA tA31 rfl rfl rfl ?_)
  refine ev_q rfl (q_callB rfl rfl (rfl) (D_impl_ValidNetwork ns ps hn hp hz) ?_)
  intro b4 hb4; cases b4
  · first | replace hb4 := dF hb4 | skip
    have hse := sp_1 (s := s) (fl := fl) (ds := ds) (mg := mg) (by assumption)
    refine ev_q rfl (q_not rfl rfl ?_)
    refine ea rfl (by conv=>lhs;whnf) ?_
    refine ev_nil (hK3 _ ?_); clear hK3
    refine good_condT rfl ?_
    refine good_seq fun K5 hK5 => ?_
    refine gr rfl ?_
    refine ea rfl (by conv=>lhs;whnf) ?_
    refine ea rfl (by conv=>lhs;whnf) ?_
    refine ev_nil (hK5 _ ?_); clear hK5
    refine good_ret ?_
    repeat first|refine thenQ_ret ?_|refine blockQ_ret ?_
    refine ret_many rfl ?_
    refine res_tmp (by conv=>lhs;whnf) rfl ?_
    refine res_tmp (by conv=>lhs;whnf) rfl ?_
    refine res_nil ?_
    clear hK2
    first | exact fTup1 (fI (by omega)) (fTup1 (fI (by omega)) rfl) | exact fTup1 (fI (by rw [(sp_0 (by assumption) (by omega) (by omega) (by assumption) (by first | assumption | exact ⟨by omega, by assumption⟩) (by assumption) (by assumption) : srC ns ps s fl ds mg = 0 ∧ _).2, show ns.length = j by omega])) (fTup1 (fI (by rw [(sp_0 (by assumption) (by omega) (by omega) (by assumption) (by first | assumption | exact ⟨by omega, by assumption⟩) (by assumption) (by assumption) : srC ns ps s fl ds mg = 0 ∧ _).1])) rfl)
  · first | replace hb4 := dT hb4 | skip
    refine ev_q rfl (q_not rfl rfl ?_)
    refine ea rfl (by conv=>lhs;whnf) ?_
    refine ev_nil (hK3 _ ?_); clear hK3
    refine good_condF rfl ?_
    refine good_seq fun K6 hK6 => ?_
    refine gr rfl ?_
    refine ev_q rfl (q_loadA tA31 rfl rfl rfl ?_)
    refine em rfl (by conv=>lhs;whnf) ?_
    refine ev_q rfl (q_callB rfl rfl (rfl) (D_impl_Network_hasNode _ _ _ hn) ?_)
    intro b7 hb7; cases b7
    · first | replace hb7 := dF hb7 | skip
      have hse := sp_2 (s := s) (fl := fl) (ds := ds) (mg := mg) (by assumption) (by omega)
      refine ev_q rfl (q_not rfl rfl ?_)
      refine em rfl (by conv=>lhs;whnf) ?_
      refine ev_skip rfl ?_
      refine ev_skip rfl ?_
      refine ev_skip rfl ?_
      refine ev_q rfl (q_pickT rfl (by conv=>lhs;whnf) ?_)
      refine ea rfl (by conv=>lhs;whnf) ?_
      refine ev_nil (hK6 _ ?_); clear hK6
      refine good_condT rfl ?_
      refine good_seq fun K8 hK8 => ?_
      refine gr rfl ?_
      refine ea rfl (by conv=>lhs;whnf) ?_
      refine ea rfl (by conv=>lhs;whnf) ?_
      refine ev_nil (hK8 _ ?_); clear hK8
      refine good_ret ?_
      repeat first|refine thenQ_ret ?_|refine blockQ_ret ?_
      refine ret_many rfl ?_
      refine res_tmp (by conv=>lhs;whnf) rfl ?_
      refine res_tmp (by conv=>lhs;whnf) rfl ?_
      refine res_nil ?_
      clear hK2
      first | exact fTup1 (fI (by omega)) (fTup1 (fI (by omega)) rfl) | exact fTup1 (fI (by rw [(sp_0 (by assumption) (by omega) (by omega) (by assumption) (by first | assumption | exact ⟨by omega, by assumption⟩) (by assumption) (by assumption) : srC ns ps s fl ds mg = 0 ∧ _).2, show ns.length = j by omega])) (fTup1 (fI (by rw [(sp_0 (by assumption) (by omega) (by omega) (by assumption) (by first | assumption | exact ⟨by omega, by assumption⟩) (by assumption) (by assumption) : srC ns ps s fl ds mg = 0 ∧ _).1])) rfl)
    · first | replace hb7 := dT hb7 | skip
      refine ev_q rfl (q_not rfl rfl ?_)
      refine em rfl (by conv=>lhs;whnf) ?_
      refine em rfl (by conv=>lhs;whnf) ?_
      refine ev_q rfl (q_callB rfl rfl (rfl) (D_impl_marginOk ..) ?_)
      intro b9 hb9; cases b9
      · first | replace hb9 := dF hb9 | skip
        have hse := sp_2 (s := s) (fl := fl) (ds := ds) (mg := mg) (by assumption) (by omega)
        refine ev_q rfl (q_not rfl rfl ?_)
        refine ev_q rfl (q_pickF rfl (by conv=>lhs;whnf) ?_)
        refine ea rfl (by conv=>lhs;whnf) ?_
        refine ev_nil (hK6 _ ?_); clear hK6
        refine good_condT rfl ?_
        refine good_seq fun K10 hK10 => ?_
        refine gr rfl ?_
        refine ea rfl (by conv=>lhs;whnf) ?_
        refine ea rfl (by conv=>lhs;whnf) ?_
        refine ev_nil (hK10 _ ?_); clear hK10
        refine good_ret ?_
        repeat first|refine thenQ_ret ?_|refine blockQ_ret ?_
        refine ret_many rfl ?_
        refine res_tmp (by conv=>lhs;whnf) rfl ?_
        refine res_tmp (by conv=>lhs;whnf) rfl ?_
        refine res_nil ?_
        clear hK2
        first | exact fTup1 (fI (by omega)) (fTup1 (fI (by omega)) rfl) | exact fTup1 (fI (by rw [(sp_0 (by assumption) (by omega) (by omega) (by assumption) (by first | assumption | exact ⟨by omega, by assumption⟩) (by assumption) (by assumption) : srC ns ps s fl ds mg = 0 ∧ _).2, show ns.length = j by omega])) (fTup1 (fI (by rw [(sp_0 (by assumption) (by omega) (by omega) (by assumption) (by first | assumption | exact ⟨by omega, by assumption⟩) (by assumption) (by assumption) : srC ns ps s fl ds mg = 0 ∧ _).1])) rfl)
      · first | replace hb9 := dT hb9 | skip
        refine ev_q rfl (q_not rfl rfl ?_)
        refine ev_q rfl (q_pickF rfl (by conv=>lhs;whnf) ?_)
        refine ea rfl (by conv=>lhs;whnf) ?_
        refine ev_nil (hK6 _ ?_); clear hK6
        refine good_condF rfl ?_
        refine good_seq fun K11 hK11 => ?_
        refine gr rfl ?_
        refine ev_q rfl (q_loadA tA31 rfl rfl rfl ?_)
        refine em rfl (by conv=>lhs;whnf) ?_
        refine ev_q rfl (q_callB rfl rfl (rfl) (D_impl_Network_flowsOk ns ps fl hn hp hz hf) ?_)
        intro b12 hb12; cases b12
        · first | replace hb12 := dF hb12 | skip
          have hse := sp_7 (s := s) (fl := fl) (ds := ds) (mg := mg) (by assumption) (by omega) (by omega) (fun h => by first | exact absurd h.1 (by assumption) | exact absurd h.2 (by assumption) | (have := h.2.1; omega) | exact absurd h.2.2 (by assumption))
          refine ev_q rfl (q_not rfl rfl ?_)
          refine em rfl (by conv=>lhs;whnf) ?_
          refine ev_skip rfl ?_
          refine ev_skip rfl ?_
          refine ev_skip rfl ?_
          refine ev_skip rfl ?_
          refine ev_skip rfl ?_
          refine ev_skip rfl ?_
          refine ev_q rfl (q_pickT rfl (by conv=>lhs;whnf) ?_)
          refine em rfl (by conv=>lhs;whnf) ?_
          refine ev_skip rfl ?_
          refine ev_skip rfl ?_
          refine ev_skip rfl ?_
          refine ev_q rfl (q_pickT rfl (by conv=>lhs;whnf) ?_)
          refine ea rfl (by conv=>lhs;whnf) ?_
          refine ev_nil (hK11 _ ?_); clear hK11
          refine good_condT rfl ?_
          refine good_seq fun K13 hK13 => ?_
          refine gr rfl ?_
          refine ea rfl (by conv=>lhs;whnf) ?_
          refine ea rfl (by conv=>lhs;whnf) ?_
          refine ev_nil (hK13 _ ?_); clear hK13
          refine good_ret ?_
          repeat first|refine thenQ_ret ?_|refine blockQ_ret ?_
          refine ret_many rfl ?_
          refine res_tmp (by conv=>lhs;whnf) rfl ?_
          refine res_tmp (by conv=>lhs;whnf) rfl ?_
          refine res_nil ?_
          clear hK2
          first | exact fTup1 (fI (by omega)) (fTup1 (fI (by omega)) rfl) | exact fTup1 (fI (by rw [(sp_0 (by assumption) (by omega) (by omega) (by assumption) (by first | assumption | exact ⟨by omega, by assumption⟩) (by assumption) (by assumption) : srC ns ps s fl ds mg = 0 ∧ _).2, show ns.length = j by omega])) (fTup1 (fI (by rw [(sp_0 (by assumption) (by omega) (by omega) (by assumption) (by first | assumption | exact ⟨by omega, by assumption⟩) (by assumption) (by assumption) : srC ns ps s fl ds mg = 0 ∧ _).1])) rfl)
        · first | replace hb12 := dT hb12 | skip
          refine ev_q rfl (q_not rfl rfl ?_)
          refine em rfl (by conv=>lhs;whnf) ?_
          refine em rfl (by conv=>lhs;whnf) ?_
          refine ev_q rfl (q_len tEs22 rfl ?_)
          intro n14 hn14
          try simp only [List.length_map] at hn14
          refine ev_q rfl (q_fieldAddrP fO31_0 rfl rfl ?_)
          refine ev_q rfl (q_load tA22 rfl ?_)
          refine ev_q rfl (q_len tEs22 rfl ?_)
          intro n15 hn15
          try simp only [List.length_map] at hn15
          refine ei rfl rfl rfl ?_
          intro b16 hb16; cases b16
          · replace hb16 := neF hb16
            refine ev_q rfl (q_pickF rfl (by conv=>lhs;whnf) ?_)
            refine em rfl (by conv=>lhs;whnf) ?_
            refine em rfl (by conv=>lhs;whnf) ?_
            refine ev_q rfl (q_callB rfl rfl (rfl) (D_impl_allWithin ds _ _ hd) ?_)
            intro b17 hb17; cases b17
            · first | replace hb17 := dF hb17 | skip
              have hse := sp_7 (s := s) (fl := fl) (ds := ds) (mg := mg) (by assumption) (by omega) (by omega) (fun h => by first | exact absurd h.1 (by assumption) | exact absurd h.2 (by assumption) | (have := h.2.1; omega) | exact absurd h.2.2 (by assumption))
              refine ev_q rfl (q_not rfl rfl ?_)
              refine ev_q rfl (q_pickF rfl (by conv=>lhs;whnf) ?_)
              refine ea rfl (by conv=>lhs;whnf) ?_
              refine ev_nil (hK11 _ ?_); clear hK11
              refine good_condT rfl ?_
              refine good_seq fun K18 hK18 => ?_
              refine gr rfl ?_
              refine ea rfl (by conv=>lhs;whnf) ?_
              refine ea rfl (by conv=>lhs;whnf) ?_
              refine ev_nil (hK18 _ ?_); clear hK18
              refine good_ret ?_
              repeat first|refine thenQ_ret ?_|refine blockQ_ret ?_
              refine ret_many rfl ?_
              refine res_tmp (by conv=>lhs;whnf) rfl ?_
              refine res_tmp (by conv=>lhs;whnf) rfl ?_
              refine res_nil ?_
              clear hK2
              first | exact fTup1 (fI (by omega)) (fTup1 (fI (by omega)) rfl) | exact fTup1 (fI (by rw [(sp_0 (by assumption) (by omega) (by omega) (by assumption) (by first | assumption | exact ⟨by omega, by assumption⟩) (by assumption) (by assumption) : srC ns ps s fl ds mg = 0 ∧ _).2, show ns.length = j by omega])) (fTup1 (fI (by rw [(sp_0 (by assumption) (by omega) (by omega) (by assumption) (by first | assumption | exact ⟨by omega, by assumption⟩) (by assumption) (by assumption) : srC ns ps s fl ds mg = 0 ∧ _).1])) rfl)
            · first | replace hb17 := dT hb17 | skip
              refine ev_q rfl (q_not rfl rfl ?_)
              refine ev_q rfl (q_pickF rfl (by conv=>lhs;whnf) ?_)
              refine ea rfl (by conv=>lhs;whnf) ?_
              refine ev_nil (hK11 _ ?_); clear hK11
              refine good_condF rfl ?_
              refine good_seq fun K19 hK19 => ?_
              refine gr rfl ?_
              refine ev_q rfl (q_loadA tA31 rfl rfl rfl ?_)
              refine ev_q rfl (q_callB rfl rfl (rfl) (D_impl_Network_isTree ns ps hn hp hz (by assumption)) ?_)
              intro b20 hb20; cases b20
              · first | replace hb20 := dF hb20 | skip
                have hse := sp_6 (s := s) (fl := fl) (ds := ds) (mg := mg) (by assumption) (by omega) (by omega) (by assumption) (by first | assumption | exact ⟨by omega, by assumption⟩) (by assumption)
                refine ev_q rfl (q_not rfl rfl ?_)
                refine ea rfl (by conv=>lhs;whnf) ?_
                refine ev_nil (hK19 _ ?_); clear hK19
                refine good_condT rfl ?_
                refine good_seq fun K21 hK21 => ?_
                refine gr rfl ?_
                refine ea rfl (by conv=>lhs;whnf) ?_
                refine ea rfl (by conv=>lhs;whnf) ?_
                refine ev_nil (hK21 _ ?_); clear hK21
                refine good_ret ?_
                repeat first|refine thenQ_ret ?_|refine blockQ_ret ?_
                refine ret_many rfl ?_
                refine res_tmp (by conv=>lhs;whnf) rfl ?_
                refine res_tmp (by conv=>lhs;whnf) rfl ?_
                refine res_nil ?_
                clear hK2
                first | exact fTup1 (fI (by omega)) (fTup1 (fI (by omega)) rfl) | exact fTup1 (fI (by rw [(sp_0 (by assumption) (by omega) (by omega) (by assumption) (by first | assumption | exact ⟨by omega, by assumption⟩) (by assumption) (by assumption) : srC ns ps s fl ds mg = 0 ∧ _).2, show ns.length = j by omega])) (fTup1 (fI (by rw [(sp_0 (by assumption) (by omega) (by omega) (by assumption) (by first | assumption | exact ⟨by omega, by assumption⟩) (by assumption) (by assumption) : srC ns ps s fl ds mg = 0 ∧ _).1])) rfl)
              · first | replace hb20 := dT hb20 | skip
                refine ev_q rfl (q_not rfl rfl ?_)
                refine ea rfl (by conv=>lhs;whnf) ?_
                refine ev_nil (hK19 _ ?_); clear hK19
                refine good_condF rfl ?_
                refine good_seq fun K22 hK22 => ?_
                refine gr rfl ?_
                refine ev_q rfl (q_loadA tA31 rfl rfl rfl ?_)
                refine em rfl (by conv=>lhs;whnf) ?_
                refine ev_q rfl (q_callB rfl rfl (rfl) (D_impl_Network_dropsOk ns ps fl hn hp hz hf (by assumption) (by assumption)) ?_)
                intro b23 hb23; cases b23
                · first | replace hb23 := dF hb23 | skip
                  have hse := sp_5 (s := s) (fl := fl) (ds := ds) (mg := mg) (by assumption) (by omega) (by omega) (by assumption) (by first | assumption | exact ⟨by omega, by assumption⟩) (by assumption) (by assumption)
                  refine ev_q rfl (q_not rfl rfl ?_)
                  refine ea rfl (by conv=>lhs;whnf) ?_
                  refine ev_nil (hK22 _ ?_); clear hK22
                  refine good_condT rfl ?_
                  refine good_seq fun K24 hK24 => ?_
                  refine gr rfl ?_
                  refine ea rfl (by conv=>lhs;whnf) ?_
                  refine ea rfl (by conv=>lhs;whnf) ?_
                  refine ev_nil (hK24 _ ?_); clear hK24
                  refine good_ret ?_
                  repeat first|refine thenQ_ret ?_|refine blockQ_ret ?_
                  refine ret_many rfl ?_
                  refine res_tmp (by conv=>lhs;whnf) rfl ?_
                  refine res_tmp (by conv=>lhs;whnf) rfl ?_
                  refine res_nil ?_
                  clear hK2
                  first | exact fTup1 (fI (by omega)) (fTup1 (fI (by omega)) rfl) | exact fTup1 (fI (by rw [(sp_0 (by assumption) (by omega) (by omega) (by assumption) (by first | assumption | exact ⟨by omega, by assumption⟩) (by assumption) (by assumption) : srC ns ps s fl ds mg = 0 ∧ _).2, show ns.length = j by omega])) (fTup1 (fI (by rw [(sp_0 (by assumption) (by omega) (by omega) (by assumption) (by first | assumption | exact ⟨by omega, by assumption⟩) (by assumption) (by assumption) : srC ns ps s fl ds mg = 0 ∧ _).1])) rfl)
                · first | replace hb23 := dT hb23 | skip
                  refine ev_q rfl (q_not rfl rfl ?_)
                  refine ea rfl (by conv=>lhs;whnf) ?_
                  refine ev_nil (hK22 _ ?_); clear hK22
                  refine good_condF rfl ?_
                  refine good_skip (hK2 _ ?_); clear hK2
                  refine good_seq fun K25 hK25 => ?_
                  refine gr rfl ?_
                  refine ea rfl (by conv=>lhs;whnf) ?_
                  refine ev_nil (hK25 _ ?_); clear hK25
                  refine good_seq fun K26 hK26 => ?_
                  refine good_seq fun K27 hK27 => ?_
                  refine gr rfl ?_
                  have hnk : netOk ns ps := by assumption
                  have hsrc : 0 ≤ s ∧ s < ns.length := by omega
                  have hflp : flP ps fl := by assumption
                  have htr : treeP ns ps := by assumption
                  have hdg : dgP ns ds := by first | assumption | exact ⟨by omega, by assumption⟩
                  refine ev_q rfl (q_loadA tA31 rfl rfl rfl ?_)
                  refine em rfl (by conv=>lhs;whnf) ?_
                  refine em rfl (by conv=>lhs;whnf) ?_
                  refine ev_k rfl (k_callX [(900003, 900003)] (D_impl_Network_pressures ns ps s fl 0 hn hp hz hf hnk hsrc hflp (by omega)) rfl (rfl) (rfl) trivial ⟨⟨rfl, show (900003 : Nat) < 1000000 by decide⟩, trivial⟩ rfl rfl rfl ?_)
                  refine ev_q rfl (q_len tEs22 rfl ?_)
                  intro n28 hn28
                  try simp only [List.length_map] at hn28
                  refine em rfl (by conv=>lhs;whnf) ?_
                  refine ev_nil (hK27 _ ?_); clear hK27
                  refine good_block ?_
                  refine good_loop (α := Nat) (fun j => { env := upd (upd (upd (upd (upd (upd ((fun _ => .junk)) 3 (.lst 1 (ds.map ci))) 4 (.s (.int .i64 mg))) 12 (.s (.int .i64 (spM (spRow ns ps s fl) ds mg j)))) 59 (.own 900003 ns.length)) 60 (.s (.int .i64 ((ns.length : Int))))) 61 (.s (.int .i64 ((j : Int)))), H := upd ((fun _ => none)) 900003 (some (.row 2 1 ((spRow ns ps s fl).map ci))) }) (fun j => j ≤ ns.length) (fun j => ns.length - j) 0 ?_ ?_ ?_
                  · exact Nat.zero_le _
                  · refine sub_weak ?_ ?_
                    · exact weakH_row (rowEq (rfl)) (weakH_none _)
                    · refine weakE_upd ?e61 ?r61 (weakE_upd ?e60 ?r60 (weakE_upd ?e59 ?r59 (weakE_upd ?e12 ?r12 (weakE_upd ?e4 ?r4 (weakE_upd ?e3 ?r3 (weakE_junk _ _))))))
                      case e3 => first | rfl | exact fI (by omega) | (simp_all)
                      case r3 => intro h hh; cases hh
                      case e4 => first | rfl | exact fI (by omega) | (simp_all)
                      case r4 => intro h hh; cases hh
                      case e12 => first | rfl | exact fI (by omega) | (first | rfl | exact fI (by assumption) | exact fI (by omega))
                      case r12 => intro h hh; cases hh
                      case e59 => first | rfl | exact fI (by omega) | (simp_all)
                      case r59 => intro h hh; simp [refs] at hh; subst hh; rfl
                      case e60 => first | rfl | exact fI (by omega) | (simp_all)
                      case r60 => intro h hh; cases hh
                      case e61 => first | rfl | exact fI (by omega) | (simp_all)
                      case r61 => intro h hh; cases hh
                  · rintro j hI
                    refine good_seq fun K29 hK29 => ?_
                    refine gr rfl ?_
                    refine ei rfl rfl rfl ?_
                    intro b30 hb30; cases b30
                    · replace hb30 := dF hb30
                      refine ev_nil (hK29 _ ?_); clear hK29
                      refine good_seq fun K31 hK31 => ?_
                      refine good_condF rfl ?_
                      refine good_exit ?_
                      repeat first|refine thenQ_exit ?_|refine blockQ_pass rfl ?_
                      refine blockQ_exit (hK26 _ ?_); clear hK26
                      refine good_seq fun K32 hK32 => ?_
                      refine gr rfl ?_
                      refine em rfl (by conv=>lhs;whnf) ?_
                      refine ea rfl (by conv=>lhs;whnf) ?_
                      refine ea rfl (by conv=>lhs;whnf) ?_
                      refine ev_nil (hK32 _ ?_); clear hK32
                      refine good_ret ?_
                      repeat first|refine thenQ_ret ?_|refine blockQ_ret ?_
                      refine ret_many rfl ?_
                      refine res_tmp (by conv=>lhs;whnf) rfl ?_
                      refine res_tmp (by conv=>lhs;whnf) rfl ?_
                      refine res_nil ?_
                      clear hK31
                      first | exact fTup1 (fI (by omega)) (fTup1 (fI (by omega)) rfl) | exact fTup1 (fI (by rw [(sp_0 (by assumption) (by omega) (by omega) (by assumption) (by first | assumption | exact ⟨by omega, by assumption⟩) (by assumption) (by assumption) : srC ns ps s fl ds mg = 0 ∧ _).2, show ns.length = j by omega])) (fTup1 (fI (by rw [(sp_0 (by assumption) (by omega) (by omega) (by assumption) (by first | assumption | exact ⟨by omega, by assumption⟩) (by assumption) (by assumption) : srC ns ps s fl ds mg = 0 ∧ _).1])) rfl)
                    · replace hb30 := dT hb30
                      have hrb := spRow_bd (fl := fl) hnk hsrc hflp j
                      have hrl := spRow_len (ns := ns) (ps := ps) (s := s) (fl := fl)
                      have hsb := stm_bd (ds.getD j 0)
                      have hmb := spM_bd (ds := ds) (mg := mg) (by omega) (spRow_bd (fl := fl) hnk hsrc hflp) j
                      have hms := spM_s (xs := (spRow ns ps s fl)) (ds := ds) (mg := mg) (n := j)
                      have hdj := dgG hdg.2 j
                      refine ev_nil (hK29 _ ?_); clear hK29
                      refine good_seq fun K33 hK33 => ?_
                      refine good_condT rfl ?_
                      refine good_skip (hK33 _ ?_); clear hK33
                      refine good_seq fun K34 hK34 => ?_
                      refine good_block ?_
                      refine good_seq fun K35 hK35 => ?_
                      refine gr rfl ?_
                      refine em rfl (by conv=>lhs;whnf) ?_
                      refine ev_q rfl (q_idxO tE22 rfl rfl rfl (by exact Int.natCast_nonneg _) (by omega) rfl ?_)
                      refine ev_q rfl (q_loadE tA2 rfl rfl (by exact getG (t := (spRow ns ps s fl)) (v := j) (by omega)) rfl ?_)
                      refine ea rfl (by conv=>lhs;whnf) ?_
                      refine ea rfl (by conv=>lhs;whnf) ?_
                      refine ev_nil (hK35 _ ?_); clear hK35
                      refine gr rfl ?_
                      refine em rfl (by conv=>lhs;whnf) ?_
                      refine em rfl (by conv=>lhs;whnf) ?_
                      refine em rfl (by conv=>lhs;whnf) ?_
                      refine ev_q rfl (q_idx tE22 rfl rfl (by exact Int.natCast_nonneg _) (by exact getG (t := ds) (v := j) (by have := hdg.1; omega)) rfl ?_)
                      refine ev_q rfl (q_load tA2 rfl ?_)
                      refine ev_q rfl (q_callI rfl rfl (rfl) (D_impl_steamPressure _) ?_)
                      intro n36 hn36
                      refine em rfl (by conv=>lhs;whnf) ?_
                      refine ei rfl rfl rfl ?_
                      intro n37 hn37
                      replace hn37 := in64 hn37 (by omega) (by omega)
                      refine em rfl (by conv=>lhs;whnf) ?_
                      refine ei rfl rfl rfl ?_
                      intro n38 hn38
                      replace hn38 := in64 hn38 (by omega) (by omega)
                      refine ev_q rfl (q_max rfl rfl ?_)
                      intro n39 hn39; simp only [mxI, mnI] at hn39
                      have hmx : n39 = spM (spRow ns ps s fl) ds mg (j + 1) := by (rw [hms]; first | grind | (split at hn39 <;> split <;> omega))
                      refine ea rfl (by conv=>lhs;whnf) ?_
                      refine ev_nil (hK34 _ ?_); clear hK34
                      refine gr rfl ?_
                      refine ei rfl rfl rfl ?_
                      intro n40 hn40
                      replace hn40 := in64 hn40 (by omega) (by omega)
                      refine em rfl (by conv=>lhs;whnf) ?_
                      refine ev_nil ?_
                      clear hK26
                      refine ⟨j + 1, ?_, ?_, ?_⟩
                      · show _ ≤ _; omega
                      · first | omega | (simp only []; omega) | (dsimp only; omega)
                      · refine sub_weak ?_ ?_
                        · exact weakH_row (rowEq (rfl)) (weakH_none _)
                        · refine weakE_upd ?e61 ?r61 (weakE_upd ?e60 ?r60 (weakE_upd ?e59 ?r59 (weakE_upd ?e12 ?r12 (weakE_upd ?e4 ?r4 (weakE_upd ?e3 ?r3 (weakE_junk _ _))))))
                          case e3 => first | rfl | exact fI (by omega) | (simp_all)
                          case r3 => intro h hh; cases hh
                          case e4 => first | rfl | exact fI (by omega) | (simp_all)
                          case r4 => intro h hh; cases hh
                          case e12 => first | rfl | exact fI (by omega) | (first | rfl | exact fI (by assumption) | exact fI (by omega))
                          case r12 => intro h hh; cases hh
                          case e59 => first | rfl | exact fI (by omega) | (simp_all)
                          case r59 => intro h hh; simp [refs] at hh; subst hh; rfl
                          case e60 => first | rfl | exact fI (by omega) | (simp_all)
                          case r60 => intro h hh; cases hh
                          case e61 => first | rfl | exact fI (by omega) | (simp_all)
                          case r61 => intro h hh; cases hh
          · replace hb16 := neT hb16
            have hse := sp_7 (s := s) (fl := fl) (ds := ds) (mg := mg) (by assumption) (by omega) (by omega) (fun h => by first | exact absurd h.1 (by assumption) | exact absurd h.2 (by assumption) | (have := h.2.1; omega) | exact absurd h.2.2 (by assumption))
            refine ev_q rfl (q_pickF rfl (by conv=>lhs;whnf) ?_)
            refine em rfl (by conv=>lhs;whnf) ?_
            refine ev_skip rfl ?_
            refine ev_skip rfl ?_
            refine ev_skip rfl ?_
            refine ev_q rfl (q_pickT rfl (by conv=>lhs;whnf) ?_)
            refine ea rfl (by conv=>lhs;whnf) ?_
            refine ev_nil (hK11 _ ?_); clear hK11
            refine good_condT rfl ?_
            refine good_seq fun K41 hK41 => ?_
            refine gr rfl ?_
            refine ea rfl (by conv=>lhs;whnf) ?_
            refine ea rfl (by conv=>lhs;whnf) ?_
            refine ev_nil (hK41 _ ?_); clear hK41
            refine good_ret ?_
            repeat first|refine thenQ_ret ?_|refine blockQ_ret ?_
            refine ret_many rfl ?_
            refine res_tmp (by conv=>lhs;whnf) rfl ?_
            refine res_tmp (by conv=>lhs;whnf) rfl ?_
            refine res_nil ?_
            clear hK2
            first | exact fTup1 (fI (by omega)) (fTup1 (fI (by omega)) rfl) | exact fTup1 (fI (by rw [(sp_0 (by assumption) (by omega) (by omega) (by assumption) (by first | assumption | exact ⟨by omega, by assumption⟩) (by assumption) (by assumption) : srC ns ps s fl ds mg = 0 ∧ _).2, show ns.length = j by omega])) (fTup1 (fI (by rw [(sp_0 (by assumption) (by omega) (by omega) (by assumption) (by first | assumption | exact ⟨by omega, by assumption⟩) (by assumption) (by assumption) : srC ns ps s fl ds mg = 0 ∧ _).1])) rfl)

end Go.Proofs.YtkgnbjgnddfojaaGreat.DFnBoiling
