/- Walks through the functions that FnBoiling reaches: what each answers. -/
import Derived.Test.YtkgnbjgnddfojaaGreatDFnBoilingb
set_option linter.unusedVariables false
set_option linter.unusedSimpArgs false
set_option maxRecDepth 20000
set_option maxHeartbeats 2000000
namespace Go.Proofs.YtkgnbjgnddfojaaGreat.DFnBoiling
open Go Go.RowKit Go.Proofs Go.Proofs.YtkgnbjgnddfojaaGreat Go.Proofs.YtkgnbjgnddfojaaGreat.Ev
-- spec.l07Order
theorem D_spec_l07Order (ns : List Int) (ps : List Pi) (s : Int) (hn : ns.length ≤ 17592186044416) (hp : ps.length ≤ 2513169434843) (hz : idSz ps) (ok : netOk ns ps) (hs : 0 ≤ s ∧ s < ns.length) : DenX Tryz.prog 71 [] [.rp [.lst 1 (ns.map ci), .lst 6 (ps.map piA)], .s (.int .i64 s)] [(900001, .row 2 1 ((toI (waysF (ps.map pe) ns.length s.toNat).1).map ci)), (900002, .row 2 1 ((byL (ps.map pe) (waysF (ps.map pe) ns.length s.toNat).2 ns.length).map ci))] (.tup [.own 900001 (toI (waysF (ps.map pe) ns.length s.toNat).1).length, .own 900002 ns.length]) := by
  have h16 := ok.1.1
  have h20 := ok.1.2.2
  have hlt := esF_lt ok
  refine denX_of_good Tryz.func71 (by decide) rfl (Nat.le_of_ble_eq_true rfl) (Nat.le_of_ble_eq_true rfl) rfl ?_
  refine good_seq fun K1 hK1 => ?_
  refine gr rfl ?_
  refine ea rfl (by conv=>lhs;whnf) ?_
  refine ea rfl (by conv=>lhs;whnf) ?_
  refine ev_nil (hK1 _ ?_); clear hK1
  refine good_seq fun K2 hK2 => ?_
  refine gr rfl ?_
  refine em rfl (by conv=>lhs;whnf) ?_
  refine ev_k rfl (k_lit tE22 zA2 rfl rfl (by decide) (by decide) rfl rfl rfl ?_)
  refine ea rfl (by conv=>lhs;whnf) ?_
  refine ev_nil (hK2 _ ?_); clear hK2
  refine good_seq fun K3 hK3 => ?_
  refine gr rfl ?_
  refine em rfl (by conv=>lhs;whnf) ?_
  refine ev_q rfl (q_nilCheck (by conv=>lhs;whnf) rfl ?_)
  refine ev_q rfl (q_fieldAddr fO31_0 rfl rfl ?_)
  refine ev_q rfl (q_load tA22 rfl ?_)
  refine ev_q rfl (q_len tEs22 rfl ?_)
  intro n4 hn4
  try simp only [List.length_map] at hn4
  refine ev_k rfl (k_make tE22 rfl rfl zA2 tBy2 rfl (by omega) (by omega) (by omega) rfl (by show _ = ns.length; omega) ?_)
  refine ea rfl (by conv=>lhs;whnf) ?_
  refine ev_nil (hK3 _ ?_); clear hK3
  refine good_seq fun K5 hK5 => ?_
  refine gr rfl ?_
  refine em rfl (by conv=>lhs;whnf) ?_
  refine ev_q rfl (q_nilCheck (by conv=>lhs;whnf) rfl ?_)
  refine ev_q rfl (q_fieldAddr fO31_0 rfl rfl ?_)
  refine ev_q rfl (q_load tA22 rfl ?_)
  refine ev_q rfl (q_len tEs22 rfl ?_)
  intro n6 hn6
  try simp only [List.length_map] at hn6
  refine ev_k rfl (k_make tE115 rfl rfl zA4 tBy4 rfl (by omega) (by omega) (by omega) rfl (by show _ = ns.length; omega) ?_)
  refine ea rfl (by conv=>lhs;whnf) ?_
  refine ev_nil (hK5 _ ?_); clear hK5
  refine good_seq fun K7 hK7 => ?_
  refine gr rfl ?_
  refine em rfl (by conv=>lhs;whnf) ?_
  refine em rfl (by conv=>lhs;whnf) ?_
  refine ev_q rfl (q_idxO tE115 rfl rfl rfl (by first | exact Int.natCast_nonneg _ | omega) (by first | omega | (rw [toI_len]; have := congrArg List.length ht; rw [List.length_append] at this; omega) | (have := congrArg List.length ht; rw [List.length_append] at this; simp [toI_len]; omega)) rfl ?_)
  refine ev_k rfl (k_storeE sz4 rfl (by conv=>lhs;whnf) rfl rfl rfl (Nat.le_of_ble_eq_true rfl) rfl (by exact repG (by omega)) (Nat.le_of_ble_eq_true rfl) rfl ?_)
  refine ev_nil (hK7 _ ?_); clear hK7
  refine good_seq fun K8 hK8 => ?_
  refine good_seq fun K9 hK9 => ?_
  refine gr rfl ?_
  refine ea rfl (by conv=>lhs;whnf) ?_
  refine ev_nil (hK9 _ ?_); clear hK9
  refine good_block ?_
  refine good_loop (α := Nat × (List Nat × List (Nat × Nat × Nat))) (fun (k, y) => { env := upd (upd (upd (upd (upd ((fun _ => .junk)) 0 (.rp [.lst 1 (ns.map ci), .lst 6 (ps.map piA)])) 6 (.own 89 (toI y.1).length)) 7 (.own 19 ns.length)) 8 (.own 25 ns.length)) 9 (.s (.int .i64 ((k : Int)))), H := upd (upd (upd ((fun _ => none)) 25 (some (.row 4 1 (seR y.1 ns.length)))) 19 (some (.row 2 1 ((byL (ps.map pe) y.2 ns.length).map ci)))) 89 (some (.row 2 1 ((toI y.1).map ci))) }) (fun (k, y) => k ≤ y.1.length ∧ (Inv (ps.map pe) ns.length s.toNat y.1 ∧ WInv (ps.map pe) s.toNat y) ∧ wyO (ps.map pe) (ns.length - k) k y = (waysF (ps.map pe) ns.length s.toNat)) (fun (k, y) => ns.length - k) (0, ([s.toNat], [])) ?_ ?_ ?_
  · exact ⟨by simp, ⟨⟨by simp, fun v hv => by have e : v = s.toNat := (by simpa using hv); rw [e]; omega, fun v hv => by have e : v = s.toNat := (by simpa using hv); rw [e]; exact .rfl _, by simp⟩, ⟨rfl, fun w hw => by cases hw⟩⟩, rfl⟩
  · first | refine Sub.trans (sub_move 6 13 89 rfl rfl rfl (by decide)) ?_ | skip
    refine sub_weak ?_ ?_
    · exact weakH_row (rowEq (by show [ci s] = [ci ((s.toNat : Nat) : Int)]; rw [Int.toNat_of_nonneg hs.1])) (weakH_row (rowEq (by first | (rw [byL_0]; exact repI))) (weakH_row (rowEq (by first | exact (congrArg (fun l => List.set l s.toNat (.s (.bool true))) seR_0).trans (seR_set (ks := []) (n := ns.length) (v := s.toNat) (by omega)))) (weakH_none _)))
    · refine weakE_upd ?e9 ?r9 (weakE_upd ?e8 ?r8 (weakE_upd ?e7 ?r7 (weakE_upd ?e6 ?r6 (weakE_upd ?e0 ?r0 (weakE_junk _ _)))))
      case e0 => first | rfl | exact fI (by omega) | (simp_all)
      case r0 => intro h hh; cases hh
      case e6 => first | rfl | exact fI (by omega) | (simp_all)
      case r6 => intro h hh; simp [refs] at hh; subst hh; rfl
      case e7 => first | rfl | exact fI (by omega) | (simp_all)
      case r7 => intro h hh; simp [refs] at hh; subst hh; rfl
      case e8 => first | rfl | exact fI (by omega) | (simp_all)
      case r8 => intro h hh; simp [refs] at hh; subst hh; rfl
      case e9 => first | rfl | exact fI (by omega) | (simp_all)
      case r9 => intro h hh; cases hh
  · rintro ⟨k, y⟩ ⟨hK, hV, hF⟩
    refine good_seq fun K10 hK10 => ?_
    refine good_seq fun K11 hK11 => ?_
    refine gr rfl ?_
    refine em rfl (by conv=>lhs;whnf) ?_
    refine em rfl (by conv=>lhs;whnf) ?_
    refine ev_q rfl (q_len tEs22 rfl ?_)
    intro n12 hn12
    try simp only [List.length_map] at hn12
    refine ei rfl rfl rfl ?_
    intro b13 hb13; cases b13
    · replace hb13 := dF hb13
      have hkl : y.1.length ≤ k := by rw [toI_len] at *; omega
      have hln := len_le y.1 hV.1.nd hV.1.lt
      refine ev_nil (hK11 _ ?_); clear hK11
      refine good_condF rfl ?_
      refine good_exit ?_
      repeat first|refine thenQ_exit ?_|refine blockQ_pass rfl ?_
      refine blockQ_exit (hK8 _ ?_); clear hK8
      refine good_seq fun K14 hK14 => ?_
      refine gr rfl ?_
      refine em rfl (by conv=>lhs;whnf) ?_
      refine em rfl (by conv=>lhs;whnf) ?_
      refine ea rfl (by conv=>lhs;whnf) ?_
      refine ea rfl (by conv=>lhs;whnf) ?_
      refine ev_nil (hK14 _ ?_); clear hK14
      refine good_weak (sub_move 4 89 900001 rfl rfl rfl (by decide)) ?_
      refine good_weak (sub_move 5 19 900002 rfl rfl rfl (by decide)) ?_
      refine good_ret ?_
      repeat first|refine thenQ_ret ?_|refine blockQ_ret ?_
      refine fx_many rfl ?_
      refine fxs_tmp (by conv=>lhs;whnf) ?_
      refine fxs_tmp (by conv=>lhs;whnf) ?_
      refine fx_nil ?_
      clear hK10
      have e : (waysF (ps.map pe) ns.length s.toNat) = y := by rw [← hF]; exact wyO_e hkl
      exact ⟨_, .tup (.cons (conv_eq (by first | rfl | (rw [e]; done) | (rw [e]; rfl) | exact ownEq (by first | omega | simp_all))) (.cons (conv_eq (by first | rfl | (rw [e]; done) | (rw [e]; rfl) | exact ownEq (by first | omega | simp_all))) (.nil))), weakH_row (rowEq (by first | (rw [e]; done) | (rw [e]; rfl))) (weakH_row (rowEq (by first | (rw [e]; done) | (rw [e]; rfl))) (weakH_none _)), refsIn_ok rfl⟩
    · replace hb13 := dT hb13
      have hkl : k < y.1.length := by rw [toI_len] at *; omega
      obtain ⟨u, hu⟩ : ∃ u, y.1[k]? = some u := ⟨_, List.getElem?_eq_getElem hkl⟩
      have hln := len_le y.1 hV.1.nd hV.1.lt
      refine ev_nil (hK11 _ ?_); clear hK11
      refine good_condT rfl ?_
      refine good_skip (hK10 _ ?_); clear hK10
      refine good_seq fun K15 hK15 => ?_
      refine good_block ?_
      refine good_seq fun K16 hK16 => ?_
      refine gr rfl ?_
      refine ea rfl (by conv=>lhs;whnf) ?_
      refine ev_nil (hK16 _ ?_); clear hK16
      refine good_block ?_
      refine good_loop (α := Nat × (List Nat × List (Nat × Nat × Nat))) (fun (i, z) => { env := upd (upd (upd (upd (upd (upd ((fun _ => .junk)) 0 (.rp [.lst 1 (ns.map ci), .lst 6 (ps.map piA)])) 6 (.own 89 (toI z.1).length)) 7 (.own 19 ns.length)) 8 (.own 25 ns.length)) 9 (.s (.int .i64 ((k : Int))))) 10 (.s (.int .i64 ((i : Int)))), H := upd (upd (upd ((fun _ => none)) 25 (some (.row 4 1 (seR z.1 ns.length)))) 19 (some (.row 2 1 ((byL (ps.map pe) z.2 ns.length).map ci)))) 89 (some (.row 2 1 ((toI z.1).map ci))) }) (fun (i, z) => i ≤ ps.length ∧ (Inv (ps.map pe) ns.length s.toNat z.1 ∧ WInv (ps.map pe) s.toNat z) ∧ (∃ t, z.1 = y.1 ++ t) ∧ wyI u ((ps.map pe).drop i) i z = wyI u (ps.map pe) 0 y) (fun (i, z) => ps.length - i) (0, y) ?_ ?_ ?_
      · exact ⟨Nat.zero_le _, hV, ⟨[], by simp⟩, rfl⟩
      · refine sub_weak ?_ ?_
        · exact weakH_row (rowEq (rfl)) (weakH_row (rowEq (rfl)) (weakH_row (rowEq (rfl)) (weakH_none _)))
        · refine weakE_upd ?e10 ?r10 (weakE_upd ?e9 ?r9 (weakE_upd ?e8 ?r8 (weakE_upd ?e7 ?r7 (weakE_upd ?e6 ?r6 (weakE_upd ?e0 ?r0 (weakE_junk _ _))))))
          case e0 => first | rfl | exact fI (by omega) | (simp_all)
          case r0 => intro h hh; cases hh
          case e6 => first | rfl | exact fI (by omega) | (first | rfl | exact ownEq (by simp [toI_len]))
          case r6 => intro h hh; simp [refs] at hh; subst hh; rfl
          case e7 => first | rfl | exact fI (by omega) | (simp_all)
          case r7 => intro h hh; simp [refs] at hh; subst hh; rfl
          case e8 => first | rfl | exact fI (by omega) | (simp_all)
          case r8 => intro h hh; simp [refs] at hh; subst hh; rfl
          case e9 => first | rfl | exact fI (by omega) | (simp_all)
          case r9 => intro h hh; cases hh
          case e10 => first | rfl | exact fI (by omega) | (simp_all)
          case r10 => intro h hh; cases hh
      · rintro ⟨i, z⟩ ⟨hI, hW, hP, hB⟩
        refine good_seq fun K17 hK17 => ?_
        refine good_seq fun K18 hK18 => ?_
        refine gr rfl ?_
        refine em rfl (by conv=>lhs;whnf) ?_
        refine em rfl (by conv=>lhs;whnf) ?_
        refine ev_q rfl (q_nilCheck (by conv=>lhs;whnf) rfl ?_)
        refine ev_q rfl (q_fieldAddr fO31_1 rfl rfl ?_)
        refine ev_q rfl (q_load tA29 rfl ?_)
        refine ev_q rfl (q_len tEs29 rfl ?_)
        intro n19 hn19
        try simp only [List.length_map] at hn19
        refine ei rfl rfl rfl ?_
        intro b20 hb20; cases b20
        · replace hb20 := dF hb20
          refine ev_nil (hK18 _ ?_); clear hK18
          refine good_condF rfl ?_
          refine good_exit ?_
          repeat first|refine thenQ_exit ?_|refine blockQ_pass rfl ?_
          refine blockQ_exit (hK15 _ ?_); clear hK15
          refine gr rfl ?_
          refine em rfl (by conv=>lhs;whnf) ?_
          refine ei rfl rfl rfl ?_
          intro n21 hn21
          replace hn21 := in64 hn21 (by omega) (by omega)
          refine ea rfl (by conv=>lhs;whnf) ?_
          refine ev_nil ?_
          clear hK8 hK17
          refine ⟨(k + 1, z), ?_, ?_, ?_⟩
          · refine ⟨?_, hW, ?_⟩
            · obtain ⟨t, ht⟩ := hP
              have := congrArg List.length ht
              rw [List.length_append] at this
              show k + 1 ≤ z.1.length; omega
            · show wyO _ _ (k + 1) z = _
              rw [wyI_end (by omega)] at hB
              rw [← hF, wyO_s hu (by omega), hB]
          · first | omega | (dsimp only; omega)
          · refine sub_weak ?_ ?_
            · exact weakH_row (rowEq (rfl)) (weakH_row (rowEq (rfl)) (weakH_row (rowEq (rfl)) (weakH_none _)))
            · refine weakE_upd ?e9 ?r9 (weakE_upd ?e8 ?r8 (weakE_upd ?e7 ?r7 (weakE_upd ?e6 ?r6 (weakE_upd ?e0 ?r0 (weakE_junk _ _)))))
              case e0 => first | rfl | exact fI (by omega) | (simp_all)
              case r0 => intro h hh; cases hh
              case e6 => first | rfl | exact fI (by omega) | (simp_all)
              case r6 => intro h hh; simp [refs] at hh; subst hh; rfl
              case e7 => first | rfl | exact fI (by omega) | (simp_all)
              case r7 => intro h hh; simp [refs] at hh; subst hh; rfl
              case e8 => first | rfl | exact fI (by omega) | (simp_all)
              case r8 => intro h hh; simp [refs] at hh; subst hh; rfl
              case e9 => first | rfl | exact fI (by omega) | (simp_all)
              case r9 => intro h hh; cases hh
        · replace hb20 := dT hb20
          obtain ⟨p, hpp⟩ := getL (xs := ps) (n := (i : Int)) (by omega) (by omega)
          replace hpp : ps[i]? = some p := hpp
          have hpo := (ok.2 i p hpp).1
          have hp1 := hpo.1.2.1
          have hp2 := hpo.1.2.2.1
          have hp3 := hpo.1.2.2.2.1
          have hlv := len_le z.1 hW.1.nd hW.1.lt
          have hP0 := hP
          obtain ⟨t, ht⟩ := hP
          have hv : z.1[k]? = some u := by rw [ht, List.getElem?_append_left hkl]; exact hu
          have hbd := wyI_d (u := u) (y := z) hpp
          refine ev_nil (hK18 _ ?_); clear hK18
          refine good_condT rfl ?_
          refine good_skip (hK17 _ ?_); clear hK17
          refine good_seq fun K22 hK22 => ?_
          refine good_block ?_
          refine good_seq fun K23 hK23 => ?_
          refine gr rfl ?_
          refine em rfl (by conv=>lhs;whnf) ?_
          refine ev_q rfl (q_nilCheck (by conv=>lhs;whnf) rfl ?_)
          refine ev_q rfl (q_fieldAddr fO31_1 rfl rfl ?_)
          refine ev_q rfl (q_load tA29 rfl ?_)
          refine em rfl (by conv=>lhs;whnf) ?_
          refine ev_q rfl (q_idx tE29 rfl rfl (by first | exact Int.natCast_nonneg _ | omega) (by exact map_get hpp) rfl ?_)
          refine ea rfl (by conv=>lhs;whnf) ?_
          refine ev_nil (hK23 _ ?_); clear hK23
          refine good_seq fun K24 hK24 => ?_
          refine good_seq fun K25 hK25 => ?_
          refine good_draw 19 hmix (by kernel_rfl) rfl ?_
          refine qm rfl (by conv=>lhs;whnf) ?_
          refine qo_q rfl (q_nilCheck (by conv=>lhs;whnf) rfl ?_)
          refine qo_q rfl (q_fieldAddr fO95_1 rfl rfl ?_)
          refine qo_q rfl (q_load tA2 rfl ?_)
          refine qm rfl (by conv=>lhs;whnf) ?_
          refine qm rfl (by conv=>lhs;whnf) ?_
          refine qo_q rfl (q_idxO tE22 rfl rfl rfl (by first | exact Int.natCast_nonneg _ | omega) (by first | omega | (rw [toI_len]; have := congrArg List.length ht; rw [List.length_append] at this; omega) | (have := congrArg List.length ht; rw [List.length_append] at this; simp [toI_len]; omega)) rfl ?_)
          refine qo_q rfl (q_loadE tA2 rfl rfl (by exact toI_get hv) rfl ?_)
          refine qo_q rfl (q_int rfl rfl ?_)
          intro b26 hb26; cases b26
          · replace hb26 := eqF hb26
            refine qm rfl (by conv=>lhs;whnf) ?_
            refine qo_skip rfl ?_
            refine qo_skip rfl ?_
            refine qo_skip rfl ?_
            refine qo_skip rfl ?_
            refine qo_skip rfl ?_
            refine qo_skip rfl ?_
            refine qo_skip rfl ?_
            refine qo_skip rfl ?_
            refine qo_q rfl (q_pickF rfl (by conv=>lhs;whnf) ?_)
            refine qo_nil ?_
            refine ev_nil (hK25 _ ?_); clear hK25
            refine good_condF rfl ?_
            refine good_skip (hK24 _ ?_); clear hK24
            refine good_seq fun K27 hK27 => ?_
            refine good_draw 19 hmix (by kernel_rfl) rfl ?_
            refine qm rfl (by conv=>lhs;whnf) ?_
            refine qo_q rfl (q_nilCheck (by conv=>lhs;whnf) rfl ?_)
            refine qo_q rfl (q_fieldAddr fO95_2 rfl rfl ?_)
            refine qo_q rfl (q_load tA2 rfl ?_)
            refine qm rfl (by conv=>lhs;whnf) ?_
            refine qm rfl (by conv=>lhs;whnf) ?_
            refine qo_q rfl (q_idxO tE22 rfl rfl rfl (by first | exact Int.natCast_nonneg _ | omega) (by first | omega | (rw [toI_len]; have := congrArg List.length ht; rw [List.length_append] at this; omega) | (have := congrArg List.length ht; rw [List.length_append] at this; simp [toI_len]; omega)) rfl ?_)
            refine qo_q rfl (q_loadE tA2 rfl rfl (by first | exact toI_get hv | exact wk_get hv) rfl ?_)
            refine qo_q rfl (q_int rfl rfl ?_)
            intro b28 hb28; cases b28
            · replace hb28 := eqF hb28
              refine qm rfl (by conv=>lhs;whnf) ?_
              refine qo_skip rfl ?_
              refine qo_skip rfl ?_
              refine qo_skip rfl ?_
              refine qo_skip rfl ?_
              refine qo_skip rfl ?_
              refine qo_skip rfl ?_
              refine qo_skip rfl ?_
              refine qo_skip rfl ?_
              refine qo_q rfl (q_pickF rfl (by conv=>lhs;whnf) ?_)
              refine qo_nil ?_
              refine ev_nil (hK27 _ ?_); clear hK27
              refine good_condF rfl ?_
              refine good_skip (hK22 _ ?_); clear hK22
              refine gr rfl ?_
              refine em rfl (by conv=>lhs;whnf) ?_
              refine ei rfl rfl rfl ?_
              intro n29 hn29
              replace hn29 := in64 hn29 (by omega) (by omega)
              refine ea rfl (by conv=>lhs;whnf) ?_
              refine ev_nil ?_
              clear hK8 hK15
              refine ⟨(i + 1, z), ?_, ?_, ?_⟩
              · refine ⟨by first | omega | (dsimp only; omega), hW, hP0, ?_⟩
                show wyI u _ _ z = _
                have hE := wyE_F (i := i) (y := z) (nx_n (p := p) (u := u) (by omega) (by omega) (by omega) (by omega))
                rw [hE] at hbd; exact hbd.symm.trans hB
              · first | omega | (dsimp only; omega)
              · first | refine Sub.trans (sub_move 6 130 89 rfl rfl rfl (by decide)) ?_ | skip
                refine sub_weak ?_ ?_
                · exact weakH_row (rowEq (by first | rfl | exact toI_app (by omega))) (weakH_row (rowEq (by first | rfl | exact hby)) (weakH_row (rowEq (by first | rfl | exact hss)) (weakH_none _)))
                · refine weakE_upd ?e10 ?r10 (weakE_upd ?e9 ?r9 (weakE_upd ?e8 ?r8 (weakE_upd ?e7 ?r7 (weakE_upd ?e6 ?r6 (weakE_upd ?e0 ?r0 (weakE_junk _ _))))))
                  case e0 => first | rfl | exact fI (by omega) | (simp_all)
                  case r0 => intro h hh; cases hh
                  case e6 => first | rfl | exact fI (by omega) | (first | rfl | exact ownEq (by simp [toI_len]))
                  case r6 => intro h hh; simp [refs] at hh; subst hh; rfl
                  case e7 => first | rfl | exact fI (by omega) | (simp_all)
                  case r7 => intro h hh; simp [refs] at hh; subst hh; rfl
                  case e8 => first | rfl | exact fI (by omega) | (simp_all)
                  case r8 => intro h hh; simp [refs] at hh; subst hh; rfl
                  case e9 => first | rfl | exact fI (by omega) | (simp_all)
                  case r9 => intro h hh; cases hh
                  case e10 => first | rfl | exact fI (by omega) | (simp_all)
                  case r10 => intro h hh; cases hh
            · replace hb28 := eqT hb28
              refine qm rfl (by conv=>lhs;whnf) ?_
              refine qm rfl (by conv=>lhs;whnf) ?_
              refine qm rfl (by conv=>lhs;whnf) ?_
              refine qo_q rfl (q_nilCheck (by conv=>lhs;whnf) rfl ?_)
              refine qo_q rfl (q_fieldAddr fO95_1 rfl rfl ?_)
              refine qo_q rfl (q_load tA2 rfl ?_)
              refine qo_q rfl (q_idxO tE115 rfl rfl rfl (by first | exact Int.natCast_nonneg _ | omega) (by first | omega | (rw [toI_len]; have := congrArg List.length ht; rw [List.length_append] at this; omega) | (have := congrArg List.length ht; rw [List.length_append] at this; simp [toI_len]; omega)) rfl ?_)
              refine qo_q rfl (q_loadE tA4 rfl rfl (by first | exact seR_get (by omega) | (rw [hss]; exact seR_get (by omega))) rfl ?_)
              refine qo_q rfl (q_not rfl rfl ?_)
              cases hd107 : decide (p.fm.toNat ∈ z.1)
              · refine qo_q rfl (q_pickT rfl (by conv=>lhs;whnf) ?_)
                refine qo_nil ?_
                refine ev_nil (hK27 _ ?_); clear hK27
                refine good_condT rfl ?_
                refine good_seq fun K30 hK30 => ?_
                refine gr rfl ?_
                have hnm : ¬ p.fm.toNat ∈ z.1 := by first | exact of_decide_eq_false (by assumption) | (simpa using (by assumption))
                have hnx : nxt (pe p) u = some p.fm.toNat := by first | exact nx_f (by omega) | exact nx_t (by omega) (by omega) (by omega)
                have hE := wyE_T (i := i) hnx hnm
                rw [hE] at hbd
                have hiN := bfE_inv (hlt (pe p) (List.mem_map_of_mem (List.mem_of_getElem? hpp))) (List.mem_map_of_mem (List.mem_of_getElem? hpp)) (List.mem_of_getElem? hv) hW.1
                rw [bfE_T hnx hnm] at hiN
                have hwN := wyE_inv (es := (ps.map pe)) (s := s.toNat) (i := i) (e := pe p) (by rw [List.getElem?_map, hpp]; rfl) (List.mem_of_getElem? hv) hW.2
                rw [hE] at hwN
                have hpN : ∃ t, z.1 ++ [p.fm.toNat] = y.1 ++ t := ⟨t ++ [p.fm.toNat], by rw [ht, List.append_assoc]⟩
                have hbN := hbd.symm.trans hB
                have hsg := sg_t (v := p.fm.toNat) (i := i) hpp (u := u) (by omega) (by omega)
                have hbs := byL_set (n := ns.length) (w := (p.fm.toNat, u, i)) (show p.fm.toNat < ns.length by omega) (not_nodes hW.2 hnm) (es := (ps.map pe))
                rw [hsg] at hbs
                have hss := seR_set (ks := z.1) (n := ns.length) (v := p.fm.toNat) (by omega)
                refine em rfl (by conv=>lhs;whnf) ?_
                refine em rfl (by conv=>lhs;whnf) ?_
                refine ev_q rfl (q_nilCheck (by conv=>lhs;whnf) rfl ?_)
                refine ev_q rfl (q_fieldAddr fO95_1 rfl rfl ?_)
                refine ev_q rfl (q_load tA2 rfl ?_)
                refine ev_q rfl (q_idxO tE115 rfl rfl rfl (by first | exact Int.natCast_nonneg _ | omega) (by first | omega | (rw [toI_len]; have := congrArg List.length ht; rw [List.length_append] at this; omega) | (have := congrArg List.length ht; rw [List.length_append] at this; simp [toI_len]; omega)) rfl ?_)
                refine ev_k rfl (k_storeE sz4 rfl (by conv=>lhs;whnf) rfl rfl rfl (Nat.le_of_ble_eq_true rfl) rfl (by exact seR_get (by omega)) (Nat.le_of_ble_eq_true rfl) rfl ?_)
                refine ev_nil (hK30 _ ?_); clear hK30
                refine good_seq fun K31 hK31 => ?_
                refine gr rfl ?_
                refine em rfl (by conv=>lhs;whnf) ?_
                refine em rfl (by conv=>lhs;whnf) ?_
                refine ev_q rfl (q_nilCheck (by conv=>lhs;whnf) rfl ?_)
                refine ev_q rfl (q_fieldAddr fO95_1 rfl rfl ?_)
                refine ev_q rfl (q_load tA2 rfl ?_)
                refine em rfl (by conv=>lhs;whnf) ?_
                refine ev_q rfl (q_neg rfl ?_)
                intro n32 hn32
                replace hn32 := neg64 hn32 (by omega) (by omega)
                refine ei rfl rfl rfl ?_
                intro n33 hn33
                replace hn33 := in64 hn33 (by omega) (by omega)
                have hby : ((byL (ps.map pe) z.2 ns.length).map ci).set p.fm.toNat (ci n33) = (byL (ps.map pe) (z.2 ++ [(p.fm.toNat, u, i)]) ns.length).map ci := by rw [mapSet, show n33 = -((i : Int) + 1) by omega, hbs]
                refine ev_q rfl (q_idxO tE22 rfl rfl rfl (by first | exact Int.natCast_nonneg _ | omega) (by first | omega | (rw [toI_len]; have := congrArg List.length ht; rw [List.length_append] at this; omega) | (have := congrArg List.length ht; rw [List.length_append] at this; simp [toI_len]; omega)) rfl ?_)
                refine ev_k rfl (k_storeE sz2 rfl (by conv=>lhs;whnf) rfl rfl rfl (Nat.le_of_ble_eq_true rfl) rfl (by exact byG (by omega)) (Nat.le_of_ble_eq_true rfl) rfl ?_)
                refine ev_nil (hK31 _ ?_); clear hK31
                refine gr rfl ?_
                refine em rfl (by conv=>lhs;whnf) ?_
                refine em rfl (by conv=>lhs;whnf) ?_
                refine ev_q rfl (q_nilCheck (by conv=>lhs;whnf) rfl ?_)
                refine ev_q rfl (q_fieldAddr fO95_1 rfl rfl ?_)
                refine ev_q rfl (q_load tA2 rfl ?_)
                refine ev_k rfl (k_lit tE22 zA2 rfl rfl (by decide) (by decide) rfl rfl rfl ?_)
                refine ev_k rfl (k_app tApp22 rfl rfl (by first | (simp; done) | (simp [toI_len]; done)) rfl (.inl rfl) (by first | (simp [maxLen]; omega) | (simp [maxLen, toI_len]; omega)) (by first | (simp; omega) | (simp [toI_len]; omega)) ?_)
                refine ea rfl (by conv=>lhs;whnf) ?_
                refine ev_nil (hK22 _ ?_); clear hK22
                refine gr rfl ?_
                refine em rfl (by conv=>lhs;whnf) ?_
                refine ei rfl rfl rfl ?_
                intro n34 hn34
                replace hn34 := in64 hn34 (by omega) (by omega)
                refine ea rfl (by conv=>lhs;whnf) ?_
                refine ev_nil ?_
                clear hK8 hK15
                refine ⟨(i + 1, (z.1 ++ [p.fm.toNat], z.2 ++ [(p.fm.toNat, u, i)])), ?_, ?_, ?_⟩
                · exact ⟨by first | omega | (dsimp only; omega), ⟨hiN, hwN⟩, hpN, hbN⟩
                · first | omega | (dsimp only; omega)
                · first | refine Sub.trans (sub_move 6 130 89 rfl rfl rfl (by decide)) ?_ | skip
                  refine sub_weak ?_ ?_
                  · exact weakH_row (rowEq (by first | rfl | exact toI_app (by omega))) (weakH_row (rowEq (by first | rfl | exact hby)) (weakH_row (rowEq (by first | rfl | exact hss)) (weakH_none _)))
                  · refine weakE_upd ?e10 ?r10 (weakE_upd ?e9 ?r9 (weakE_upd ?e8 ?r8 (weakE_upd ?e7 ?r7 (weakE_upd ?e6 ?r6 (weakE_upd ?e0 ?r0 (weakE_junk _ _))))))
                    case e0 => first | rfl | exact fI (by omega) | (simp_all)
                    case r0 => intro h hh; cases hh
                    case e6 => first | rfl | exact fI (by omega) | (first | rfl | exact ownEq (by simp [toI_len]))
                    case r6 => intro h hh; simp [refs] at hh; subst hh; rfl
                    case e7 => first | rfl | exact fI (by omega) | (simp_all)
                    case r7 => intro h hh; simp [refs] at hh; subst hh; rfl
                    case e8 => first | rfl | exact fI (by omega) | (simp_all)
                    case r8 => intro h hh; simp [refs] at hh; subst hh; rfl
                    case e9 => first | rfl | exact fI (by omega) | (simp_all)
                    case r9 => intro h hh; cases hh
                    case e10 => first | rfl | exact fI (by omega) | (simp_all)
                    case r10 => intro h hh; cases hh
              · refine qo_q rfl (q_pickT rfl (by conv=>lhs;whnf) ?_)
                refine qo_nil ?_
                refine ev_nil (hK27 _ ?_); clear hK27
                refine good_condF rfl ?_
                refine good_skip (hK22 _ ?_); clear hK22
                refine gr rfl ?_
                refine em rfl (by conv=>lhs;whnf) ?_
                refine ei rfl rfl rfl ?_
                intro n35 hn35
                replace hn35 := in64 hn35 (by omega) (by omega)
                refine ea rfl (by conv=>lhs;whnf) ?_
                refine ev_nil ?_
                clear hK8 hK15
                refine ⟨(i + 1, z), ?_, ?_, ?_⟩
                · refine ⟨by first | omega | (dsimp only; omega), hW, hP0, ?_⟩
                  show wyI u _ _ z = _
                  have hE := wyE_M (i := i) (y := z) (nx_t (p := p) (u := u) (by omega) (by omega) (by omega)) (of_decide_eq_true hd107)
                  rw [hE] at hbd; exact hbd.symm.trans hB
                · first | omega | (dsimp only; omega)
                · first | refine Sub.trans (sub_move 6 130 89 rfl rfl rfl (by decide)) ?_ | skip
                  refine sub_weak ?_ ?_
                  · exact weakH_row (rowEq (by first | rfl | exact toI_app (by omega))) (weakH_row (rowEq (by first | rfl | exact hby)) (weakH_row (rowEq (by first | rfl | exact hss)) (weakH_none _)))
                  · refine weakE_upd ?e10 ?r10 (weakE_upd ?e9 ?r9 (weakE_upd ?e8 ?r8 (weakE_upd ?e7 ?r7 (weakE_upd ?e6 ?r6 (weakE_upd ?e0 ?r0 (weakE_junk _ _))))))
                    case e0 => first | rfl | exact fI (by omega) | (simp_all)
                    case r0 => intro h hh; cases hh
                    case e6 => first | rfl | exact fI (by omega) | (first | rfl | exact ownEq (by simp [toI_len]))
                    case r6 => intro h hh; simp [refs] at hh; subst hh; rfl
                    case e7 => first | rfl | exact fI (by omega) | (simp_all)
                    case r7 => intro h hh; simp [refs] at hh; subst hh; rfl
                    case e8 => first | rfl | exact fI (by omega) | (simp_all)
                    case r8 => intro h hh; simp [refs] at hh; subst hh; rfl
                    case e9 => first | rfl | exact fI (by omega) | (simp_all)
                    case r9 => intro h hh; cases hh
                    case e10 => first | rfl | exact fI (by omega) | (simp_all)
                    case r10 => intro h hh; cases hh
          · replace hb26 := eqT hb26
            refine qm rfl (by conv=>lhs;whnf) ?_
            refine qm rfl (by conv=>lhs;whnf) ?_
            refine qm rfl (by conv=>lhs;whnf) ?_
            refine qo_q rfl (q_nilCheck (by conv=>lhs;whnf) rfl ?_)
            refine qo_q rfl (q_fieldAddr fO95_2 rfl rfl ?_)
            refine qo_q rfl (q_load tA2 rfl ?_)
            refine qo_q rfl (q_idxO tE115 rfl rfl rfl (by first | exact Int.natCast_nonneg _ | omega) (by first | omega | (rw [toI_len]; have := congrArg List.length ht; rw [List.length_append] at this; omega) | (have := congrArg List.length ht; rw [List.length_append] at this; simp [toI_len]; omega)) rfl ?_)
            refine qo_q rfl (q_loadE tA4 rfl rfl (by exact seR_get (by omega)) rfl ?_)
            refine qo_q rfl (q_not rfl rfl ?_)
            cases hd67 : decide (p.tt.toNat ∈ z.1)
            · refine qo_q rfl (q_pickT rfl (by conv=>lhs;whnf) ?_)
              refine qo_nil ?_
              refine ev_nil (hK25 _ ?_); clear hK25
              refine good_condT rfl ?_
              refine good_seq fun K36 hK36 => ?_
              refine gr rfl ?_
              have hnm : ¬ p.tt.toNat ∈ z.1 := by first | exact of_decide_eq_false (by assumption) | (simpa using (by assumption))
              have hnx : nxt (pe p) u = some p.tt.toNat := by first | exact nx_f (by omega) | exact nx_t (by omega) (by omega) (by omega)
              have hE := wyE_T (i := i) hnx hnm
              rw [hE] at hbd
              have hiN := bfE_inv (hlt (pe p) (List.mem_map_of_mem (List.mem_of_getElem? hpp))) (List.mem_map_of_mem (List.mem_of_getElem? hpp)) (List.mem_of_getElem? hv) hW.1
              rw [bfE_T hnx hnm] at hiN
              have hwN := wyE_inv (es := (ps.map pe)) (s := s.toNat) (i := i) (e := pe p) (by rw [List.getElem?_map, hpp]; rfl) (List.mem_of_getElem? hv) hW.2
              rw [hE] at hwN
              have hpN : ∃ t, z.1 ++ [p.tt.toNat] = y.1 ++ t := ⟨t ++ [p.tt.toNat], by rw [ht, List.append_assoc]⟩
              have hbN := hbd.symm.trans hB
              have hsg := sg_f (v := p.tt.toNat) (i := i) hpp (u := u) (by omega)
              have hbs := byL_set (n := ns.length) (w := (p.tt.toNat, u, i)) (show p.tt.toNat < ns.length by omega) (not_nodes hW.2 hnm) (es := (ps.map pe))
              rw [hsg] at hbs
              have hss := seR_set (ks := z.1) (n := ns.length) (v := p.tt.toNat) (by omega)
              refine em rfl (by conv=>lhs;whnf) ?_
              refine em rfl (by conv=>lhs;whnf) ?_
              refine ev_q rfl (q_nilCheck (by conv=>lhs;whnf) rfl ?_)
              refine ev_q rfl (q_fieldAddr fO95_2 rfl rfl ?_)
              refine ev_q rfl (q_load tA2 rfl ?_)
              refine ev_q rfl (q_idxO tE115 rfl rfl rfl (by first | exact Int.natCast_nonneg _ | omega) (by first | omega | (rw [toI_len]; have := congrArg List.length ht; rw [List.length_append] at this; omega) | (have := congrArg List.length ht; rw [List.length_append] at this; simp [toI_len]; omega)) rfl ?_)
              refine ev_k rfl (k_storeE sz4 rfl (by conv=>lhs;whnf) rfl rfl rfl (Nat.le_of_ble_eq_true rfl) rfl (by exact seR_get (by omega)) (Nat.le_of_ble_eq_true rfl) rfl ?_)
              refine ev_nil (hK36 _ ?_); clear hK36
              refine good_seq fun K37 hK37 => ?_
              refine gr rfl ?_
              refine em rfl (by conv=>lhs;whnf) ?_
              refine em rfl (by conv=>lhs;whnf) ?_
              refine ev_q rfl (q_nilCheck (by conv=>lhs;whnf) rfl ?_)
              refine ev_q rfl (q_fieldAddr fO95_2 rfl rfl ?_)
              refine ev_q rfl (q_load tA2 rfl ?_)
              refine em rfl (by conv=>lhs;whnf) ?_
              refine ei rfl rfl rfl ?_
              intro n38 hn38
              replace hn38 := in64 hn38 (by omega) (by omega)
              have hby : ((byL (ps.map pe) z.2 ns.length).map ci).set p.tt.toNat (ci n38) = (byL (ps.map pe) (z.2 ++ [(p.tt.toNat, u, i)]) ns.length).map ci := by rw [mapSet, show n38 = (i : Int) + 1 by omega, hbs]
              refine ev_q rfl (q_idxO tE22 rfl rfl rfl (by first | exact Int.natCast_nonneg _ | omega) (by first | omega | (rw [toI_len]; have := congrArg List.length ht; rw [List.length_append] at this; omega) | (have := congrArg List.length ht; rw [List.length_append] at this; simp [toI_len]; omega)) rfl ?_)
              refine ev_k rfl (k_storeE sz2 rfl (by conv=>lhs;whnf) rfl rfl rfl (Nat.le_of_ble_eq_true rfl) rfl (by exact byG (by omega)) (Nat.le_of_ble_eq_true rfl) rfl ?_)
              refine ev_nil (hK37 _ ?_); clear hK37
              refine gr rfl ?_
              refine em rfl (by conv=>lhs;whnf) ?_
              refine em rfl (by conv=>lhs;whnf) ?_
              refine ev_q rfl (q_nilCheck (by conv=>lhs;whnf) rfl ?_)
              refine ev_q rfl (q_fieldAddr fO95_2 rfl rfl ?_)
              refine ev_q rfl (q_load tA2 rfl ?_)
              refine ev_k rfl (k_lit tE22 zA2 rfl rfl (by decide) (by decide) rfl rfl rfl ?_)
              refine ev_k rfl (k_app tApp22 rfl rfl (by first | (simp; done) | (simp [toI_len]; done)) rfl (.inr rfl) (by first | (simp [maxLen]; omega) | (simp [maxLen, toI_len]; omega)) (by first | (simp; omega) | (simp [toI_len]; omega)) ?_)
              refine ea rfl (by conv=>lhs;whnf) ?_
              refine ev_nil (hK24 _ ?_); clear hK24
              refine good_seq fun K39 hK39 => ?_
              refine good_draw 19 hmix (by kernel_rfl) rfl ?_
              refine qm rfl (by conv=>lhs;whnf) ?_
              refine qo_q rfl (q_nilCheck (by conv=>lhs;whnf) rfl ?_)
              refine qo_q rfl (q_fieldAddr fO95_2 rfl rfl ?_)
              refine qo_q rfl (q_load tA2 rfl ?_)
              refine qm rfl (by conv=>lhs;whnf) ?_
              refine qm rfl (by conv=>lhs;whnf) ?_
              refine qo_q rfl (q_idxO tE22 rfl rfl rfl (by first | exact Int.natCast_nonneg _ | omega) (by first | omega | (rw [toI_len]; have := congrArg List.length ht; rw [List.length_append] at this; omega) | (have := congrArg List.length ht; rw [List.length_append] at this; simp [toI_len]; omega)) rfl ?_)
              refine qo_q rfl (q_loadE tA2 rfl rfl (by first | exact toI_get hv | exact wk_get hv) rfl ?_)
              refine qo_q rfl (q_int rfl rfl ?_)
              intro b40 hb40; cases b40
              rotate_left
              · replace hb40 := eqT hb40
                exfalso; omega
              replace hb40 := eqF hb40
              refine qm rfl (by conv=>lhs;whnf) ?_
              refine qo_skip rfl ?_
              refine qo_skip rfl ?_
              refine qo_skip rfl ?_
              refine qo_skip rfl ?_
              refine qo_skip rfl ?_
              refine qo_skip rfl ?_
              refine qo_skip rfl ?_
              refine qo_skip rfl ?_
              refine qo_q rfl (q_pickF rfl (by conv=>lhs;whnf) ?_)
              refine qo_nil ?_
              refine ev_nil (hK39 _ ?_); clear hK39
              refine good_condF rfl ?_
              refine good_skip (hK22 _ ?_); clear hK22
              refine gr rfl ?_
              refine em rfl (by conv=>lhs;whnf) ?_
              refine ei rfl rfl rfl ?_
              intro n41 hn41
              replace hn41 := in64 hn41 (by omega) (by omega)
              refine ea rfl (by conv=>lhs;whnf) ?_
              refine ev_nil ?_
              clear hK8 hK15
              refine ⟨(i + 1, (z.1 ++ [p.tt.toNat], z.2 ++ [(p.tt.toNat, u, i)])), ?_, ?_, ?_⟩
              · exact ⟨by first | omega | (dsimp only; omega), ⟨hiN, hwN⟩, hpN, hbN⟩
              · first | omega | (dsimp only; omega)
              · first | refine Sub.trans (sub_move 6 130 89 rfl rfl rfl (by decide)) ?_ | skip
                refine sub_weak ?_ ?_
                · exact weakH_row (rowEq (by first | rfl | exact toI_app (by omega))) (weakH_row (rowEq (by first | rfl | exact hby)) (weakH_row (rowEq (by first | rfl | exact hss)) (weakH_none _)))
                · refine weakE_upd ?e10 ?r10 (weakE_upd ?e9 ?r9 (weakE_upd ?e8 ?r8 (weakE_upd ?e7 ?r7 (weakE_upd ?e6 ?r6 (weakE_upd ?e0 ?r0 (weakE_junk _ _))))))
                  case e0 => first | rfl | exact fI (by omega) | (simp_all)
                  case r0 => intro h hh; cases hh
                  case e6 => first | rfl | exact fI (by omega) | (first | rfl | exact ownEq (by simp [toI_len]))
                  case r6 => intro h hh; simp [refs] at hh; subst hh; rfl
                  case e7 => first | rfl | exact fI (by omega) | (simp_all)
                  case r7 => intro h hh; simp [refs] at hh; subst hh; rfl
                  case e8 => first | rfl | exact fI (by omega) | (simp_all)
                  case r8 => intro h hh; simp [refs] at hh; subst hh; rfl
                  case e9 => first | rfl | exact fI (by omega) | (simp_all)
                  case r9 => intro h hh; cases hh
                  case e10 => first | rfl | exact fI (by omega) | (simp_all)
                  case r10 => intro h hh; cases hh
            · refine qo_q rfl (q_pickT rfl (by conv=>lhs;whnf) ?_)
              refine qo_nil ?_
              refine ev_nil (hK25 _ ?_); clear hK25
              refine good_condF rfl ?_
              refine good_skip (hK24 _ ?_); clear hK24
              refine good_seq fun K42 hK42 => ?_
              refine good_draw 19 hmix (by kernel_rfl) rfl ?_
              refine qm rfl (by conv=>lhs;whnf) ?_
              refine qo_q rfl (q_nilCheck (by conv=>lhs;whnf) rfl ?_)
              refine qo_q rfl (q_fieldAddr fO95_2 rfl rfl ?_)
              refine qo_q rfl (q_load tA2 rfl ?_)
              refine qm rfl (by conv=>lhs;whnf) ?_
              refine qm rfl (by conv=>lhs;whnf) ?_
              refine qo_q rfl (q_idxO tE22 rfl rfl rfl (by first | exact Int.natCast_nonneg _ | omega) (by first | omega | (rw [toI_len]; have := congrArg List.length ht; rw [List.length_append] at this; omega) | (have := congrArg List.length ht; rw [List.length_append] at this; simp [toI_len]; omega)) rfl ?_)
              refine qo_q rfl (q_loadE tA2 rfl rfl (by first | exact toI_get hv | exact wk_get hv) rfl ?_)
              refine qo_q rfl (q_int rfl rfl ?_)
              intro b43 hb43; cases b43
              rotate_left
              · replace hb43 := eqT hb43
                exfalso; omega
              replace hb43 := eqF hb43
              refine qm rfl (by conv=>lhs;whnf) ?_
              refine qo_skip rfl ?_
              refine qo_skip rfl ?_
              refine qo_skip rfl ?_
              refine qo_skip rfl ?_
              refine qo_skip rfl ?_
              refine qo_skip rfl ?_
              refine qo_skip rfl ?_
              refine qo_skip rfl ?_
              refine qo_q rfl (q_pickF rfl (by conv=>lhs;whnf) ?_)
              refine qo_nil ?_
              refine ev_nil (hK42 _ ?_); clear hK42
              refine good_condF rfl ?_
              refine good_skip (hK22 _ ?_); clear hK22
              refine gr rfl ?_
              refine em rfl (by conv=>lhs;whnf) ?_
              refine ei rfl rfl rfl ?_
              intro n44 hn44
              replace hn44 := in64 hn44 (by omega) (by omega)
              refine ea rfl (by conv=>lhs;whnf) ?_
              refine ev_nil ?_
              clear hK8 hK15
              refine ⟨(i + 1, z), ?_, ?_, ?_⟩
              · refine ⟨by first | omega | (dsimp only; omega), hW, hP0, ?_⟩
                show wyI u _ _ z = _
                have hE := wyE_M (i := i) (y := z) (nx_f (p := p) (u := u) (by omega)) (of_decide_eq_true hd67)
                rw [hE] at hbd; exact hbd.symm.trans hB
              · first | omega | (dsimp only; omega)
              · first | refine Sub.trans (sub_move 6 130 89 rfl rfl rfl (by decide)) ?_ | skip
                refine sub_weak ?_ ?_
                · exact weakH_row (rowEq (by first | rfl | exact toI_app (by omega))) (weakH_row (rowEq (by first | rfl | exact hby)) (weakH_row (rowEq (by first | rfl | exact hss)) (weakH_none _)))
                · refine weakE_upd ?e10 ?r10 (weakE_upd ?e9 ?r9 (weakE_upd ?e8 ?r8 (weakE_upd ?e7 ?r7 (weakE_upd ?e6 ?r6 (weakE_upd ?e0 ?r0 (weakE_junk _ _))))))
                  case e0 => first | rfl | exact fI (by omega) | (simp_all)
                  case r0 => intro h hh; cases hh
                  case e6 => first | rfl | exact fI (by omega) | (first | rfl | exact ownEq (by simp [toI_len]))
                  case r6 => intro h hh; simp [refs] at hh; subst hh; rfl
                  case e7 => first | rfl | exact fI (by omega) | (simp_all)
                  case r7 => intro h hh; simp [refs] at hh; subst hh; rfl
                  case e8 => first | rfl | exact fI (by omega) | (simp_all)
                  case r8 => intro h hh; simp [refs] at hh; subst hh; rfl
                  case e9 => first | rfl | exact fI (by omega) | (simp_all)
                  case r9 => intro h hh; cases hh
                  case e10 => first | rfl | exact fI (by omega) | (simp_all)
                  case r10 => intro h hh; cases hh

-- spec.l07Along
theorem D_spec_l07Along_P (fl : List Int) (i : Nat) (l : Int) (hl : fl[i]? = some l) (hb : -100000 ≤ l ∧ l ≤ 100000) (hi : i ≤ 1000) : Den Tryz.prog 75 [.lst 1 (fl.map ci), .s (.int .i64 ((i : Int) + 1))] (.s (.int .i64 l)) := by
  have hll := (List.getElem?_eq_some_iff.1 hl).1
  refine den_of_good Tryz.func75 (by decide) rfl (Nat.le_of_ble_eq_true rfl) (Nat.le_of_ble_eq_true rfl) ?_
  refine good_seq fun K1 hK1 => ?_
  refine gr rfl ?_
  refine ea rfl (by conv=>lhs;whnf) ?_
  refine ev_nil (hK1 _ ?_); clear hK1
  refine good_seq fun K2 hK2 => ?_
  refine good_seq fun K3 hK3 => ?_
  refine gr rfl ?_
  refine em rfl (by conv=>lhs;whnf) ?_
  refine ei rfl rfl rfl ?_
  intro b4 hb4; cases b4
  · replace hb4 := dF hb4
    exfalso; omega
  replace hb4 := dT hb4
  refine ev_nil (hK3 _ ?_); clear hK3
  refine good_condT rfl ?_
  refine good_seq fun K5 hK5 => ?_
  refine gr rfl ?_
  refine em rfl (by conv=>lhs;whnf) ?_
  refine em rfl (by conv=>lhs;whnf) ?_
  refine ei rfl rfl rfl ?_
  intro n6 hn6
  replace hn6 := in64 hn6 (by omega) (by omega)
  refine ev_q rfl (q_idx tE22 rfl rfl (by omega) (by exact map_get (show fl[n6.toNat]? = some l by rw [← hl]; congr 1; omega)) rfl ?_)
  refine ev_q rfl (q_load tA2 rfl ?_)
  refine ea rfl (by conv=>lhs;whnf) ?_
  refine ev_nil (hK5 _ ?_); clear hK5
  refine good_ret ?_
  repeat first|refine thenQ_ret ?_|refine blockQ_ret ?_
  refine ret_tmp (st := _) rfl (by conv=>lhs;whnf) rfl ?_
  clear hK2
  first | rfl | exact fI (by omega)

-- spec.l07Before
theorem D_spec_l07Before_P (ns : List Int) (ps : List Pi) (i : Nat) (p : Pi) (hp : ps[i]? = some p) (hi : i ≤ 1000) : Den Tryz.prog 72 [.rp [.lst 1 (ns.map ci), .lst 6 (ps.map piA)], .s (.int .i64 ((i : Int) + 1))] (.s (.int .i64 (p.fm))) := by
  have hll := (List.getElem?_eq_some_iff.1 hp).1
  refine den_of_good Tryz.func72 (by decide) rfl (Nat.le_of_ble_eq_true rfl) (Nat.le_of_ble_eq_true rfl) ?_
  refine good_seq fun K1 hK1 => ?_
  refine gr rfl ?_
  refine ea rfl (by conv=>lhs;whnf) ?_
  refine ev_nil (hK1 _ ?_); clear hK1
  refine good_seq fun K2 hK2 => ?_
  refine good_seq fun K3 hK3 => ?_
  refine gr rfl ?_
  refine em rfl (by conv=>lhs;whnf) ?_
  refine ei rfl rfl rfl ?_
  intro b4 hb4; cases b4
  · replace hb4 := dF hb4
    exfalso; omega
  replace hb4 := dT hb4
  refine ev_nil (hK3 _ ?_); clear hK3
  refine good_condT rfl ?_
  refine good_seq fun K5 hK5 => ?_
  refine gr rfl ?_
  refine em rfl (by conv=>lhs;whnf) ?_
  refine ev_q rfl (q_nilCheck (by conv=>lhs;whnf) rfl ?_)
  refine ev_q rfl (q_fieldAddr fO31_1 rfl rfl ?_)
  refine ev_q rfl (q_load tA29 rfl ?_)
  refine em rfl (by conv=>lhs;whnf) ?_
  refine ei rfl rfl rfl ?_
  intro n6 hn6
  replace hn6 := in64 hn6 (by omega) (by omega)
  refine ev_q rfl (q_idx tE29 rfl rfl (by omega) (by exact map_get (show ps[n6.toNat]? = some p by rw [← hp]; congr 1; omega)) rfl ?_)
  refine ev_q rfl (q_fieldAddr fO95_1 rfl rfl ?_)
  refine ev_q rfl (q_load tA2 rfl ?_)
  refine ea rfl (by conv=>lhs;whnf) ?_
  refine ev_nil (hK5 _ ?_); clear hK5
  refine good_ret ?_
  repeat first|refine thenQ_ret ?_|refine blockQ_ret ?_
  refine ret_tmp (st := _) rfl (by conv=>lhs;whnf) rfl ?_
  clear hK2
  first | rfl | exact fI (by omega)

-- spec.l07Pipe
theorem D_spec_l07Pipe_P (ns : List Int) (ps : List Pi) (i : Nat) (p : Pi) (hp : ps[i]? = some p) (hi : i ≤ 1000) : Den Tryz.prog 74 [.rp [.lst 1 (ns.map ci), .lst 6 (ps.map piA)], .s (.int .i64 ((i : Int) + 1))] (.rp [.s (.string p.id), .s (.int .i64 (p.fm)), .s (.int .i64 (p.tt)), .s (.int .i64 (p.le)), .s (.int .i64 (p.di)), .s (.int .i64 (p.lo))]) := by
  have hll := (List.getElem?_eq_some_iff.1 hp).1
  refine den_of_good Tryz.func74 (by decide) rfl (Nat.le_of_ble_eq_true rfl) (Nat.le_of_ble_eq_true rfl) ?_
  refine good_seq fun K1 hK1 => ?_
  refine gr rfl ?_
  refine ea rfl (by conv=>lhs;whnf) ?_
  refine ev_nil (hK1 _ ?_); clear hK1
  refine good_seq fun K2 hK2 => ?_
  refine good_draw 9 hmix (by kernel_rfl) rfl ?_
  refine qm rfl (by conv=>lhs;whnf) ?_
  refine qo_q rfl (q_nilCheck (by conv=>lhs;whnf) rfl ?_)
  refine qo_q rfl (q_fieldAddr fO31_1 rfl rfl ?_)
  refine qo_q rfl (q_load tA29 rfl ?_)
  refine qm rfl (by conv=>lhs;whnf) ?_
  refine qo_q rfl (q_callI rfl rfl (rfl) (D_spec_l03Abs _ (by omega)) ?_)
  intro n3 hn3
  refine qo_q rfl (q_int rfl rfl ?_)
  intro n4 hn4
  replace hn4 := in64 hn4 (by omega) (by omega)
  refine qo_q rfl (q_idx tE29 rfl rfl (by omega) (by exact map_get (show ps[n4.toNat]? = some p by rw [← hp]; congr 1; omega)) rfl ?_)
  refine qa rfl (by conv=>lhs;whnf) ?_
  refine qo_nil ?_
  refine ev_nil (hK2 _ ?_); clear hK2
  refine good_ret ?_
  repeat first|refine thenQ_ret ?_|refine blockQ_ret ?_
  refine ret_tmp (st := _) rfl (by conv=>lhs;whnf) rfl ?_
  rfl

-- spec.l07Along
theorem D_spec_l07Along_M (fl : List Int) (i : Nat) (l : Int) (hl : fl[i]? = some l) (hb : -100000 ≤ l ∧ l ≤ 100000) (hi : i ≤ 1000) : Den Tryz.prog 75 [.lst 1 (fl.map ci), .s (.int .i64 (-((i : Int) + 1)))] (.s (.int .i64 (-l))) := by
  have hll := (List.getElem?_eq_some_iff.1 hl).1
  refine den_of_good Tryz.func75 (by decide) rfl (Nat.le_of_ble_eq_true rfl) (Nat.le_of_ble_eq_true rfl) ?_
  refine good_seq fun K1 hK1 => ?_
  refine gr rfl ?_
  refine ea rfl (by conv=>lhs;whnf) ?_
  refine ev_nil (hK1 _ ?_); clear hK1
  refine good_seq fun K2 hK2 => ?_
  refine good_seq fun K3 hK3 => ?_
  refine gr rfl ?_
  refine em rfl (by conv=>lhs;whnf) ?_
  refine ei rfl rfl rfl ?_
  intro b4 hb4; cases b4
  rotate_left
  · replace hb4 := dT hb4
    exfalso; omega
  replace hb4 := dF hb4
  refine ev_nil (hK3 _ ?_); clear hK3
  refine good_condF rfl ?_
  refine good_skip (hK2 _ ?_); clear hK2
  refine good_seq fun K5 hK5 => ?_
  refine gr rfl ?_
  refine em rfl (by conv=>lhs;whnf) ?_
  refine em rfl (by conv=>lhs;whnf) ?_
  refine ev_q rfl (q_neg rfl ?_)
  intro n6 hn6
  replace hn6 := neg64 hn6 (by omega) (by omega)
  refine ei rfl rfl rfl ?_
  intro n7 hn7
  replace hn7 := in64 hn7 (by omega) (by omega)
  refine ev_q rfl (q_idx tE22 rfl rfl (by omega) (by exact map_get (show fl[n7.toNat]? = some l by rw [← hl]; congr 1; omega)) rfl ?_)
  refine ev_q rfl (q_load tA2 rfl ?_)
  refine ev_q rfl (q_neg rfl ?_)
  intro n8 hn8
  replace hn8 := neg64 hn8 (by omega) (by omega)
  refine ea rfl (by conv=>lhs;whnf) ?_
  refine ev_nil (hK5 _ ?_); clear hK5
  refine good_ret ?_
  repeat first|refine thenQ_ret ?_|refine blockQ_ret ?_
  refine ret_tmp (st := _) rfl (by conv=>lhs;whnf) rfl ?_
  first | rfl | exact fI (by omega)

-- spec.l07Before
theorem D_spec_l07Before_M (ns : List Int) (ps : List Pi) (i : Nat) (p : Pi) (hp : ps[i]? = some p) (hi : i ≤ 1000) : Den Tryz.prog 72 [.rp [.lst 1 (ns.map ci), .lst 6 (ps.map piA)], .s (.int .i64 (-((i : Int) + 1)))] (.s (.int .i64 (p.tt))) := by
  have hll := (List.getElem?_eq_some_iff.1 hp).1
  refine den_of_good Tryz.func72 (by decide) rfl (Nat.le_of_ble_eq_true rfl) (Nat.le_of_ble_eq_true rfl) ?_
  refine good_seq fun K1 hK1 => ?_
  refine gr rfl ?_
  refine ea rfl (by conv=>lhs;whnf) ?_
  refine ev_nil (hK1 _ ?_); clear hK1
  refine good_seq fun K2 hK2 => ?_
  refine good_seq fun K3 hK3 => ?_
  refine gr rfl ?_
  refine em rfl (by conv=>lhs;whnf) ?_
  refine ei rfl rfl rfl ?_
  intro b4 hb4; cases b4
  rotate_left
  · replace hb4 := dT hb4
    exfalso; omega
  replace hb4 := dF hb4
  refine ev_nil (hK3 _ ?_); clear hK3
  refine good_condF rfl ?_
  refine good_skip (hK2 _ ?_); clear hK2
  refine good_seq fun K5 hK5 => ?_
  refine gr rfl ?_
  refine em rfl (by conv=>lhs;whnf) ?_
  refine ev_q rfl (q_nilCheck (by conv=>lhs;whnf) rfl ?_)
  refine ev_q rfl (q_fieldAddr fO31_1 rfl rfl ?_)
  refine ev_q rfl (q_load tA29 rfl ?_)
  refine em rfl (by conv=>lhs;whnf) ?_
  refine ev_q rfl (q_neg rfl ?_)
  intro n6 hn6
  replace hn6 := neg64 hn6 (by omega) (by omega)
  refine ei rfl rfl rfl ?_
  intro n7 hn7
  replace hn7 := in64 hn7 (by omega) (by omega)
  refine ev_q rfl (q_idx tE29 rfl rfl (by omega) (by exact map_get (show ps[n7.toNat]? = some p by rw [← hp]; congr 1; omega)) rfl ?_)
  refine ev_q rfl (q_fieldAddr fO95_2 rfl rfl ?_)
  refine ev_q rfl (q_load tA2 rfl ?_)
  refine ea rfl (by conv=>lhs;whnf) ?_
  refine ev_nil (hK5 _ ?_); clear hK5
  refine good_ret ?_
  repeat first|refine thenQ_ret ?_|refine blockQ_ret ?_
  refine ret_tmp (st := _) rfl (by conv=>lhs;whnf) rfl ?_
  first | rfl | exact fI (by omega)

-- spec.l07Pipe
theorem D_spec_l07Pipe_M (ns : List Int) (ps : List Pi) (i : Nat) (p : Pi) (hp : ps[i]? = some p) (hi : i ≤ 1000) : Den Tryz.prog 74 [.rp [.lst 1 (ns.map ci), .lst 6 (ps.map piA)], .s (.int .i64 (-((i : Int) + 1)))] (.rp [.s (.string p.id), .s (.int .i64 (p.fm)), .s (.int .i64 (p.tt)), .s (.int .i64 (p.le)), .s (.int .i64 (p.di)), .s (.int .i64 (p.lo))]) := by
  have hll := (List.getElem?_eq_some_iff.1 hp).1
  refine den_of_good Tryz.func74 (by decide) rfl (Nat.le_of_ble_eq_true rfl) (Nat.le_of_ble_eq_true rfl) ?_
  refine good_seq fun K1 hK1 => ?_
  refine gr rfl ?_
  refine ea rfl (by conv=>lhs;whnf) ?_
  refine ev_nil (hK1 _ ?_); clear hK1
  refine good_seq fun K2 hK2 => ?_
  refine good_draw 9 hmix (by kernel_rfl) rfl ?_
  refine qm rfl (by conv=>lhs;whnf) ?_
  refine qo_q rfl (q_nilCheck (by conv=>lhs;whnf) rfl ?_)
  refine qo_q rfl (q_fieldAddr fO31_1 rfl rfl ?_)
  refine qo_q rfl (q_load tA29 rfl ?_)
  refine qm rfl (by conv=>lhs;whnf) ?_
  refine qo_q rfl (q_callI rfl rfl (rfl) (D_spec_l03Abs _ (by omega)) ?_)
  intro n3 hn3
  refine qo_q rfl (q_int rfl rfl ?_)
  intro n4 hn4
  replace hn4 := in64 hn4 (by omega) (by omega)
  refine qo_q rfl (q_idx tE29 rfl rfl (by omega) (by exact map_get (show ps[n4.toNat]? = some p by rw [← hp]; congr 1; omega)) rfl ?_)
  refine qa rfl (by conv=>lhs;whnf) ?_
  refine qo_nil ?_
  refine ev_nil (hK2 _ ?_); clear hK2
  refine good_ret ?_
  repeat first|refine thenQ_ret ?_|refine blockQ_ret ?_
  refine ret_tmp (st := _) rfl (by conv=>lhs;whnf) rfl ?_
  rfl

theorem D_along (ps : List Pi) (ns fl : List Int) (w : Nat × Nat × Nat) (p : Pi) (l : Int) (hw : WayOf ns ps w p) (h20 : ps.length ≤ 20) (hl : fl[w.2.2]? = some l) (hb : -100000 ≤ l ∧ l ≤ 100000) (hne : ¬ p.fm = p.tt) : Den Tryz.prog 75 [.lst 1 (fl.map ci), .s (.int .i64 (sgW (ps.map pe) w))] (.s (.int .i64 (flS (ps.map pe) fl w))) := by
  have hi := (List.getElem?_eq_some_iff.1 hw.hp).1
  have hf := flS_y hw.hp hl
  rcases hw.sg with ⟨e, e1, e2⟩ | ⟨e, e1, e2⟩
  · rw [e, hf, if_pos (by omega)]; exact D_spec_l07Along_P fl w.2.2 l hl hb (by omega)
  · rw [e, hf, if_neg (by omega)]; exact D_spec_l07Along_M fl w.2.2 l hl hb (by omega)
theorem D_before (ns : List Int) (ps : List Pi) (w : Nat × Nat × Nat) (p : Pi) (hw : WayOf ns ps w p) (h20 : ps.length ≤ 20) : Den Tryz.prog 72 [.rp [.lst 1 (ns.map ci), .lst 6 (ps.map piA)], .s (.int .i64 (sgW (ps.map pe) w))] (.s (.int .i64 (w.2.1 : Int))) := by
  have hi := (List.getElem?_eq_some_iff.1 hw.hp).1
  rcases hw.sg with ⟨e, e1, e2⟩ | ⟨e, e1, e2⟩
  · rw [e, ← e1]; exact D_spec_l07Before_P ns ps w.2.2 p hw.hp (by omega)
  · rw [e, ← e1]; exact D_spec_l07Before_M ns ps w.2.2 p hw.hp (by omega)
theorem D_pipe (ns : List Int) (ps : List Pi) (w : Nat × Nat × Nat) (p : Pi) (hw : WayOf ns ps w p) (h20 : ps.length ≤ 20) : Den Tryz.prog 74 [.rp [.lst 1 (ns.map ci), .lst 6 (ps.map piA)], .s (.int .i64 (sgW (ps.map pe) w))] (.rp [.s (.string p.id), .s (.int .i64 p.fm), .s (.int .i64 p.tt), .s (.int .i64 p.le), .s (.int .i64 p.di), .s (.int .i64 p.lo)]) := by
  have hi := (List.getElem?_eq_some_iff.1 hw.hp).1
  rcases hw.sg with ⟨e, e1, e2⟩ | ⟨e, e1, e2⟩
  · rw [e]; exact D_spec_l07Pipe_P ns ps w.2.2 p hw.hp (by omega)
  · rw [e]; exact D_spec_l07Pipe_M ns ps w.2.2 p hw.hp (by omega)

-- (impl.Pipe).drop
theorem D_impl_Pipe_drop (s : ByteArray) (fm tt le di lo : Int) (q : Int) (h2 : 1 ≤ le ∧ le ≤ 10000) (h : 20 ≤ di ∧ di ≤ 1000) (hq : -100000 ≤ q ∧ q ≤ 100000) : Den Tryz.prog 85 [.agg [.s (.string s), .s (.int .i64 fm), .s (.int .i64 tt), .s (.int .i64 le), .s (.int .i64 di), .s (.int .i64 lo)], .s (.int .i64 q)] (.s (.int .i64 (drp le di q))) := by
  have hd5 := d5_bd h
  have hdn := drN_bd h2 hq
  have hdd : d5 di = di * di * di * di * di := rfl
  have hdN : drN le q = le * 16200 * q * (q.natAbs : Int) := rfl
  refine den_of_good Tryz.func85 (by decide) rfl (Nat.le_of_ble_eq_true rfl) (Nat.le_of_ble_eq_true rfl) ?_
  refine good_seq fun K1 hK1 => ?_
  refine gr rfl ?_
  refine ev_k rfl (k_box (by conv=>lhs;whnf) rfl rfl rfl ?_)
  refine ea rfl (by conv=>lhs;whnf) ?_
  refine ev_nil (hK1 _ ?_); clear hK1
  refine good_seq fun K2 hK2 => ?_
  refine gr rfl ?_
  refine ev_q rfl (q_fieldAddrP fO95_4 rfl rfl ?_)
  refine ev_q rfl (q_load tA2 rfl ?_)
  refine ea rfl (by conv=>lhs;whnf) ?_
  refine ev_nil (hK2 _ ?_); clear hK2
  refine good_seq fun K3 hK3 => ?_
  refine good_draw 19 hmix (by kernel_rfl) rfl ?_
  refine qo_q rfl (q_fieldAddrP fO95_3 rfl rfl ?_)
  refine qo_q rfl (q_load tA2 rfl ?_)
  refine qo_q rfl (q_int rfl rfl ?_)
  intro n4 hn4
  replace hn4 := in64 hn4 (by omega) (by omega)
  refine qm rfl (by conv=>lhs;whnf) ?_
  refine qo_q rfl (q_int rfl rfl ?_)
  intro n5 hn5
  rw [hn4] at hn5
  replace hn5 := in64 hn5 (by omega) (by omega)
  refine qm rfl (by conv=>lhs;whnf) ?_
  refine qo_q rfl (q_callI rfl rfl (rfl) (D_impl_abs _ (by omega)) ?_)
  intro n6 hn6
  refine qo_q rfl (q_int rfl rfl ?_)
  intro n7 hn7
  rw [hn5, hn6] at hn7
  replace hn7 := in64 hn7 (by omega) (by omega)
  rw [← hdN] at hn7
  refine qm rfl (by conv=>lhs;whnf) ?_
  refine qm rfl (by conv=>lhs;whnf) ?_
  refine qo_q rfl (q_int rfl rfl ?_)
  intro n8 hn8
  replace hn8 := in64 hn8 (by omega) (by omega)
  refine qm rfl (by conv=>lhs;whnf) ?_
  refine qo_q rfl (q_int rfl rfl ?_)
  intro n9 hn9
  rw [hn8] at hn9
  replace hn9 := in64 hn9 (by omega) (by omega)
  refine qm rfl (by conv=>lhs;whnf) ?_
  refine qo_q rfl (q_int rfl rfl ?_)
  intro n10 hn10
  rw [hn9] at hn10
  replace hn10 := in64 hn10 (by omega) (by omega)
  refine qm rfl (by conv=>lhs;whnf) ?_
  refine qo_q rfl (q_int rfl rfl ?_)
  intro n11 hn11
  rw [hn10] at hn11
  replace hn11 := in64 hn11 (by omega) (by omega)
  rw [← hdd] at hn11
  refine qo_q rfl (q_callI rfl rfl (rfl) (D_impl_divRound _ _ (by omega) (by omega)) ?_)
  intro n12 hn12
  refine qa rfl (by conv=>lhs;whnf) ?_
  refine qo_nil ?_
  refine ev_nil (hK3 _ ?_); clear hK3
  refine good_ret ?_
  repeat first|refine thenQ_ret ?_|refine blockQ_ret ?_
  refine ret_tmp (st := _) rfl (by conv=>lhs;whnf) rfl ?_
  exact fI (by rw [hn12, hn7, hn11]; rfl)

-- spec.l03Raw
theorem D_spec_l03Raw (s : ByteArray) (fm tt le di lo : Int) (q : Int) (h2 : 1 ≤ le ∧ le ≤ 10000) (h : 20 ≤ di ∧ di ≤ 1000) (hq : -100000 ≤ q ∧ q ≤ 100000) : Den Tryz.prog 102 [.rp [.s (.string s), .s (.int .i64 fm), .s (.int .i64 tt), .s (.int .i64 le), .s (.int .i64 di), .s (.int .i64 lo)], .s (.int .i64 di), .s (.int .i64 q)] (.s (.int .i64 (drp le di q))) := by
  have hd5 := d5_bd h
  have hdn := drN_bd h2 hq
  have hdd : d5 di = di * di * di * di * di := rfl
  have hdN : drN le q = le * 16200 * q * (q.natAbs : Int) := rfl
  refine den_of_good Tryz.func102 (by decide) rfl (Nat.le_of_ble_eq_true rfl) (Nat.le_of_ble_eq_true rfl) ?_
  refine good_seq fun K1 hK1 => ?_
  refine gr rfl ?_
  refine ea rfl (by conv=>lhs;whnf) ?_
  refine ev_nil (hK1 _ ?_); clear hK1
  refine good_seq fun K2 hK2 => ?_
  refine good_draw 21 hmix (by kernel_rfl) rfl ?_
  refine qm rfl (by conv=>lhs;whnf) ?_
  refine qo_q rfl (q_nilCheck (by conv=>lhs;whnf) rfl ?_)
  refine qo_q rfl (q_fieldAddr fO95_3 rfl rfl ?_)
  refine qo_q rfl (q_load tA2 rfl ?_)
  refine qo_q rfl (q_int rfl rfl ?_)
  intro n3 hn3
  replace hn3 := in64 hn3 (by omega) (by omega)
  refine qm rfl (by conv=>lhs;whnf) ?_
  refine qo_q rfl (q_int rfl rfl ?_)
  intro n4 hn4
  rw [hn3] at hn4
  replace hn4 := in64 hn4 (by omega) (by omega)
  refine qm rfl (by conv=>lhs;whnf) ?_
  refine qo_q rfl (q_callI rfl rfl (rfl) (D_spec_l03Abs _ (by omega)) ?_)
  intro n5 hn5
  refine qo_q rfl (q_int rfl rfl ?_)
  intro n6 hn6
  rw [hn4, hn5] at hn6
  replace hn6 := in64 hn6 (by omega) (by omega)
  rw [← hdN] at hn6
  refine qm rfl (by conv=>lhs;whnf) ?_
  refine qm rfl (by conv=>lhs;whnf) ?_
  refine qo_q rfl (q_int rfl rfl ?_)
  intro n7 hn7
  replace hn7 := in64 hn7 (by omega) (by omega)
  refine qm rfl (by conv=>lhs;whnf) ?_
  refine qo_q rfl (q_int rfl rfl ?_)
  intro n8 hn8
  rw [hn7] at hn8
  replace hn8 := in64 hn8 (by omega) (by omega)
  refine qm rfl (by conv=>lhs;whnf) ?_
  refine qo_q rfl (q_int rfl rfl ?_)
  intro n9 hn9
  rw [hn8] at hn9
  replace hn9 := in64 hn9 (by omega) (by omega)
  refine qm rfl (by conv=>lhs;whnf) ?_
  refine qo_q rfl (q_int rfl rfl ?_)
  intro n10 hn10
  rw [hn9] at hn10
  replace hn10 := in64 hn10 (by omega) (by omega)
  rw [← hdd] at hn10
  refine qo_q rfl (q_callI rfl rfl (rfl) (D_spec_l01Div _ _ (by omega) (by omega)) ?_)
  intro n11 hn11
  refine qa rfl (by conv=>lhs;whnf) ?_
  refine qo_nil ?_
  refine ev_nil (hK2 _ ?_); clear hK2
  refine good_ret ?_
  repeat first|refine thenQ_ret ?_|refine blockQ_ret ?_
  refine ret_tmp (st := _) rfl (by conv=>lhs;whnf) rfl ?_
  exact fI (by rw [hn11, hn6, hn10]; rfl)

-- spec.l03Drop
theorem D_spec_l03Drop (s : ByteArray) (fm tt le di lo : Int) (q : Int) (h2 : 1 ≤ le ∧ le ≤ 10000) (h : 20 ≤ di ∧ di ≤ 1000) (hq : -100000 ≤ q ∧ q ≤ 100000) : Den Tryz.prog 73 [.rp [.s (.string s), .s (.int .i64 fm), .s (.int .i64 tt), .s (.int .i64 le), .s (.int .i64 di), .s (.int .i64 lo)], .s (.int .i64 q)] (.tup [.s (.int .i64 (if (drp le di q).natAbs > 100000000 then 0 else drp le di q)), .s (.int .i64 (if (drp le di q).natAbs > 100000000 then 6 else 0))]) := by
  have hb := drp_bd h2 h hq
  refine den_of_good Tryz.func73 (by decide) rfl (Nat.le_of_ble_eq_true rfl) (Nat.le_of_ble_eq_true rfl) ?_
  refine good_seq fun K1 hK1 => ?_
  refine gr rfl ?_
  refine ea rfl (by conv=>lhs;whnf) ?_
  refine ea rfl (by conv=>lhs;whnf) ?_
  refine ev_nil (hK1 _ ?_); clear hK1
  refine good_seq fun K2 hK2 => ?_
  refine gr rfl ?_
  refine em rfl (by conv=>lhs;whnf) ?_
  refine em rfl (by conv=>lhs;whnf) ?_
  refine ev_q rfl (q_nilCheck (by conv=>lhs;whnf) rfl ?_)
  refine ev_q rfl (q_fieldAddr fO95_4 rfl rfl ?_)
  refine ev_q rfl (q_load tA2 rfl ?_)
  refine em rfl (by conv=>lhs;whnf) ?_
  refine ev_q rfl (q_callI rfl rfl (rfl) (D_spec_l03Raw _ _ _ _ _ _ _ h2 h hq) ?_)
  intro n3 hn3
  refine ea rfl (by conv=>lhs;whnf) ?_
  refine ev_nil (hK2 _ ?_); clear hK2
  refine good_seq fun K4 hK4 => ?_
  refine good_seq fun K5 hK5 => ?_
  refine gr rfl ?_
  refine em rfl (by conv=>lhs;whnf) ?_
  refine ev_q rfl (q_callI rfl rfl (rfl) (D_spec_l03Abs _ (by omega)) ?_)
  intro n6 hn6
  refine ei rfl rfl rfl ?_
  intro b7 hb7; cases b7
  · replace hb7 := dF hb7
    refine ev_nil (hK5 _ ?_); clear hK5
    refine good_condF rfl ?_
    refine good_skip (hK4 _ ?_); clear hK4
    refine good_seq fun K8 hK8 => ?_
    refine gr rfl ?_
    refine em rfl (by conv=>lhs;whnf) ?_
    refine ea rfl (by conv=>lhs;whnf) ?_
    refine ea rfl (by conv=>lhs;whnf) ?_
    refine ev_nil (hK8 _ ?_); clear hK8
    refine good_ret ?_
    repeat first|refine thenQ_ret ?_|refine blockQ_ret ?_
    refine ret_many rfl ?_
    refine res_tmp (by conv=>lhs;whnf) rfl ?_
    refine res_tmp (by conv=>lhs;whnf) rfl ?_
    refine res_nil ?_
    first | exact fTup1 (fI (by rw [if_pos (by omega)])) (fTup1 (fI (by rw [if_pos (by omega)])) rfl) | exact fTup1 (fI (by rw [if_neg (by omega)]; omega)) (fTup1 (fI (by rw [if_neg (by omega)])) rfl)
  · replace hb7 := dT hb7
    refine ev_nil (hK5 _ ?_); clear hK5
    refine good_condT rfl ?_
    refine good_seq fun K9 hK9 => ?_
    refine gr rfl ?_
    refine ea rfl (by conv=>lhs;whnf) ?_
    refine ea rfl (by conv=>lhs;whnf) ?_
    refine ev_nil (hK9 _ ?_); clear hK9
    refine good_ret ?_
    repeat first|refine thenQ_ret ?_|refine blockQ_ret ?_
    refine ret_many rfl ?_
    refine res_tmp (by conv=>lhs;whnf) rfl ?_
    refine res_tmp (by conv=>lhs;whnf) rfl ?_
    refine res_nil ?_
    clear hK4
    first | exact fTup1 (fI (by rw [if_pos (by omega)])) (fTup1 (fI (by rw [if_pos (by omega)])) rfl) | exact fTup1 (fI (by rw [if_neg (by omega)]; omega)) (fTup1 (fI (by rw [if_neg (by omega)])) rfl)

-- spec.l07Static
theorem D_spec_l07Static (a b : Int) (ha : -100000 ≤ a ∧ a ≤ 100000) (hb : -100000 ≤ b ∧ b ≤ 100000) : Den Tryz.prog 76 [.s (.int .i64 a), .s (.int .i64 b)] (.s (.int .i64 (dr (981 * (b - a)) 10))) := by
  refine den_of_good Tryz.func76 (by decide) rfl (Nat.le_of_ble_eq_true rfl) (Nat.le_of_ble_eq_true rfl) ?_
  refine good_seq fun K1 hK1 => ?_
  refine gr rfl ?_
  refine ea rfl (by conv=>lhs;whnf) ?_
  refine ev_nil (hK1 _ ?_); clear hK1
  refine good_seq fun K2 hK2 => ?_
  refine gr rfl ?_
  refine em rfl (by conv=>lhs;whnf) ?_
  refine em rfl (by conv=>lhs;whnf) ?_
  refine ei rfl rfl rfl ?_
  intro n3 hn3
  replace hn3 := in64 hn3 (by omega) (by omega)
  refine ei rfl rfl rfl ?_
  intro n4 hn4
  replace hn4 := in64 hn4 (by omega) (by omega)
  refine ev_q rfl (q_callI rfl rfl (rfl) (D_spec_l01Div _ _ (by omega) (by omega)) ?_)
  intro n5 hn5
  refine ea rfl (by conv=>lhs;whnf) ?_
  refine ev_nil (hK2 _ ?_); clear hK2
  refine good_ret ?_
  repeat first|refine thenQ_ret ?_|refine blockQ_ret ?_
  refine ret_tmp (st := _) rfl (by conv=>lhs;whnf) rfl ?_
  exact fI (by rw [hn5]; congr 1; omega)

-- (impl.Network).dropsOk
theorem D_impl_Network_dropsOk (ns : List Int) (ps : List Pi) (fl : List Int) (hn : ns.length ≤ 17592186044416) (hp : ps.length ≤ 2513169434843) (hz : idSz ps) (hf : fl.length ≤ 17592186044416) (ok : netOk ns ps) (hfl : flP ps fl) : Den Tryz.prog 44 [.agg [.lst 1 (ns.map ci), .lst 6 (ps.map piA)], .lst 1 (fl.map ci)] (.s (.bool (decide (dropP ps fl)))) := by
  have h20 := ok.1.2.2
  refine den_of_good Tryz.func44 (by decide) rfl (Nat.le_of_ble_eq_true rfl) (Nat.le_of_ble_eq_true rfl) ?_
  refine good_seq fun K1 hK1 => ?_
  refine gr rfl ?_
  refine ev_k rfl (k_box (by conv=>lhs;whnf) rfl rfl rfl ?_)
  refine ea rfl (by conv=>lhs;whnf) ?_
  refine ev_nil (hK1 _ ?_); clear hK1
  refine good_seq fun K2 hK2 => ?_
  refine good_seq fun K3 hK3 => ?_
  refine gr rfl ?_
  refine ev_q rfl (q_fieldAddrP fO31_1 rfl rfl ?_)
  refine ev_q rfl (q_load tA29 rfl ?_)
  refine ev_q rfl (q_len tEs29 rfl ?_)
  intro n4 hn4
  try simp only [List.length_map] at hn4
  refine em rfl (by conv=>lhs;whnf) ?_
  refine ev_nil (hK3 _ ?_); clear hK3
  refine good_block ?_
  refine good_loop (α := Nat) (fun i => { env := upd (upd (upd (upd (upd ((fun _ => .junk)) 1 (.lst 1 (fl.map ci))) 2 (.ptr 2 0)) 8 (.lst 6 (ps.map piA))) 9 (.s (.int .i64 ((ps.length : Int))))) 10 (.s (.int .i64 i)), H := upd ((fun _ => none)) 2 (some (.box 31 [.lst 1 (ns.map ci), .lst 6 (ps.map piA)])) }) (fun i => i ≤ ps.length ∧ ∀ (j : Nat) (p : Pi) (l : Int), j < i → ps[j]? = some p → fl[j]? = some l → (drp p.le p.di l).natAbs ≤ 100000000) (fun i => ps.length - i) 0 ?_ ?_ ?_
  · exact ⟨by omega, fun j p l hj => by omega⟩
  · refine sub_weak ?_ ?_
    · exact weakH_box (boxEq (rfl)) rfl (weakH_none _)
    · refine weakE_upd ?e10 ?r10 (weakE_upd ?e9 ?r9 (weakE_upd ?e8 ?r8 (weakE_upd ?e2 ?r2 (weakE_upd ?e1 ?r1 (weakE_junk _ _)))))
      case e1 => first | rfl | exact fI (by omega) | (simp_all)
      case r1 => intro h hh; cases hh
      case e2 => first | rfl | exact fI (by omega) | (simp_all)
      case r2 => intro h hh; simp [refs] at hh; subst hh; rfl
      case e8 => first | rfl | exact fI (by omega) | (simp_all)
      case r8 => intro h hh; cases hh
      case e9 => first | rfl | exact fI (by omega) | (simp_all)
      case r9 => intro h hh; cases hh
      case e10 => first | rfl | exact fI (by omega) | (simp_all)
      case r10 => intro h hh; cases hh
  · rintro i ⟨hI, hJ⟩
    refine good_seq fun K5 hK5 => ?_
    refine gr rfl ?_
    refine ei rfl rfl rfl ?_
    intro b6 hb6; cases b6
    · replace hb6 := dF hb6
      refine ev_nil (hK5 _ ?_); clear hK5
      refine good_seq fun K7 hK7 => ?_
      refine good_condF rfl ?_
      refine good_exit ?_
      repeat first|refine thenQ_exit ?_|refine blockQ_pass rfl ?_
      refine blockQ_exit (hK2 _ ?_); clear hK2
      refine good_seq fun K8 hK8 => ?_
      refine gr rfl ?_
      refine ea rfl (by conv=>lhs;whnf) ?_
      refine ev_nil (hK8 _ ?_); clear hK8
      refine good_ret ?_
      repeat first|refine thenQ_ret ?_|refine blockQ_ret ?_
      refine ret_tmp (st := _) rfl (by conv=>lhs;whnf) rfl ?_
      clear hK7
      first | exact fT (fun j p l h1 h2 => hJ j p l (by have := (List.getElem?_eq_some_iff.1 h1).1; omega) h1 h2) | exact fF (fun k => by have := k i p l hpp hl; omega)
    · replace hb6 := dT hb6
      obtain ⟨p, hpp⟩ := getL (xs := ps) (n := (i : Int)) (by omega) (by omega)
      replace hpp : ps[i]? = some p := hpp
      have hpl := (List.getElem?_eq_some_iff.1 hpp).1
      have hpo := (ok.2 _ p hpp).1
      have hp4 := hpo.1.2.2.2.2.1
      have hp5 := hpo.1.2.2.2.2.2.1
      obtain ⟨l, hl⟩ : ∃ l, fl[i]? = some l := ⟨_, List.getElem?_eq_getElem (by have := hfl.1; omega)⟩
      have hlb := hfl.2 _ _ hl
      have hdb := drp_bd hp4 hp5 hlb
      refine ev_nil (hK5 _ ?_); clear hK5
      refine good_seq fun K9 hK9 => ?_
      refine good_condT rfl ?_
      refine good_skip (hK9 _ ?_); clear hK9
      refine good_seq fun K10 hK10 => ?_
      refine good_block ?_
      refine good_seq fun K11 hK11 => ?_
      refine gr rfl ?_
      refine em rfl (by conv=>lhs;whnf) ?_
      refine ev_q rfl (q_idx tE29 rfl rfl (by exact Int.natCast_nonneg _) (by exact map_get hpp) rfl ?_)
      refine ev_q rfl (q_loadA tA95 rfl rfl rfl ?_)
      refine ev_k rfl (k_alloc zA95 rfl ?_)
      refine ea rfl (by conv=>lhs;whnf) ?_
      refine ev_k rfl (k_store sz95 rfl (by conv=>lhs;whnf) rfl rfl rfl (Nat.le_of_ble_eq_true rfl) rfl ?_)
      refine ev_nil (hK11 _ ?_); clear hK11
      refine good_seq fun K12 hK12 => ?_
      refine good_draw 8 hmix (by kernel_rfl) rfl ?_
      refine qo_q rfl (q_loadA tA95 rfl rfl rfl ?_)
      refine qm rfl (by conv=>lhs;whnf) ?_
      refine qm rfl (by conv=>lhs;whnf) ?_
      refine qo_q rfl (q_idx tE22 rfl rfl (by exact Int.natCast_nonneg _) (by exact map_get hl) rfl ?_)
      refine qo_q rfl (q_load tA2 rfl ?_)
      refine qo_q rfl (q_callI rfl rfl (rfl) (D_impl_Pipe_drop _ _ _ _ _ _ _ hp4 hp5 hlb) ?_)
      intro n13 hn13
      refine qo_q rfl (q_callI rfl rfl (rfl) (D_impl_abs _ (by omega)) ?_)
      intro n14 hn14
      refine qo_q rfl (q_int rfl rfl ?_)
      intro b15 hb15; cases b15
      · replace hb15 := dF hb15
        refine qo_nil ?_
        refine ev_nil (hK12 _ ?_); clear hK12
        refine good_condF rfl ?_
        refine good_skip (hK10 _ ?_); clear hK10
        refine gr rfl ?_
        refine ei rfl rfl rfl ?_
        intro n16 hn16
        replace hn16 := in64 hn16 (by omega) (by omega)
        refine em rfl (by conv=>lhs;whnf) ?_
        refine ev_nil ?_
        clear hK2
        refine ⟨i + 1, ?_, ?_, ?_⟩
        · refine ⟨by omega, fun j p2 l2 hj h1 h2 => ?_⟩
          by_cases c : j = i
          · subst c; rw [hpp] at h1; cases h1; rw [hl] at h2; cases h2; omega
          · exact hJ j p2 l2 (by omega) h1 h2
        · first | omega | (simp only []; omega) | (dsimp only; omega)
        · refine sub_weak ?_ ?_
          · exact weakH_box (boxEq (rfl)) rfl (weakH_none _)
          · refine weakE_upd ?e10 ?r10 (weakE_upd ?e9 ?r9 (weakE_upd ?e8 ?r8 (weakE_upd ?e2 ?r2 (weakE_upd ?e1 ?r1 (weakE_junk _ _)))))
            case e1 => first | rfl | exact fI (by omega) | (simp_all)
            case r1 => intro h hh; cases hh
            case e2 => first | rfl | exact fI (by omega) | (simp_all)
            case r2 => intro h hh; simp [refs] at hh; subst hh; rfl
            case e8 => first | rfl | exact fI (by omega) | (simp_all)
            case r8 => intro h hh; cases hh
            case e9 => first | rfl | exact fI (by omega) | (simp_all)
            case r9 => intro h hh; cases hh
            case e10 => first | rfl | exact fI (by omega) | (simp_all)
            case r10 => intro h hh; cases hh
      · replace hb15 := dT hb15
        refine qo_nil ?_
        refine ev_nil (hK12 _ ?_); clear hK12
        refine good_condT rfl ?_
        refine good_seq fun K17 hK17 => ?_
        refine gr rfl ?_
        refine ea rfl (by conv=>lhs;whnf) ?_
        refine ev_nil (hK17 _ ?_); clear hK17
        refine good_ret ?_
        repeat first|refine thenQ_ret ?_|refine blockQ_ret ?_
        refine ret_tmp (st := _) rfl (by conv=>lhs;whnf) rfl ?_
        clear hK2 hK10
        first | exact fT (fun j p l h1 h2 => hJ j p l (by have := (List.getElem?_eq_some_iff.1 h1).1; omega) h1 h2) | exact fF (fun k => by have := k i p l hpp hl; omega)

-- (impl.Network).pressures
theorem D_impl_Network_pressures (ns : List Int) (ps : List Pi) (s : Int) (fl : List Int) (pr : Int) (hn : ns.length ≤ 17592186044416) (hp : ps.length ≤ 2513169434843) (hz : idSz ps) (hf : fl.length ≤ 17592186044416) (ok : netOk ns ps) (hs : 0 ≤ s ∧ s < ns.length) (hfl : flP ps fl) (hpr : 0 ≤ pr ∧ pr ≤ 100000000) : DenX Tryz.prog 45 [] [.agg [.lst 1 (ns.map ci), .lst 6 (ps.map piA)], .s (.int .i64 s), .lst 1 (fl.map ci), .s (.int .i64 pr)] [(900003, .row 2 1 ((wyR (prF ns ps fl) (ps.map pe) ns.length s.toNat pr (waysF (ps.map pe) ns.length s.toNat).2.length).map ci))] (.own 900003 ns.length) := by
  have h16 := ok.1.1
  have h20 := ok.1.2.2
  have hwl := ways_le (s := s.toNat) (esF_lt ok) (by omega)
  refine denX_of_good Tryz.func45 (by decide) rfl (Nat.le_of_ble_eq_true rfl) (Nat.le_of_ble_eq_true rfl) rfl ?_
  refine good_seq fun K1 hK1 => ?_
  refine gr rfl ?_
  refine ev_k rfl (k_box (by conv=>lhs;whnf) rfl rfl rfl ?_)
  refine ea rfl (by conv=>lhs;whnf) ?_
  refine ev_nil (hK1 _ ?_); clear hK1
  refine good_seq fun K2 hK2 => ?_
  refine gr rfl ?_
  refine ev_q rfl (q_fieldAddrP fO31_0 rfl rfl ?_)
  refine ev_q rfl (q_load tA22 rfl ?_)
  refine ev_q rfl (q_len tEs22 rfl ?_)
  intro n3 hn3
  try simp only [List.length_map] at hn3
  refine ev_k rfl (k_make tE22 rfl rfl zA2 tBy2 rfl (by omega) (by omega) (by omega) rfl (by show _ = ns.length; omega) ?_)
  refine ea rfl (by conv=>lhs;whnf) ?_
  refine ev_nil (hK2 _ ?_); clear hK2
  refine good_seq fun K4 hK4 => ?_
  refine gr rfl ?_
  refine em rfl (by conv=>lhs;whnf) ?_
  refine em rfl (by conv=>lhs;whnf) ?_
  refine em rfl (by conv=>lhs;whnf) ?_
  refine ev_q rfl (q_idxO tE22 rfl rfl rfl (by omega) (by first | omega | (simp; omega)) rfl ?_)
  refine ev_k rfl (k_storeE sz2 rfl (by conv=>lhs;whnf) rfl rfl rfl (Nat.le_of_ble_eq_true rfl) rfl (by exact repG (by omega)) (Nat.le_of_ble_eq_true rfl) rfl ?_)
  refine ev_nil (hK4 _ ?_); clear hK4
  refine good_seq fun K5 hK5 => ?_
  refine good_seq fun K6 hK6 => ?_
  refine gr rfl ?_
  refine ev_q rfl (q_loadA tA31 rfl rfl rfl ?_)
  refine em rfl (by conv=>lhs;whnf) ?_
  refine ev_k rfl (k_callX [(900001, 900001)] (D_impl_Network_ways ns ps s hn hp hz ok hs) rfl (rfl) (rfl) trivial ⟨⟨rfl, show (900001 : Nat) < 1000000 by decide⟩, trivial⟩ rfl rfl rfl ?_)
  refine ev_q rfl (q_len tEs100 rfl ?_)
  intro n7 hn7
  try simp only [List.length_map] at hn7
  refine em rfl (by conv=>lhs;whnf) ?_
  refine ev_nil (hK6 _ ?_); clear hK6
  refine good_block ?_
  refine good_loop (α := Nat) (fun m => { env := upd (upd (upd (upd (upd (upd ((fun _ => .junk)) 2 (.lst 1 (fl.map ci))) 4 (.ptr 4 0)) 9 (.own 16 ns.length)) 23 (.own 900001 (waysF (ps.map pe) ns.length s.toNat).2.length)) 24 (.s (.int .i64 (((waysF (ps.map pe) ns.length s.toNat).2.length : Int))))) 25 (.s (.int .i64 ((m : Int)))), H := upd (upd (upd ((fun _ => none)) 16 (some (.row 2 1 ((wyR (prF ns ps fl) (ps.map pe) ns.length s.toNat pr m).map ci)))) 900001 (some (.row 103 3 ((waysF (ps.map pe) ns.length s.toNat).2.map wyA)))) 4 (some (.box 31 [.lst 1 (ns.map ci), .lst 6 (ps.map piA)])) }) (fun m => m ≤ (waysF (ps.map pe) ns.length s.toNat).2.length) (fun m => (waysF (ps.map pe) ns.length s.toNat).2.length - m) 0 ?_ ?_ ?_
  · exact Nat.zero_le _
  · refine sub_weak ?_ ?_
    · exact weakH_box (boxEq (rfl)) rfl (weakH_row (rowEq (rfl)) (weakH_row (rowEq (by first | exact wyR_0)) (weakH_none _)))
    · refine weakE_upd ?e25 ?r25 (weakE_upd ?e24 ?r24 (weakE_upd ?e23 ?r23 (weakE_upd ?e9 ?r9 (weakE_upd ?e4 ?r4 (weakE_upd ?e2 ?r2 (weakE_junk _ _))))))
      case e2 => first | rfl | exact fI (by omega) | (simp_all)
      case r2 => intro h hh; cases hh
      case e4 => first | rfl | exact fI (by omega) | (simp_all)
      case r4 => intro h hh; simp [refs] at hh; subst hh; rfl
      case e9 => first | rfl | exact fI (by omega) | (simp_all)
      case r9 => intro h hh; simp [refs] at hh; subst hh; rfl
      case e23 => first | rfl | exact fI (by omega) | (simp_all)
      case r23 => intro h hh; simp [refs] at hh; subst hh; rfl
      case e24 => first | rfl | exact fI (by omega) | (simp_all)
      case r24 => intro h hh; cases hh
      case e25 => first | rfl | exact fI (by omega) | (simp_all)
      case r25 => intro h hh; cases hh
  · rintro m hI
    refine good_seq fun K8 hK8 => ?_
    refine gr rfl ?_
    refine ei rfl rfl rfl ?_
    intro b9 hb9; cases b9
    · replace hb9 := dF hb9
      refine ev_nil (hK8 _ ?_); clear hK8
      refine good_seq fun K10 hK10 => ?_
      refine good_condF rfl ?_
      refine good_exit ?_
      repeat first|refine thenQ_exit ?_|refine blockQ_pass rfl ?_
      refine blockQ_exit (hK5 _ ?_); clear hK5
      refine good_seq fun K11 hK11 => ?_
      refine gr rfl ?_
      refine em rfl (by conv=>lhs;whnf) ?_
      refine ea rfl (by conv=>lhs;whnf) ?_
      refine ev_nil (hK11 _ ?_); clear hK11
      refine good_weak (sub_move 8 16 900003 rfl rfl rfl (by decide)) ?_
      refine good_ret ?_
      repeat first|refine thenQ_ret ?_|refine blockQ_ret ?_
      refine fx_tmp rfl (by conv=>lhs;whnf) ?_
      clear hK10
      exact ⟨_, conv_eq (by first | rfl | (rw [e]; done) | (rw [e]; rfl) | exact ownEq (by first | omega | simp_all)), weakH_row (rowEq (by rw [show (waysF (ps.map pe) ns.length s.toNat).2.length = m by omega])) (weakH_none _), refsIn_ok rfl⟩
    · replace hb9 := dT hb9
      obtain ⟨w, hw⟩ : ∃ w, (waysF (ps.map pe) ns.length s.toNat).2[m]? = some w := ⟨_, List.getElem?_eq_getElem (by omega)⟩
      have hwm := List.mem_of_getElem? hw
      obtain ⟨p, hW⟩ := wayOf ok (show s.toNat < ns.length by omega) hwm
      have hpp := hW.hp
      have hw1 := hW.l1
      have hw2 := hW.l2
      have hwn := hW.ne
      have hpl := (List.getElem?_eq_some_iff.1 hpp).1
      have hpo := (ok.2 _ p hpp).1
      have hp1 := hpo.1.2.1
      have hp2 := hpo.1.2.2.1
      have hp3 := hpo.1.2.2.2.1
      have hp4 := hpo.1.2.2.2.2.1
      have hp5 := hpo.1.2.2.2.2.2.1
      have hp6 := hpo.1.2.2.2.2.2.2
      obtain ⟨l, hl⟩ : ∃ l, fl[w.2.2]? = some l := ⟨_, List.getElem?_eq_getElem (by have := hfl.1; omega)⟩
      have hlb := hfl.2 _ _ hl
      have hfs := flS_y hpp hl
      have hfb : -100000 ≤ flS (ps.map pe) fl w ∧ flS (ps.map pe) fl w ≤ 100000 := by rw [hfs]; split <;> omega
      have hst := wyR_s (f := (prF ns ps fl)) (n := ns.length) (s := s.toNat) (x := pr) hw
      have hln := wyR_len (f := (prF ns ps fl)) (es := (ps.map pe)) (n := ns.length) (s := s.toNat) (m := m) (x := pr)
      have htb := wyR_grow (f := (prF ns ps fl)) (es := (ps.map pe)) (n := ns.length) (s := s.toNat) (m := m) (x := pr) (esF_lt ok) (by omega) (by omega) (by omega) (by omega) (prF_d ok hfl (by omega)) w.2.1
      have hdw := drW_bd ok hfl (by omega) hwm
      have hdq := drW_eq (fl := fl) hpp
      have hwi := ok.1.2.1
      have hg1 := nsG hwi w.1
      have hg2 := nsG hwi w.2.1
      have hrb := riW_bd (w := w) hg1 hg2
      have hri : riW ns w = dr (981 * (ns.getD w.1 0 - ns.getD w.2.1 0)) 10 := rfl
      refine ev_nil (hK8 _ ?_); clear hK8
      refine good_seq fun K12 hK12 => ?_
      refine good_condT rfl ?_
      refine good_skip (hK12 _ ?_); clear hK12
      refine good_seq fun K13 hK13 => ?_
      refine good_block ?_
      refine good_seq fun K14 hK14 => ?_
      refine gr rfl ?_
      refine ev_q rfl (q_idxO tE100 rfl rfl rfl (by omega) (by first | omega | (simp; omega)) rfl ?_)
      refine ev_q rfl (q_loadEA tA103 rfl rfl (by exact wy_get hw) rfl rfl ?_)
      refine ev_k rfl (k_alloc zA103 rfl ?_)
      refine ev_k rfl (k_store sz103 rfl (by conv=>lhs;whnf) rfl rfl rfl (Nat.le_of_ble_eq_true rfl) rfl ?_)
      refine ev_nil (hK14 _ ?_); clear hK14
      refine good_seq fun K15 hK15 => ?_
      refine good_draw 16 hmix (by kernel_rfl) rfl ?_
      refine qo_q rfl (q_fieldAddrP fO31_0 rfl rfl ?_)
      refine qo_q rfl (q_load tA22 rfl ?_)
      refine qo_q rfl (q_fieldAddrP fO103_0 rfl rfl ?_)
      refine qo_q rfl (q_load tA2 rfl ?_)
      refine qo_q rfl (q_idx tE22 rfl rfl (by omega) (by exact getG (t := ns) (v := w.1) (by omega)) rfl ?_)
      refine qo_q rfl (q_load tA2 rfl ?_)
      refine qo_q rfl (q_fieldAddrP fO31_0 rfl rfl ?_)
      refine qo_q rfl (q_load tA22 rfl ?_)
      refine qo_q rfl (q_fieldAddrP fO103_1 rfl rfl ?_)
      refine qo_q rfl (q_load tA2 rfl ?_)
      refine qo_q rfl (q_idx tE22 rfl rfl (by omega) (by exact getG (t := ns) (v := w.2.1) (by omega)) rfl ?_)
      refine qo_q rfl (q_load tA2 rfl ?_)
      refine qo_q rfl (q_int rfl rfl ?_)
      intro n16 hn16
      replace hn16 := in64 hn16 (by omega) (by omega)
      refine qo_q rfl (q_int rfl rfl ?_)
      intro n17 hn17
      replace hn17 := in64 hn17 (by omega) (by omega)
      refine qo_q rfl (q_callI rfl rfl (rfl) (D_impl_divRound _ _ (by omega) (by omega)) ?_)
      intro n18 hn18
      rw [show n17 = 981 * (ns.getD w.1 0 - ns.getD w.2.1 0) by omega, ← hri] at hn18
      refine qa rfl (by conv=>lhs;whnf) ?_
      refine qo_nil ?_
      refine ev_nil (hK15 _ ?_); clear hK15
      refine good_draw 23 hmix (by kernel_rfl) rfl ?_
      refine qm rfl (by conv=>lhs;whnf) ?_
      refine qo_q rfl (q_fieldAddrP fO103_0 rfl rfl ?_)
      refine qo_q rfl (q_load tA2 rfl ?_)
      refine qm rfl (by conv=>lhs;whnf) ?_
      refine qo_q rfl (q_fieldAddrP fO103_1 rfl rfl ?_)
      refine qo_q rfl (q_load tA2 rfl ?_)
      refine qo_q rfl (q_idxO tE22 rfl rfl rfl (by omega) (by first | omega | (simp; omega)) rfl ?_)
      refine qo_q rfl (q_loadE tA2 rfl rfl (by exact getG (t := (wyR (prF ns ps fl) (ps.map pe) ns.length s.toNat pr m)) (v := w.2.1) (by omega)) rfl ?_)
      refine qo_q rfl (q_fieldAddrP fO31_1 rfl rfl ?_)
      refine qo_q rfl (q_load tA29 rfl ?_)
      refine qo_q rfl (q_fieldAddrP fO103_2 rfl rfl ?_)
      refine qo_q rfl (q_load tA3 rfl ?_)
      refine qo_q rfl (q_idx tE29 rfl rfl (by omega) (by exact map_get hpp) rfl ?_)
      refine qo_q rfl (q_loadA tA95 rfl rfl rfl ?_)
      refine qo_q rfl (q_loadA tA103 rfl rfl rfl ?_)
      refine qo_q rfl (q_loadA tA31 rfl rfl rfl ?_)
      refine qm rfl (by conv=>lhs;whnf) ?_
      refine qo_q rfl (q_callI rfl rfl (rfl) (D_impl_way_along ns ps fl w p l (by omega) hpp hl hlb) ?_)
      intro n19 hn19
      refine qo_q rfl (q_callI rfl rfl (rfl) (D_impl_Pipe_drop _ _ _ _ _ _ _ hp4 hp5 (by omega)) ?_)
      intro n20 hn20
      rw [hn19, ← hdq] at hn20
      refine qo_q rfl (q_int rfl rfl ?_)
      intro n21 hn21
      replace hn21 := in64 hn21 (by omega) (by omega)
      refine qm rfl (by conv=>lhs;whnf) ?_
      refine qo_q rfl (q_int rfl rfl ?_)
      intro n22 hn22
      replace hn22 := in64 hn22 (by omega) (by omega)
      have hS : ((wyR (prF ns ps fl) (ps.map pe) ns.length s.toNat pr m).map ci).set w.1 (ci n22) = (wyR (prF ns ps fl) (ps.map pe) ns.length s.toNat pr (m + 1)).map ci := by rw [mapSet, hst, show n22 = prF ns ps fl w ((wyR (prF ns ps fl) (ps.map pe) ns.length s.toNat pr m).getD w.2.1 0) by have := prF_eq (ns := ns) (ps := ps) (fl := fl) (w := w) (a := (wyR (prF ns ps fl) (ps.map pe) ns.length s.toNat pr m).getD w.2.1 0); omega]
      refine qo_q rfl (q_idxO tE22 rfl rfl rfl (by omega) (by first | omega | (simp; omega)) rfl ?_)
      refine qo_nil ?_
      refine ev_k rfl (k_storeE sz2 rfl (by conv=>lhs;whnf) rfl rfl rfl (Nat.le_of_ble_eq_true rfl) rfl (by exact getG (by omega)) (Nat.le_of_ble_eq_true rfl) rfl ?_)
      refine ev_nil (hK13 _ ?_); clear hK13
      refine gr rfl ?_
      refine ei rfl rfl rfl ?_
      intro n23 hn23
      replace hn23 := in64 hn23 (by omega) (by omega)
      refine em rfl (by conv=>lhs;whnf) ?_
      refine ev_nil ?_
      clear hK5
      refine ⟨m + 1, ?_, ?_, ?_⟩
      · show _ ≤ _; omega
      · first | omega | (simp only []; omega) | (dsimp only; omega)
      · refine sub_weak ?_ ?_
        · exact weakH_box (boxEq (rfl)) rfl (weakH_row (rowEq (rfl)) (weakH_row (rowEq (by exact hS)) (weakH_none _)))
        · refine weakE_upd ?e25 ?r25 (weakE_upd ?e24 ?r24 (weakE_upd ?e23 ?r23 (weakE_upd ?e9 ?r9 (weakE_upd ?e4 ?r4 (weakE_upd ?e2 ?r2 (weakE_junk _ _))))))
          case e2 => first | rfl | exact fI (by omega) | (simp_all)
          case r2 => intro h hh; cases hh
          case e4 => first | rfl | exact fI (by omega) | (simp_all)
          case r4 => intro h hh; simp [refs] at hh; subst hh; rfl
          case e9 => first | rfl | exact fI (by omega) | (simp_all)
          case r9 => intro h hh; simp [refs] at hh; subst hh; rfl
          case e23 => first | rfl | exact fI (by omega) | (simp_all)
          case r23 => intro h hh; simp [refs] at hh; subst hh; rfl
          case e24 => first | rfl | exact fI (by omega) | (simp_all)
          case r24 => intro h hh; cases hh
          case e25 => first | rfl | exact fI (by omega) | (simp_all)
          case r25 => intro h hh; cases hh

-- impl.marginOk
theorem D_impl_marginOk (a : Int)  : Den Tryz.prog 40 [.s (.int .i64 a)] (.s (.bool (decide (0 ≤ a ∧ a ≤ 1000000)))) := by
  refine den_of_good Tryz.func40 (by decide) rfl (Nat.le_of_ble_eq_true rfl) (Nat.le_of_ble_eq_true rfl) ?_
  refine good_seq fun K1 hK1 => ?_
  refine gr rfl ?_
  refine ea rfl (by conv=>lhs;whnf) ?_
  refine ev_nil (hK1 _ ?_); clear hK1
  refine good_seq fun K2 hK2 => ?_
  refine gr rfl ?_
  refine em rfl (by conv=>lhs;whnf) ?_
  refine ev_q rfl (q_callB rfl rfl (rfl) (D_impl_within ..) ?_)
  intro b3 hb3; cases b3
  · first | replace hb3 := dF hb3 | skip
    refine ea rfl (by conv=>lhs;whnf) ?_
    refine ev_nil (hK2 _ ?_); clear hK2
    refine good_ret ?_
    repeat first|refine thenQ_ret ?_|refine blockQ_ret ?_
    refine ret_tmp (st := _) rfl (by conv=>lhs;whnf) rfl ?_
    first | rfl | exact fT (by first | omega | grind) | exact fF (by first | omega | grind) | exact fT' (by first | omega | grind) | (exfalso; first | omega | grind)
  · first | replace hb3 := dT hb3 | skip
    refine ea rfl (by conv=>lhs;whnf) ?_
    refine ev_nil (hK2 _ ?_); clear hK2
    refine good_ret ?_
    repeat first|refine thenQ_ret ?_|refine blockQ_ret ?_
    refine ret_tmp (st := _) rfl (by conv=>lhs;whnf) rfl ?_
    first | rfl | exact fT (by first | omega | grind) | exact fF (by first | omega | grind) | exact fT' (by first | omega | grind) | (exfalso; first | omega | grind)

-- spec.l11Margin
theorem D_spec_l11Margin (a : Int)  : Den Tryz.prog 30 [.s (.int .i64 a)] (.s (.bool (decide (0 ≤ a ∧ a ≤ 1000000)))) := by
  refine den_of_good Tryz.func30 (by decide) rfl (Nat.le_of_ble_eq_true rfl) (Nat.le_of_ble_eq_true rfl) ?_
  refine good_seq fun K1 hK1 => ?_
  refine gr rfl ?_
  refine ea rfl (by conv=>lhs;whnf) ?_
  refine ev_nil (hK1 _ ?_); clear hK1
  refine good_seq fun K2 hK2 => ?_
  refine gr rfl ?_
  refine em rfl (by conv=>lhs;whnf) ?_
  refine ev_q rfl (q_callB rfl rfl (rfl) (D_spec_l00In ..) ?_)
  intro b3 hb3; cases b3
  · first | replace hb3 := dF hb3 | skip
    refine ea rfl (by conv=>lhs;whnf) ?_
    refine ev_nil (hK2 _ ?_); clear hK2
    refine good_ret ?_
    repeat first|refine thenQ_ret ?_|refine blockQ_ret ?_
    refine ret_tmp (st := _) rfl (by conv=>lhs;whnf) rfl ?_
    first | rfl | exact fT (by first | omega | grind) | exact fF (by first | omega | grind) | exact fT' (by first | omega | grind) | (exfalso; first | omega | grind)
  · first | replace hb3 := dT hb3 | skip
    refine ea rfl (by conv=>lhs;whnf) ?_
    refine ev_nil (hK2 _ ?_); clear hK2
    refine good_ret ?_
    repeat first|refine thenQ_ret ?_|refine blockQ_ret ?_
    refine ret_tmp (st := _) rfl (by conv=>lhs;whnf) rfl ?_
    first | rfl | exact fT (by first | omega | grind) | exact fF (by first | omega | grind) | exact fT' (by first | omega | grind) | (exfalso; first | omega | grind)

-- spec.l02Degrees
theorem D_spec_l02Degrees (a : Int)  : Den Tryz.prog 59 [.s (.int .i64 a)] (.s (.bool (decide (0 ≤ a ∧ a ≤ 18000)))) := by
  refine den_of_good Tryz.func59 (by decide) rfl (Nat.le_of_ble_eq_true rfl) (Nat.le_of_ble_eq_true rfl) ?_
  refine good_seq fun K1 hK1 => ?_
  refine gr rfl ?_
  refine ea rfl (by conv=>lhs;whnf) ?_
  refine ev_nil (hK1 _ ?_); clear hK1
  refine good_seq fun K2 hK2 => ?_
  refine gr rfl ?_
  refine em rfl (by conv=>lhs;whnf) ?_
  refine ev_q rfl (q_callB rfl rfl (rfl) (D_spec_l00In ..) ?_)
  intro b3 hb3; cases b3
  · first | replace hb3 := dF hb3 | skip
    refine ea rfl (by conv=>lhs;whnf) ?_
    refine ev_nil (hK2 _ ?_); clear hK2
    refine good_ret ?_
    repeat first|refine thenQ_ret ?_|refine blockQ_ret ?_
    refine ret_tmp (st := _) rfl (by conv=>lhs;whnf) rfl ?_
    first | rfl | exact fT (by first | omega | grind) | exact fF (by first | omega | grind) | exact fT' (by first | omega | grind) | (exfalso; first | omega | grind)
  · first | replace hb3 := dT hb3 | skip
    refine ea rfl (by conv=>lhs;whnf) ?_
    refine ev_nil (hK2 _ ?_); clear hK2
    refine good_ret ?_
    repeat first|refine thenQ_ret ?_|refine blockQ_ret ?_
    refine ret_tmp (st := _) rfl (by conv=>lhs;whnf) rfl ?_
    first | rfl | exact fT (by first | omega | grind) | exact fF (by first | omega | grind) | exact fT' (by first | omega | grind) | (exfalso; first | omega | grind)

-- spec.l11Warm
theorem D_spec_l11Warm (a : Int)  : Den Tryz.prog 69 [.s (.int .i64 a)] (.s (.bool (decide (0 ≤ a ∧ a ≤ 18000)))) := by
  refine den_of_good Tryz.func69 (by decide) rfl (Nat.le_of_ble_eq_true rfl) (Nat.le_of_ble_eq_true rfl) ?_
  refine good_seq fun K1 hK1 => ?_
  refine gr rfl ?_
  refine ea rfl (by conv=>lhs;whnf) ?_
  refine ev_nil (hK1 _ ?_); clear hK1
  refine good_seq fun K2 hK2 => ?_
  refine gr rfl ?_
  refine em rfl (by conv=>lhs;whnf) ?_
  refine ev_q rfl (q_callB rfl rfl (rfl) (D_spec_l02Degrees ..) ?_)
  intro b3 hb3; cases b3
  · first | replace hb3 := dF hb3 | skip
    refine ea rfl (by conv=>lhs;whnf) ?_
    refine ev_nil (hK2 _ ?_); clear hK2
    refine good_ret ?_
    repeat first|refine thenQ_ret ?_|refine blockQ_ret ?_
    refine ret_tmp (st := _) rfl (by conv=>lhs;whnf) rfl ?_
    first | rfl | exact fT (by first | omega | grind) | exact fF (by first | omega | grind) | exact fT' (by first | omega | grind) | (exfalso; first | omega | grind)
  · first | replace hb3 := dT hb3 | skip
    refine ea rfl (by conv=>lhs;whnf) ?_
    refine ev_nil (hK2 _ ?_); clear hK2
    refine good_ret ?_
    repeat first|refine thenQ_ret ?_|refine blockQ_ret ?_
    refine ret_tmp (st := _) rfl (by conv=>lhs;whnf) rfl ?_
    first | rfl | exact fT (by first | omega | grind) | exact fF (by first | omega | grind) | exact fT' (by first | omega | grind) | (exfalso; first | omega | grind)

theorem blB {x0 y0 x1 y1 x : Int} (h0 : -10000000 ≤ x0 ∧ x0 ≤ 10000000) (h1 : -10000000 ≤ y0 ∧ y0 ≤ 10000000) (h2 : -10000000 ≤ x1 ∧ x1 ≤ 10000000) (h3 : -10000000 ≤ y1 ∧ y1 ≤ 10000000) (h4 : x0 < x) (h5 : x < x1) : (-400000000000000 ≤ (y1 - y0) * (x - x0) ∧ (y1 - y0) * (x - x0) ≤ 400000000000000) ∧ (-400000000000001 ≤ dr ((y1 - y0) * (x - x0)) (x1 - x0) ∧ dr ((y1 - y0) * (x - x0)) (x1 - x0) ≤ 400000000000001) := by
  have a1 := mulS (a := y1 - y0) (b := x - x0) (A := 20000000) (B := 20000000) (by omega) (by omega) (by omega) (by omega)
  have a2 := dr_bound (a := (y1 - y0) * (x - x0)) (b := x1 - x0) (by omega)
  exact ⟨by omega, by omega⟩

-- spec.l01Line
theorem D_spec_l01Line (x0 y0 x1 y1 x : Int) (h0 : -10000000 ≤ x0 ∧ x0 ≤ 10000000) (h1 : -10000000 ≤ y0 ∧ y0 ≤ 10000000) (h2 : -10000000 ≤ x1 ∧ x1 ≤ 10000000) (h3 : -10000000 ≤ y1 ∧ y1 ≤ 10000000) : Den Tryz.prog 119 [.s (.int .i64 x0), .s (.int .i64 y0), .s (.int .i64 x1), .s (.int .i64 y1), .s (.int .i64 x)] (.s (.int .i64 (bl x0 y0 x1 y1 x))) := by
  refine den_of_good Tryz.func119 (by decide) rfl (Nat.le_of_ble_eq_true rfl) (Nat.le_of_ble_eq_true rfl) ?_
  refine good_seq fun K1 hK1 => ?_
  refine gr rfl ?_
  refine ea rfl (by conv=>lhs;whnf) ?_
  refine ev_nil (hK1 _ ?_); clear hK1
  refine good_seq fun K2 hK2 => ?_
  refine good_seq fun K3 hK3 => ?_
  refine gr rfl ?_
  refine em rfl (by conv=>lhs;whnf) ?_
  refine em rfl (by conv=>lhs;whnf) ?_
  refine ei rfl rfl rfl ?_
  intro b4 hb4; cases b4
  · replace hb4 := dF hb4
    refine em rfl (by conv=>lhs;whnf) ?_
    refine em rfl (by conv=>lhs;whnf) ?_
    refine em rfl (by conv=>lhs;whnf) ?_
    refine ei rfl rfl rfl ?_
    intro b5 hb5; cases b5
    · replace hb5 := dF hb5
      refine ev_q rfl (q_pickF rfl (by conv=>lhs;whnf) ?_)
      refine ev_nil (hK3 _ ?_); clear hK3
      refine good_condF rfl ?_
      refine good_skip (hK2 _ ?_); clear hK2
      refine good_seq fun K6 hK6 => ?_
      refine good_seq fun K7 hK7 => ?_
      refine gr rfl ?_
      refine em rfl (by conv=>lhs;whnf) ?_
      refine em rfl (by conv=>lhs;whnf) ?_
      refine ei rfl rfl rfl ?_
      intro b8 hb8; cases b8
      · replace hb8 := dF hb8
        refine ev_nil (hK7 _ ?_); clear hK7
        refine good_condF rfl ?_
        refine good_skip (hK6 _ ?_); clear hK6
        refine good_seq fun K9 hK9 => ?_
        refine gr rfl ?_
        refine em rfl (by conv=>lhs;whnf) ?_
        refine em rfl (by conv=>lhs;whnf) ?_
        refine em rfl (by conv=>lhs;whnf) ?_
        refine ei rfl rfl rfl ?_
        intro n10 hn10
        have hb := blB h0 h1 h2 h3 (x := x) (by omega) (by omega)
        replace hn10 := in64 hn10 (by omega) (by omega)
        refine em rfl (by conv=>lhs;whnf) ?_
        refine em rfl (by conv=>lhs;whnf) ?_
        refine ei rfl rfl rfl ?_
        intro n11 hn11
        replace hn11 := in64 hn11 (by omega) (by omega)
        refine ei rfl rfl rfl ?_
        intro n12 hn12
        rw [hn10, hn11] at hn12
        replace hn12 := in64 hn12 (by omega) (by omega)
        refine em rfl (by conv=>lhs;whnf) ?_
        refine em rfl (by conv=>lhs;whnf) ?_
        refine ei rfl rfl rfl ?_
        intro n13 hn13
        replace hn13 := in64 hn13 (by omega) (by omega)
        refine ev_q rfl (q_callI rfl rfl (rfl) (D_spec_l01Div _ _ (by omega) (by omega)) ?_)
        intro n14 hn14
        rw [hn12, hn13] at hn14
        refine ei rfl rfl rfl ?_
        intro n15 hn15
        replace hn15 := in64 hn15 (by omega) (by omega)
        refine ea rfl (by conv=>lhs;whnf) ?_
        refine ev_nil (hK9 _ ?_); clear hK9
        refine good_ret ?_
        repeat first|refine thenQ_ret ?_|refine blockQ_ret ?_
        refine ret_tmp (st := _) rfl (by conv=>lhs;whnf) rfl ?_
        exact fI (by unfold bl; first | rw [if_pos (by omega)] | rw [if_neg (by omega), if_pos (by omega)] | (rw [if_neg (by omega), if_neg (by omega)]; omega))
      · replace hb8 := dT hb8
        refine ev_nil (hK7 _ ?_); clear hK7
        refine good_condT rfl ?_
        refine good_seq fun K16 hK16 => ?_
        refine gr rfl ?_
        refine em rfl (by conv=>lhs;whnf) ?_
        refine ea rfl (by conv=>lhs;whnf) ?_
        refine ev_nil (hK16 _ ?_); clear hK16
        refine good_ret ?_
        repeat first|refine thenQ_ret ?_|refine blockQ_ret ?_
        refine ret_tmp (st := _) rfl (by conv=>lhs;whnf) rfl ?_
        clear hK6
        exact fI (by unfold bl; first | rw [if_pos (by omega)] | rw [if_neg (by omega), if_pos (by omega)] | (rw [if_neg (by omega), if_neg (by omega)]; omega))
    · replace hb5 := dT hb5
      refine ev_q rfl (q_pickF rfl (by conv=>lhs;whnf) ?_)
      refine ev_nil (hK3 _ ?_); clear hK3
      refine good_condT rfl ?_
      refine good_seq fun K17 hK17 => ?_
      refine gr rfl ?_
      refine em rfl (by conv=>lhs;whnf) ?_
      refine ea rfl (by conv=>lhs;whnf) ?_
      refine ev_nil (hK17 _ ?_); clear hK17
      refine good_ret ?_
      repeat first|refine thenQ_ret ?_|refine blockQ_ret ?_
      refine ret_tmp (st := _) rfl (by conv=>lhs;whnf) rfl ?_
      clear hK2
      exact fI (by unfold bl; first | rw [if_pos (by omega)] | rw [if_neg (by omega), if_pos (by omega)] | (rw [if_neg (by omega), if_neg (by omega)]; omega))
  · replace hb4 := dT hb4
    refine em rfl (by conv=>lhs;whnf) ?_
    refine ev_skip rfl ?_
    refine ev_skip rfl ?_
    refine ev_skip rfl ?_
    refine ev_q rfl (q_pickT rfl (by conv=>lhs;whnf) ?_)
    refine ev_nil (hK3 _ ?_); clear hK3
    refine good_condT rfl ?_
    refine good_seq fun K18 hK18 => ?_
    refine gr rfl ?_
    refine em rfl (by conv=>lhs;whnf) ?_
    refine ea rfl (by conv=>lhs;whnf) ?_
    refine ev_nil (hK18 _ ?_); clear hK18
    refine good_ret ?_
    repeat first|refine thenQ_ret ?_|refine blockQ_ret ?_
    refine ret_tmp (st := _) rfl (by conv=>lhs;whnf) rfl ?_
    clear hK2
    exact fI (by unfold bl; first | rw [if_pos (by omega)] | rw [if_neg (by omega), if_pos (by omega)] | (rw [if_neg (by omega), if_neg (by omega)]; omega))

-- impl.blend
theorem D_impl_blend (x0 y0 x1 y1 x : Int) (h0 : -10000000 ≤ x0 ∧ x0 ≤ 10000000) (h1 : -10000000 ≤ y0 ∧ y0 ≤ 10000000) (h2 : -10000000 ≤ x1 ∧ x1 ≤ 10000000) (h3 : -10000000 ≤ y1 ∧ y1 ≤ 10000000) : Den Tryz.prog 111 [.s (.int .i64 x0), .s (.int .i64 y0), .s (.int .i64 x1), .s (.int .i64 y1), .s (.int .i64 x)] (.s (.int .i64 (bl x0 y0 x1 y1 x))) := by
  refine den_of_good Tryz.func111 (by decide) rfl (Nat.le_of_ble_eq_true rfl) (Nat.le_of_ble_eq_true rfl) ?_
  refine good_seq fun K1 hK1 => ?_
  refine gr rfl ?_
  refine ea rfl (by conv=>lhs;whnf) ?_
  refine ev_nil (hK1 _ ?_); clear hK1
  refine good_seq fun K2 hK2 => ?_
  refine good_block ?_
  refine good_seq fun K3 hK3 => ?_
  refine gr rfl ?_
  refine em rfl (by conv=>lhs;whnf) ?_
  refine em rfl (by conv=>lhs;whnf) ?_
  refine ei rfl rfl rfl ?_
  intro b4 hb4; cases b4
  · replace hb4 := dF hb4
    refine em rfl (by conv=>lhs;whnf) ?_
    refine em rfl (by conv=>lhs;whnf) ?_
    refine em rfl (by conv=>lhs;whnf) ?_
    refine ei rfl rfl rfl ?_
    intro b5 hb5; cases b5
    · replace hb5 := dF hb5
      refine ev_q rfl (q_pickF rfl (by conv=>lhs;whnf) ?_)
      refine ea rfl (by conv=>lhs;whnf) ?_
      refine ev_nil (hK3 _ ?_); clear hK3
      refine good_condF rfl ?_
      refine good_seq fun K6 hK6 => ?_
      refine gr rfl ?_
      refine em rfl (by conv=>lhs;whnf) ?_
      refine em rfl (by conv=>lhs;whnf) ?_
      refine ei rfl rfl rfl ?_
      intro b7 hb7; cases b7
      · replace hb7 := dF hb7
        refine ea rfl (by conv=>lhs;whnf) ?_
        refine ev_nil (hK6 _ ?_); clear hK6
        refine good_condF rfl ?_
        refine good_skip (hK2 _ ?_); clear hK2
        refine good_seq fun K8 hK8 => ?_
        refine gr rfl ?_
        refine em rfl (by conv=>lhs;whnf) ?_
        refine em rfl (by conv=>lhs;whnf) ?_
        refine em rfl (by conv=>lhs;whnf) ?_
        refine ei rfl rfl rfl ?_
        intro n9 hn9
        have hb := blB h0 h1 h2 h3 (x := x) (by omega) (by omega)
        replace hn9 := in64 hn9 (by omega) (by omega)
        refine em rfl (by conv=>lhs;whnf) ?_
        refine em rfl (by conv=>lhs;whnf) ?_
        refine ei rfl rfl rfl ?_
        intro n10 hn10
        replace hn10 := in64 hn10 (by omega) (by omega)
        refine ei rfl rfl rfl ?_
        intro n11 hn11
        rw [hn9, hn10] at hn11
        replace hn11 := in64 hn11 (by omega) (by omega)
        refine em rfl (by conv=>lhs;whnf) ?_
        refine em rfl (by conv=>lhs;whnf) ?_
        refine ei rfl rfl rfl ?_
        intro n12 hn12
        replace hn12 := in64 hn12 (by omega) (by omega)
        refine ev_q rfl (q_callI rfl rfl (rfl) (D_impl_divRound _ _ (by omega) (by omega)) ?_)
        intro n13 hn13
        rw [hn11, hn12] at hn13
        refine ei rfl rfl rfl ?_
        intro n14 hn14
        replace hn14 := in64 hn14 (by omega) (by omega)
        refine ea rfl (by conv=>lhs;whnf) ?_
        refine ev_nil (hK8 _ ?_); clear hK8
        refine good_ret ?_
        repeat first|refine thenQ_ret ?_|refine blockQ_ret ?_
        refine ret_tmp (st := _) rfl (by conv=>lhs;whnf) rfl ?_
        exact fI (by unfold bl; first | rw [if_pos (by omega)] | rw [if_neg (by omega), if_pos (by omega)] | (rw [if_neg (by omega), if_neg (by omega)]; omega))
      · replace hb7 := dT hb7
        refine ea rfl (by conv=>lhs;whnf) ?_
        refine ev_nil (hK6 _ ?_); clear hK6
        refine good_condT rfl ?_
        refine good_seq fun K15 hK15 => ?_
        refine gr rfl ?_
        refine em rfl (by conv=>lhs;whnf) ?_
        refine ea rfl (by conv=>lhs;whnf) ?_
        refine ev_nil (hK15 _ ?_); clear hK15
        refine good_ret ?_
        repeat first|refine thenQ_ret ?_|refine blockQ_ret ?_
        refine ret_tmp (st := _) rfl (by conv=>lhs;whnf) rfl ?_
        clear hK2
        exact fI (by unfold bl; first | rw [if_pos (by omega)] | rw [if_neg (by omega), if_pos (by omega)] | (rw [if_neg (by omega), if_neg (by omega)]; omega))
    · replace hb5 := dT hb5
      refine ev_q rfl (q_pickF rfl (by conv=>lhs;whnf) ?_)
      refine ea rfl (by conv=>lhs;whnf) ?_
      refine ev_nil (hK3 _ ?_); clear hK3
      refine good_condT rfl ?_
      refine good_seq fun K16 hK16 => ?_
      refine gr rfl ?_
      refine em rfl (by conv=>lhs;whnf) ?_
      refine ea rfl (by conv=>lhs;whnf) ?_
      refine ev_nil (hK16 _ ?_); clear hK16
      refine good_ret ?_
      repeat first|refine thenQ_ret ?_|refine blockQ_ret ?_
      refine ret_tmp (st := _) rfl (by conv=>lhs;whnf) rfl ?_
      clear hK2
      exact fI (by unfold bl; first | rw [if_pos (by omega)] | rw [if_neg (by omega), if_pos (by omega)] | (rw [if_neg (by omega), if_neg (by omega)]; omega))
  · replace hb4 := dT hb4
    refine em rfl (by conv=>lhs;whnf) ?_
    refine ev_skip rfl ?_
    refine ev_skip rfl ?_
    refine ev_skip rfl ?_
    refine ev_q rfl (q_pickT rfl (by conv=>lhs;whnf) ?_)
    refine ea rfl (by conv=>lhs;whnf) ?_
    refine ev_nil (hK3 _ ?_); clear hK3
    refine good_condT rfl ?_
    refine good_seq fun K17 hK17 => ?_
    refine gr rfl ?_
    refine em rfl (by conv=>lhs;whnf) ?_
    refine ea rfl (by conv=>lhs;whnf) ?_
    refine ev_nil (hK17 _ ?_); clear hK17
    refine good_ret ?_
    repeat first|refine thenQ_ret ?_|refine blockQ_ret ?_
    refine ret_tmp (st := _) rfl (by conv=>lhs;whnf) rfl ?_
    clear hK2
    exact fI (by unfold bl; first | rw [if_pos (by omega)] | rw [if_neg (by omega), if_pos (by omega)] | (rw [if_neg (by omega), if_neg (by omega)]; omega))

-- sort.Search
theorem D_sort_Search (f : Nat) (caps : List AV) (p : Int → Prop) [DecidablePred p] (n : Nat) (hn : n ≤ 4611686018427387903) (mono : ∀ i j : Nat, i ≤ j → j < n → p i → p j) (hf : ∀ i : Nat, i < n → Den Tryz.prog f (.s (.int .i64 i) :: caps) (.s (.bool (decide (p i))))) : Den Tryz.prog 98 [.s (.int .i64 n), .fn f caps] (.s (.int .i64 (srN p n))) := by
  refine den_of_good Tryz.func98 (by decide) rfl (Nat.le_of_ble_eq_true rfl) (Nat.le_of_ble_eq_true rfl) ?_
  refine good_seq fun K1 hK1 => ?_
  refine gr rfl ?_
  refine ea rfl (by conv=>lhs;whnf) ?_
  refine ev_nil (hK1 _ ?_); clear hK1
  refine good_seq fun K2 hK2 => ?_
  refine gr rfl ?_
  refine em rfl (by conv=>lhs;whnf) ?_
  refine ea rfl (by conv=>lhs;whnf) ?_
  refine ea rfl (by conv=>lhs;whnf) ?_
  refine ev_nil (hK2 _ ?_); clear hK2
  refine good_seq fun K3 hK3 => ?_
  refine good_block ?_
  refine good_loop (α := Nat × Nat) (fun (i, j) => { env := upd (upd (upd ((fun _ => .junk)) 1 (.fn f caps)) 5 (.s (.int .i64 i))) 6 (.s (.int .i64 j)), H := fun _ => none }) (fun (i, j) => i ≤ j ∧ j ≤ n ∧ (∀ k : Nat, k < i → ¬ p k) ∧ (∀ k : Nat, j ≤ k → k < n → p k)) (fun (i, j) => j - i) (0, n) ?_ ?_ ?_
  · exact ⟨Nat.zero_le _, Nat.le_refl _, fun k h => absurd h (Nat.not_lt_zero _), fun k h1 h2 => absurd h1 (Nat.not_le_of_lt h2)⟩
  · refine sub_weak ?_ ?_
    · exact weakH_none _
    · refine weakE_upd ?e6 ?r6 (weakE_upd ?e5 ?r5 (weakE_upd ?e1 ?r1 (weakE_junk _ _)))
      case e1 => first | rfl | exact fI (by omega) | (simp_all)
      case r1 => intro h hh; cases hh
      case e5 => first | rfl | exact fI (by omega) | (simp_all)
      case r5 => intro h hh; cases hh
      case e6 => first | rfl | exact fI (by omega) | (simp_all)
      case r6 => intro h hh; cases hh
  · rintro ⟨i, j⟩ ⟨hI1, hI2, hI3, hI4⟩
    refine good_seq fun K4 hK4 => ?_
    refine good_seq fun K5 hK5 => ?_
    refine gr rfl ?_
    refine em rfl (by conv=>lhs;whnf) ?_
    refine em rfl (by conv=>lhs;whnf) ?_
    refine ei rfl rfl rfl ?_
    intro b6 hb6; cases b6
    · replace hb6 := dF hb6
      refine ev_nil (hK5 _ ?_); clear hK5
      refine good_condF rfl ?_
      refine good_exit ?_
      repeat first|refine thenQ_exit ?_|refine blockQ_pass rfl ?_
      refine blockQ_exit (hK3 _ ?_); clear hK3
      refine good_seq fun K7 hK7 => ?_
      refine gr rfl ?_
      refine em rfl (by conv=>lhs;whnf) ?_
      refine ea rfl (by conv=>lhs;whnf) ?_
      refine ev_nil (hK7 _ ?_); clear hK7
      refine good_ret ?_
      repeat first|refine thenQ_ret ?_|refine blockQ_ret ?_
      refine ret_tmp (st := _) rfl (by conv=>lhs;whnf) rfl ?_
      clear hK4
      exact fI (by rw [srN_uniq (p := p) (n := n) (k := i) (by omega) hI3 (fun h => hI4 i (by omega) h)])
    · replace hb6 := dT hb6
      refine ev_nil (hK5 _ ?_); clear hK5
      refine good_condT rfl ?_
      refine good_skip (hK4 _ ?_); clear hK4
      refine good_block ?_
      refine good_seq fun K8 hK8 => ?_
      refine gr rfl ?_
      refine em rfl (by conv=>lhs;whnf) ?_
      refine em rfl (by conv=>lhs;whnf) ?_
      refine ei rfl rfl rfl ?_
      intro n9 hn9
      replace hn9 := in64 hn9 (by omega) (by omega)
      refine ev_q rfl (q_conv tK3 tK125 rfl ?_)
      intro n10 hn10
      replace hn10 := wrapU hn10 (by omega) (by omega)
      refine ev_q rfl (q_shr rfl rfl ⟨by omega, ?_⟩)
      intro n11 hn11
      replace hn11 := shr1 hn11 (by omega)
      refine ev_q rfl (q_conv tK125 tK3 rfl ?_)
      intro n12 hn12
      replace hn12 := in64 hn12 (by omega) (by omega)
      obtain ⟨k, hk⟩ : ∃ k : Nat, n12 = (k : Int) := ⟨n12.toNat, by omega⟩
      subst hk
      have hkj : i ≤ k ∧ k < j := by omega
      refine ea rfl (by conv=>lhs;whnf) ?_
      refine ev_nil (hK8 _ ?_); clear hK8
      refine good_seq fun K13 hK13 => ?_
      refine gr rfl ?_
      refine em rfl (by conv=>lhs;whnf) ?_
      refine em rfl (by conv=>lhs;whnf) ?_
      refine ev_q rfl (q_callB rfl rfl (rfl) (hf _ (by omega)) ?_)
      intro b14 hb14; cases b14
      · first | replace hb14 := dF hb14 | skip
        refine ev_q rfl (q_not rfl rfl ?_)
        refine ev_nil (hK13 _ ?_); clear hK13
        refine good_condT rfl ?_
        refine gr rfl ?_
        refine em rfl (by conv=>lhs;whnf) ?_
        refine ei rfl rfl rfl ?_
        intro n15 hn15
        replace hn15 := in64 hn15 (by omega) (by omega)
        refine ea rfl (by conv=>lhs;whnf) ?_
        refine ev_nil ?_
        clear hK3
        refine ⟨(k + 1, j), ?_, ?_, ?_⟩
        · exact ⟨(show k + 1 ≤ j by omega), hI2, fun q hq hp => absurd (mono q k (Nat.le_of_lt_succ hq) (by omega) hp) (by assumption), hI4⟩
        · first | (show j - (k + 1) < j - i; omega) | (show k - i < j - i; omega)
        · refine sub_weak ?_ ?_
          · exact weakH_none _
          · refine weakE_upd ?e6 ?r6 (weakE_upd ?e5 ?r5 (weakE_upd ?e1 ?r1 (weakE_junk _ _)))
            case e1 => first | rfl | exact fI (by omega) | (simp_all)
            case r1 => intro h hh; cases hh
            case e5 => first | rfl | exact fI (by omega) | (simp_all)
            case r5 => intro h hh; cases hh
            case e6 => first | rfl | exact fI (by omega) | (simp_all)
            case r6 => intro h hh; cases hh
      · first | replace hb14 := dT hb14 | skip
        refine ev_q rfl (q_not rfl rfl ?_)
        refine ev_nil (hK13 _ ?_); clear hK13
        refine good_condF rfl ?_
        refine gr rfl ?_
        refine em rfl (by conv=>lhs;whnf) ?_
        refine ea rfl (by conv=>lhs;whnf) ?_
        refine ev_nil ?_
        clear hK3
        refine ⟨(i, k), ?_, ?_, ?_⟩
        · exact ⟨hkj.1, (show k ≤ n by omega), hI3, fun q hq hqn => mono k q hq hqn (by assumption)⟩
        · first | (show j - (k + 1) < j - i; omega) | (show k - i < j - i; omega)
        · refine sub_weak ?_ ?_
          · exact weakH_none _
          · refine weakE_upd ?e6 ?r6 (weakE_upd ?e5 ?r5 (weakE_upd ?e1 ?r1 (weakE_junk _ _)))
            case e1 => first | rfl | exact fI (by omega) | (simp_all)
            case r1 => intro h hh; cases hh
            case e5 => first | rfl | exact fI (by omega) | (simp_all)
            case r5 => intro h hh; cases hh
            case e6 => first | rfl | exact fI (by omega) | (simp_all)
            case r6 => intro h hh; cases hh

-- impl.firstIn$1
theorem D_impl_firstIn_1 (f : Nat) (caps : List AV) (p : Int → Prop) [DecidablePred p] (i lo : Int) (h1 : -4000000000000 ≤ i ∧ i ≤ 4000000000000) (h2 : -1000000000000 ≤ lo ∧ lo ≤ 1000000000000) (hf : Den Tryz.prog f (.s (.int .i64 (lo + i)) :: caps) (.s (.bool (decide (p (lo + i)))))) : Den Tryz.prog 99 [.s (.int .i64 i), .rp [.fn f caps], .rp [.s (.int .i64 lo)]] (.s (.bool (decide (p (lo + i))))) := by
  refine den_of_good Tryz.func99 (by decide) rfl (Nat.le_of_ble_eq_true rfl) (Nat.le_of_ble_eq_true rfl) ?_
  refine good_seq fun K1 hK1 => ?_
  refine gr rfl ?_
  refine ea rfl (by conv=>lhs;whnf) ?_
  refine ev_nil (hK1 _ ?_); clear hK1
  refine good_seq fun K2 hK2 => ?_
  refine gr rfl ?_
  refine ev_q rfl (q_load tA58 rfl ?_)
  refine ev_q rfl (q_load tA2 rfl ?_)
  refine em rfl (by conv=>lhs;whnf) ?_
  refine ei rfl rfl rfl ?_
  intro n3 hn3
  replace hn3 := in64 hn3 (by omega) (by omega)
  subst hn3
  refine ev_q rfl (q_callB rfl rfl (rfl) hf ?_)
  intro b4 hb4; cases b4
  · first | replace hb4 := dF hb4 | skip
    refine ea rfl (by conv=>lhs;whnf) ?_
    refine ev_nil (hK2 _ ?_); clear hK2
    refine good_ret ?_
    repeat first|refine thenQ_ret ?_|refine blockQ_ret ?_
    refine ret_tmp (st := _) rfl (by conv=>lhs;whnf) rfl ?_
    first | exact fT (by assumption) | exact fF (by assumption)
  · first | replace hb4 := dT hb4 | skip
    refine ea rfl (by conv=>lhs;whnf) ?_
    refine ev_nil (hK2 _ ?_); clear hK2
    refine good_ret ?_
    repeat first|refine thenQ_ret ?_|refine blockQ_ret ?_
    refine ret_tmp (st := _) rfl (by conv=>lhs;whnf) rfl ?_
    first | exact fT (by assumption) | exact fF (by assumption)

-- impl.firstIn
theorem D_impl_firstIn (f : Nat) (caps : List AV) (p : Int → Prop) [DecidablePred p] (lo hi : Int) (h1 : -1000000000000 ≤ lo ∧ lo ≤ 1000000000000) (h2 : -1000000000000 ≤ hi ∧ hi ≤ 1000000000000) (h3 : lo ≤ hi + 1) (mono : ∀ a b : Int, lo ≤ a → a ≤ b → b ≤ hi → p a → p b) (hf : ∀ a : Int, lo ≤ a → a ≤ hi → Den Tryz.prog f (.s (.int .i64 a) :: caps) (.s (.bool (decide (p a))))) : Den Tryz.prog 56 [.s (.int .i64 lo), .s (.int .i64 hi), .fn f caps] (.tup [.s (.int .i64 (lst p lo hi)), .s (.bool (decide (lst p lo hi ≤ hi)))]) := by
  have hs := lst_spec p h3
  obtain ⟨m, hm⟩ : ∃ m : Nat, hi - lo + 1 = (m : Int) := ⟨(hi - lo + 1).toNat, by omega⟩
  have hm2 : (hi - lo + 1).toNat = m := by omega
  have hl : lst p lo hi = lo + srN (fun i => p (lo + i)) m := by unfold lst; rw [hm2]
  refine den_of_good Tryz.func56 (by decide) rfl (Nat.le_of_ble_eq_true rfl) (Nat.le_of_ble_eq_true rfl) ?_
  refine good_seq fun K1 hK1 => ?_
  refine gr rfl ?_
  refine ev_k rfl (k_box (by conv=>lhs;whnf) rfl rfl rfl ?_)
  refine ev_k rfl (k_box (by conv=>lhs;whnf) rfl rfl rfl ?_)
  refine ea rfl (by conv=>lhs;whnf) ?_
  refine ea rfl (by conv=>lhs;whnf) ?_
  refine ev_nil (hK1 _ ?_); clear hK1
  refine good_seq fun K2 hK2 => ?_
  refine gr rfl ?_
  refine em rfl (by conv=>lhs;whnf) ?_
  refine ev_q rfl (q_load tA2 rfl ?_)
  refine ei rfl rfl rfl ?_
  intro n3 hn3
  replace hn3 := in64 hn3 (by omega) (by omega)
  refine ei rfl rfl rfl ?_
  intro n4 hn4
  replace hn4 := in64 hn4 (by omega) (by omega)
  rw [hn3, hm] at hn4
  subst hn4
  refine ea rfl (by conv=>lhs;whnf) ?_
  refine ev_nil (hK2 _ ?_); clear hK2
  refine good_seq fun K5 hK5 => ?_
  refine gr rfl ?_
  refine em rfl (by conv=>lhs;whnf) ?_
  refine ev_q rfl (q_clo rfl rfl ?_)
  refine ev_q rfl (q_callI rfl rfl (rfl) (D_sort_Search _ _ (fun i => p (lo + i)) m (by omega) (fun i j h1 h2 h3 => mono _ _ (by omega) (by omega) (by omega) h3) (fun i h => D_impl_firstIn_1 f caps p i lo (by omega) (by omega) (hf _ (by omega) (by omega)))) ?_)
  intro n6 hn6
  refine ea rfl (by conv=>lhs;whnf) ?_
  refine ev_nil (hK5 _ ?_); clear hK5
  refine good_seq fun K7 hK7 => ?_
  refine gr rfl ?_
  refine ev_q rfl (q_load tA2 rfl ?_)
  refine em rfl (by conv=>lhs;whnf) ?_
  refine ei rfl rfl rfl ?_
  intro n8 hn8
  replace hn8 := in64 hn8 (by omega) (by omega)
  refine em rfl (by conv=>lhs;whnf) ?_
  refine em rfl (by conv=>lhs;whnf) ?_
  refine ei rfl rfl rfl ?_
  intro b9 hb9; cases b9
  · replace hb9 := dF hb9
    refine ea rfl (by conv=>lhs;whnf) ?_
    refine ea rfl (by conv=>lhs;whnf) ?_
    refine ev_nil (hK7 _ ?_); clear hK7
    refine good_ret ?_
    repeat first|refine thenQ_ret ?_|refine blockQ_ret ?_
    refine ret_many rfl ?_
    refine res_tmp (by conv=>lhs;whnf) rfl ?_
    refine res_tmp (by conv=>lhs;whnf) rfl ?_
    refine res_nil ?_
    exact fTup1 (by first | rfl | exact fI (by first | omega | grind) | (exfalso; first | omega | grind)) (fTup1 (by first | rfl | exact fT (by first | omega | grind) | exact fF (by first | omega | grind) | exact fT' (by first | omega | grind) | (exfalso; first | omega | grind)) (rfl))
  · replace hb9 := dT hb9
    refine ea rfl (by conv=>lhs;whnf) ?_
    refine ea rfl (by conv=>lhs;whnf) ?_
    refine ev_nil (hK7 _ ?_); clear hK7
    refine good_ret ?_
    repeat first|refine thenQ_ret ?_|refine blockQ_ret ?_
    refine ret_many rfl ?_
    refine res_tmp (by conv=>lhs;whnf) rfl ?_
    refine res_tmp (by conv=>lhs;whnf) rfl ?_
    refine res_nil ?_
    exact fTup1 (by first | rfl | exact fI (by first | omega | grind) | (exfalso; first | omega | grind)) (fTup1 (by first | rfl | exact fT (by first | omega | grind) | exact fF (by first | omega | grind) | exact fT' (by first | omega | grind) | (exfalso; first | omega | grind)) (rfl))

-- spec.l02Blend
theorem D_spec_l02Blend (x : Int) (hx : -10000000 ≤ x ∧ x ≤ 10000000) : Den Tryz.prog 113 [.lst 1 (tP.map ci), .lst 1 (tV.map ci), .s (.int .i64 x)] (.s (.int .i64 (boil x))) := by
  have hlP : tP.length = 10 := rfl
  have hlV : tV.length = 10 := rfl
  refine den_of_good Tryz.func113 (by decide) rfl (Nat.le_of_ble_eq_true rfl) (Nat.le_of_ble_eq_true rfl) ?_
  refine good_seq fun K1 hK1 => ?_
  refine gr rfl ?_
  refine ea rfl (by conv=>lhs;whnf) ?_
  refine ev_nil (hK1 _ ?_); clear hK1
  refine good_seq fun K2 hK2 => ?_
  refine gr rfl ?_
  refine ea rfl (by conv=>lhs;whnf) ?_
  refine ev_nil (hK2 _ ?_); clear hK2
  refine good_seq fun K3 hK3 => ?_
  refine good_block ?_
  refine good_loop (α := Nat) (fun i => { env := upd (upd (upd (upd ((fun _ => .junk)) 0 (.lst 1 (tP.map ci))) 1 (.lst 1 (tV.map ci))) 2 (.s (.int .i64 x))) 7 (.s (.int .i64 i)), H := fun _ => none }) (fun i => (1 ≤ i ∧ i ≤ 9) ∧ (i = 1 ∨ ∃ q : Int, tP[i - 1]? = some q ∧ q < x)) (fun i => 9 - i) 1 ?_ ?_ ?_
  · exact ⟨by omega, .inl rfl⟩
  · refine sub_weak ?_ ?_
    · exact weakH_none _
    · refine weakE_upd ?e7 ?r7 (weakE_upd ?e2 ?r2 (weakE_upd ?e1 ?r1 (weakE_upd ?e0 ?r0 (weakE_junk _ _))))
      case e0 => first | rfl | exact fI (by omega) | (simp_all)
      case r0 => intro h hh; cases hh
      case e1 => first | rfl | exact fI (by omega) | (simp_all)
      case r1 => intro h hh; cases hh
      case e2 => first | rfl | exact fI (by omega) | (simp_all)
      case r2 => intro h hh; cases hh
      case e7 => first | rfl | exact fI (by omega) | (simp_all)
      case r7 => intro h hh; cases hh
  · rintro i ⟨hI, hJ⟩
    refine good_seq fun K4 hK4 => ?_
    refine good_seq fun K5 hK5 => ?_
    refine gr rfl ?_
    refine em rfl (by conv=>lhs;whnf) ?_
    refine em rfl (by conv=>lhs;whnf) ?_
    refine ev_q rfl (q_len tEs22 rfl ?_)
    intro n6 hn6
    try simp only [List.length_map] at hn6
    refine ei rfl rfl rfl ?_
    intro n7 hn7
    replace hn7 := in64 hn7 (by omega) (by omega)
    refine ei rfl rfl rfl ?_
    intro b8 hb8; cases b8
    · replace hb8 := dF hb8
      refine em rfl (by conv=>lhs;whnf) ?_
      refine ev_skip rfl ?_
      refine ev_skip rfl ?_
      refine ev_skip rfl ?_
      refine ev_skip rfl ?_
      refine ev_skip rfl ?_
      refine ev_skip rfl ?_
      refine ev_q rfl (q_pickF rfl (by conv=>lhs;whnf) ?_)
      refine ev_nil (hK5 _ ?_); clear hK5
      refine good_condF rfl ?_
      refine good_exit ?_
      repeat first|refine thenQ_exit ?_|refine blockQ_pass rfl ?_
      refine blockQ_exit (hK3 _ ?_); clear hK3
      refine good_seq fun K9 hK9 => ?_
      refine good_draw 21 hmix (by kernel_rfl) rfl ?_
      refine qm rfl (by conv=>lhs;whnf) ?_
      refine qm rfl (by conv=>lhs;whnf) ?_
      refine qo_q rfl (q_int rfl rfl ?_)
      intro n10 hn10
      replace hn10 := in64 hn10 (by omega) (by omega)
      obtain ⟨p, hp⟩ := getL (xs := tP) (n := (i : Int)) (by omega) (by omega)
      obtain ⟨a, ha⟩ := getL (xs := tP) (n := n10) (by omega) (by omega)
      refine qo_q rfl (q_idx tE22 rfl rfl (by omega) (by exact map_get ha) rfl ?_)
      refine qo_q rfl (q_load tA2 rfl ?_)
      refine qm rfl (by conv=>lhs;whnf) ?_
      refine qm rfl (by conv=>lhs;whnf) ?_
      refine qo_q rfl (q_int rfl rfl ?_)
      intro n11 hn11
      replace hn11 := in64 hn11 (by omega) (by omega)
      obtain ⟨b, hb⟩ := getL (xs := tV) (n := n11) (by omega) (by omega)
      refine qo_q rfl (q_idx tE22 rfl rfl (by omega) (by exact map_get hb) rfl ?_)
      refine qo_q rfl (q_load tA2 rfl ?_)
      refine qm rfl (by conv=>lhs;whnf) ?_
      refine qm rfl (by conv=>lhs;whnf) ?_
      refine qo_q rfl (q_idx tE22 rfl rfl (by exact Int.natCast_nonneg _) (by exact map_get hp) rfl ?_)
      refine qo_q rfl (q_load tA2 rfl ?_)
      refine qm rfl (by conv=>lhs;whnf) ?_
      refine qm rfl (by conv=>lhs;whnf) ?_
      obtain ⟨d, hd⟩ := getL (xs := tV) (n := (i : Int)) (by omega) (by omega)
      have ba := tP_bd ha
      have bb := tV_bd hb
      have bp := tP_bd hp
      have bd := tV_bd hd
      refine qo_q rfl (q_idx tE22 rfl rfl (by exact Int.natCast_nonneg _) (by exact map_get hd) rfl ?_)
      refine qo_q rfl (q_load tA2 rfl ?_)
      refine qm rfl (by conv=>lhs;whnf) ?_
      refine qo_q rfl (q_callI rfl rfl (rfl) (D_spec_l01Line _ _ _ _ _ (by omega) (by omega) (by omega) (by omega)) ?_)
      intro n12 hn12
      refine qa rfl (by conv=>lhs;whnf) ?_
      refine qo_nil ?_
      refine ev_nil (hK9 _ ?_); clear hK9
      refine good_ret ?_
      repeat first|refine thenQ_ret ?_|refine blockQ_ret ?_
      refine ret_tmp (st := _) rfl (by conv=>lhs;whnf) rfl ?_
      clear hK4
      exact fI (by rw [hn12]; exact boil_at (i := i - 1) (by omega) (by rw [← ha]; congr 1; omega) (by rw [← hb]; congr 1; omega) (by rw [← hp]; congr 1; omega) (by rw [← hd]; congr 1; omega) (by rcases hJ with h | ⟨q, hq, hl⟩; exact .inl (by omega); exact .inr (by have e : tP[i - 1]? = some a := (by rw [← ha]; congr 1; omega); rw [e] at hq; cases hq; exact hl)) (by first | exact .inl (by omega) | exact .inr (by have e : some p = some q0 := hp.symm.trans hq0; cases e; omega)))
    · replace hb8 := dT hb8
      refine em rfl (by conv=>lhs;whnf) ?_
      refine em rfl (by conv=>lhs;whnf) ?_
      refine em rfl (by conv=>lhs;whnf) ?_
      refine em rfl (by conv=>lhs;whnf) ?_
      obtain ⟨q0, hq0⟩ := getL (xs := tP) (n := (i : Int)) (by omega) (by omega)
      refine ev_q rfl (q_idx tE22 rfl rfl (by exact Int.natCast_nonneg _) (by exact map_get hq0) rfl ?_)
      refine ev_q rfl (q_load tA2 rfl ?_)
      refine ei rfl rfl rfl ?_
      intro b13 hb13; cases b13
      · replace hb13 := dF hb13
        refine ev_q rfl (q_pickT rfl (by conv=>lhs;whnf) ?_)
        refine ev_nil (hK5 _ ?_); clear hK5
        refine good_condF rfl ?_
        refine good_exit ?_
        repeat first|refine thenQ_exit ?_|refine blockQ_pass rfl ?_
        refine blockQ_exit (hK3 _ ?_); clear hK3
        refine good_seq fun K14 hK14 => ?_
        refine good_draw 21 hmix (by kernel_rfl) rfl ?_
        refine qm rfl (by conv=>lhs;whnf) ?_
        refine qm rfl (by conv=>lhs;whnf) ?_
        refine qo_q rfl (q_int rfl rfl ?_)
        intro n15 hn15
        replace hn15 := in64 hn15 (by omega) (by omega)
        obtain ⟨p, hp⟩ := getL (xs := tP) (n := (i : Int)) (by omega) (by omega)
        obtain ⟨a, ha⟩ := getL (xs := tP) (n := n15) (by omega) (by omega)
        refine qo_q rfl (q_idx tE22 rfl rfl (by omega) (by exact map_get ha) rfl ?_)
        refine qo_q rfl (q_load tA2 rfl ?_)
        refine qm rfl (by conv=>lhs;whnf) ?_
        refine qm rfl (by conv=>lhs;whnf) ?_
        refine qo_q rfl (q_int rfl rfl ?_)
        intro n16 hn16
        replace hn16 := in64 hn16 (by omega) (by omega)
        obtain ⟨b, hb⟩ := getL (xs := tV) (n := n16) (by omega) (by omega)
        refine qo_q rfl (q_idx tE22 rfl rfl (by omega) (by exact map_get hb) rfl ?_)
        refine qo_q rfl (q_load tA2 rfl ?_)
        refine qm rfl (by conv=>lhs;whnf) ?_
        refine qm rfl (by conv=>lhs;whnf) ?_
        refine qo_q rfl (q_idx tE22 rfl rfl (by exact Int.natCast_nonneg _) (by exact map_get hp) rfl ?_)
        refine qo_q rfl (q_load tA2 rfl ?_)
        refine qm rfl (by conv=>lhs;whnf) ?_
        refine qm rfl (by conv=>lhs;whnf) ?_
        obtain ⟨d, hd⟩ := getL (xs := tV) (n := (i : Int)) (by omega) (by omega)
        have ba := tP_bd ha
        have bb := tV_bd hb
        have bp := tP_bd hp
        have bd := tV_bd hd
        refine qo_q rfl (q_idx tE22 rfl rfl (by exact Int.natCast_nonneg _) (by exact map_get hd) rfl ?_)
        refine qo_q rfl (q_load tA2 rfl ?_)
        refine qm rfl (by conv=>lhs;whnf) ?_
        refine qo_q rfl (q_callI rfl rfl (rfl) (D_spec_l01Line _ _ _ _ _ (by omega) (by omega) (by omega) (by omega)) ?_)
        intro n17 hn17
        refine qa rfl (by conv=>lhs;whnf) ?_
        refine qo_nil ?_
        refine ev_nil (hK14 _ ?_); clear hK14
        refine good_ret ?_
        repeat first|refine thenQ_ret ?_|refine blockQ_ret ?_
        refine ret_tmp (st := _) rfl (by conv=>lhs;whnf) rfl ?_
        clear hK4
        exact fI (by rw [hn17]; exact boil_at (i := i - 1) (by omega) (by rw [← ha]; congr 1; omega) (by rw [← hb]; congr 1; omega) (by rw [← hp]; congr 1; omega) (by rw [← hd]; congr 1; omega) (by rcases hJ with h | ⟨q, hq, hl⟩; exact .inl (by omega); exact .inr (by have e : tP[i - 1]? = some a := (by rw [← ha]; congr 1; omega); rw [e] at hq; cases hq; exact hl)) (by first | exact .inl (by omega) | exact .inr (by have e : some p = some q0 := hp.symm.trans hq0; cases e; omega)))
      · replace hb13 := dT hb13
        refine ev_q rfl (q_pickT rfl (by conv=>lhs;whnf) ?_)
        refine ev_nil (hK5 _ ?_); clear hK5
        refine good_condT rfl ?_
        refine good_skip (hK4 _ ?_); clear hK4
        refine good_block ?_
        refine gr rfl ?_
        refine em rfl (by conv=>lhs;whnf) ?_
        refine ei rfl rfl rfl ?_
        intro n18 hn18
        replace hn18 := in64 hn18 (by omega) (by omega)
        refine ea rfl (by conv=>lhs;whnf) ?_
        refine ev_nil ?_
        clear hK3
        refine ⟨i + 1, ?_, ?_, ?_⟩
        · exact ⟨by omega, .inr ⟨q0, hq0, by omega⟩⟩
        · first | omega | (simp only []; omega) | (dsimp only; omega)
        · refine sub_weak ?_ ?_
          · exact weakH_none _
          · refine weakE_upd ?e7 ?r7 (weakE_upd ?e2 ?r2 (weakE_upd ?e1 ?r1 (weakE_upd ?e0 ?r0 (weakE_junk _ _))))
            case e0 => first | rfl | exact fI (by omega) | (simp_all)
            case r0 => intro h hh; cases hh
            case e1 => first | rfl | exact fI (by omega) | (simp_all)
            case r1 => intro h hh; cases hh
            case e2 => first | rfl | exact fI (by omega) | (simp_all)
            case r2 => intro h hh; cases hh
            case e7 => first | rfl | exact fI (by omega) | (simp_all)
            case r7 => intro h hh; cases hh

-- spec.l02Boiling
theorem D_spec_l02Boiling (x : Int) (hx : -10000000 ≤ x ∧ x ≤ 10000000) : Den Tryz.prog 100 [.s (.int .i64 x)] (.s (.int .i64 (boil x))) := by
  refine den_of_good Tryz.func100 (by decide) rfl (Nat.le_of_ble_eq_true rfl) (Nat.le_of_ble_eq_true rfl) ?_
  refine good_seq fun K1 hK1 => ?_
  refine gr rfl ?_
  refine ea rfl (by conv=>lhs;whnf) ?_
  refine ev_nil (hK1 _ ?_); clear hK1
  refine good_seq fun K2 hK2 => ?_
  refine gr rfl ?_
  refine ev_k rfl (k_lit tE22 zA2 rfl rfl (by decide) (by decide) rfl rfl rfl ?_)
  refine ea rfl (by conv=>lhs;whnf) ?_
  refine ev_nil (hK2 _ ?_); clear hK2
  refine good_seq fun K3 hK3 => ?_
  refine gr rfl ?_
  refine ev_k rfl (k_lit tE22 zA2 rfl rfl (by decide) (by decide) rfl rfl rfl ?_)
  refine ea rfl (by conv=>lhs;whnf) ?_
  refine ev_nil (hK3 _ ?_); clear hK3
  refine good_seq fun K4 hK4 => ?_
  refine gr rfl ?_
  refine em rfl (by conv=>lhs;whnf) ?_
  refine em rfl (by conv=>lhs;whnf) ?_
  refine em rfl (by conv=>lhs;whnf) ?_
  refine ev_q rfl (q_callI rfl rfl (rfl) (D_spec_l02Blend x hx) ?_)
  intro n5 hn5
  refine ea rfl (by conv=>lhs;whnf) ?_
  refine ev_nil (hK4 _ ?_); clear hK4
  refine good_ret ?_
  repeat first|refine thenQ_ret ?_|refine blockQ_ret ?_
  refine ret_tmp (st := _) rfl (by conv=>lhs;whnf) rfl ?_
  first | rfl | exact fI (by first | omega | grind) | (exfalso; first | omega | grind)

-- impl.boilingAt
theorem D_impl_boilingAt (x : Int) (hx : -10000000 ≤ x ∧ x ≤ 10000000) : Den Tryz.prog 89 [.s (.int .i64 x)] (.s (.int .i64 (boil x))) := by
  have hlP : tP.length = 10 := rfl
  have hlV : tV.length = 10 := rfl
  refine den_of_good Tryz.func89 (by decide) rfl (Nat.le_of_ble_eq_true rfl) (Nat.le_of_ble_eq_true rfl) ?_
  refine good_seq fun K1 hK1 => ?_
  refine gr rfl ?_
  refine ea rfl (by conv=>lhs;whnf) ?_
  refine ev_nil (hK1 _ ?_); clear hK1
  refine good_seq fun K2 hK2 => ?_
  refine gr rfl ?_
  refine ev_k rfl (k_build (cs := [.s (.int .i64 1000), .s (.int .i64 700)]) zA121 pl121 (rfl) ?_)
  refine ev_k rfl (k_build (cs := [.s (.int .i64 2000), .s (.int .i64 1750)]) zA121 pl121 (rfl) ?_)
  refine ev_k rfl (k_build (cs := [.s (.int .i64 10000), .s (.int .i64 4580)]) zA121 pl121 (rfl) ?_)
  refine ev_k rfl (k_build (cs := [.s (.int .i64 50000), .s (.int .i64 8135)]) zA121 pl121 (rfl) ?_)
  refine ev_k rfl (k_build (cs := [.s (.int .i64 101325), .s (.int .i64 9961)]) zA121 pl121 (rfl) ?_)
  refine ev_k rfl (k_build (cs := [.s (.int .i64 200000), .s (.int .i64 12023)]) zA121 pl121 (rfl) ?_)
  refine ev_k rfl (k_build (cs := [.s (.int .i64 400000), .s (.int .i64 14361)]) zA121 pl121 (rfl) ?_)
  refine ev_k rfl (k_build (cs := [.s (.int .i64 600000), .s (.int .i64 15883)]) zA121 pl121 (rfl) ?_)
  refine ev_k rfl (k_build (cs := [.s (.int .i64 1000000), .s (.int .i64 17988)]) zA121 pl121 (rfl) ?_)
  refine ev_k rfl (k_build (cs := [.s (.int .i64 1200000), .s (.int .i64 18796)]) zA121 pl121 (rfl) ?_)
  refine ev_k rfl (k_build (cs := boilC) zA122 pl122 (by kernel_rfl) ?_)
  refine ev_k rfl (k_alloc zA122 rfl ?_)
  refine ev_k rfl (k_store sz122 rfl (by conv=>lhs;whnf) rfl rfl rfl (Nat.le_of_ble_eq_true rfl) rfl ?_)
  refine ev_nil (hK2 _ ?_); clear hK2
  refine good_seq fun K3 hK3 => ?_
  refine gr rfl ?_
  refine ea rfl (by conv=>lhs;whnf) ?_
  refine ev_nil (hK3 _ ?_); clear hK3
  refine good_seq fun K4 hK4 => ?_
  refine good_block ?_
  refine good_loop (α := Nat) (fun i => { env := upd (upd (upd ((fun _ => .junk)) 0 (.s (.int .i64 x))) 3 (.ptr 3 0)) 4 (.s (.int .i64 i)), H := upd ((fun _ => none)) 3 (some (.box 122 boilC)) }) (fun i => i ≤ 8 ∧ (i = 0 ∨ ∃ q : Int, tP[i]? = some q ∧ q ≤ x)) (fun i => 8 - i) 0 ?_ ?_ ?_
  · exact ⟨by omega, .inl rfl⟩
  · refine sub_weak ?_ ?_
    · exact weakH_box (boxEq (rfl)) rfl (weakH_none _)
    · refine weakE_upd ?e4 ?r4 (weakE_upd ?e3 ?r3 (weakE_upd ?e0 ?r0 (weakE_junk _ _)))
      case e0 => first | rfl | exact fI (by omega) | (simp_all)
      case r0 => intro h hh; cases hh
      case e3 => first | rfl | exact fI (by omega) | (simp_all)
      case r3 => intro h hh; simp [refs] at hh; subst hh; rfl
      case e4 => first | rfl | exact fI (by omega) | (simp_all)
      case r4 => intro h hh; cases hh
  · rintro i ⟨hI, hJ⟩
    refine good_seq fun K5 hK5 => ?_
    refine good_seq fun K6 hK6 => ?_
    refine gr rfl ?_
    refine em rfl (by conv=>lhs;whnf) ?_
    refine ei rfl rfl rfl ?_
    intro b7 hb7; cases b7
    · replace hb7 := dF hb7
      refine em rfl (by conv=>lhs;whnf) ?_
      refine ev_skip rfl ?_
      refine ev_skip rfl ?_
      refine ev_skip rfl ?_
      refine ev_skip rfl ?_
      refine ev_skip rfl ?_
      refine ev_skip rfl ?_
      refine ev_skip rfl ?_
      refine ev_q rfl (q_pickF rfl (by conv=>lhs;whnf) ?_)
      refine ev_nil (hK6 _ ?_); clear hK6
      refine good_condF rfl ?_
      refine good_exit ?_
      repeat first|refine thenQ_exit ?_|refine blockQ_pass rfl ?_
      refine blockQ_exit (hK4 _ ?_); clear hK4
      refine good_seq fun K8 hK8 => ?_
      refine good_draw 21 hmix (by kernel_rfl) rfl ?_
      refine qm rfl (by conv=>lhs;whnf) ?_
      obtain ⟨a, ha⟩ := getL (xs := tP) (n := (i : Int)) (by omega) (by omega)
      obtain ⟨b, hb⟩ := getL (xs := tV) (n := (i : Int)) (by omega) (by omega)
      have ba := tP_bd ha
      have bb := tV_bd hb
      refine qo_q rfl (q_idxA tEn122 tArr122 rfl rfl (by omega) (by omega) rfl ?_)
      refine qo_q rfl (q_idxA tEn121 tArr121 rfl rfl (by omega) (by omega) rfl ?_)
      refine qo_q rfl (q_loadI tA2 rfl rfl (tabP ha (by omega)) ?_)
      refine qm rfl (by conv=>lhs;whnf) ?_
      refine qo_q rfl (q_idxA tEn122 tArr122 rfl rfl (by omega) (by omega) rfl ?_)
      refine qo_q rfl (q_idxA tEn121 tArr121 rfl rfl (by omega) (by omega) rfl ?_)
      refine qo_q rfl (q_loadI tA2 rfl rfl (tabV hb (by omega)) ?_)
      refine qm rfl (by conv=>lhs;whnf) ?_
      refine qo_q rfl (q_int rfl rfl ?_)
      intro n9 hn9
      replace hn9 := in64 hn9 (by omega) (by omega)
      obtain ⟨p, hp⟩ := getL (xs := tP) (n := n9) (by omega) (by omega)
      have bp := tP_bd hp
      refine qo_q rfl (q_idxA tEn122 tArr122 rfl rfl (by omega) (by omega) rfl ?_)
      refine qo_q rfl (q_idxA tEn121 tArr121 rfl rfl (by omega) (by omega) rfl ?_)
      refine qo_q rfl (q_loadI tA2 rfl rfl (tabP hp (by omega)) ?_)
      refine qm rfl (by conv=>lhs;whnf) ?_
      refine qo_q rfl (q_int rfl rfl ?_)
      intro n10 hn10
      replace hn10 := in64 hn10 (by omega) (by omega)
      obtain ⟨d, hd⟩ := getL (xs := tV) (n := n10) (by omega) (by omega)
      have bd := tV_bd hd
      refine qo_q rfl (q_idxA tEn122 tArr122 rfl rfl (by omega) (by omega) rfl ?_)
      refine qo_q rfl (q_idxA tEn121 tArr121 rfl rfl (by omega) (by omega) rfl ?_)
      refine qo_q rfl (q_loadI tA2 rfl rfl (tabV hd (by omega)) ?_)
      refine qm rfl (by conv=>lhs;whnf) ?_
      refine qo_q rfl (q_callI rfl rfl (rfl) (D_impl_blend _ _ _ _ _ (by omega) (by omega) (by omega) (by omega)) ?_)
      intro n11 hn11
      refine qa rfl (by conv=>lhs;whnf) ?_
      refine qo_nil ?_
      refine ev_nil (hK8 _ ?_); clear hK8
      refine good_ret ?_
      repeat first|refine thenQ_ret ?_|refine blockQ_ret ?_
      refine ret_tmp (st := _) rfl (by conv=>lhs;whnf) rfl ?_
      clear hK5
      exact fI (by rw [hn11]; exact boil_at2 (i := i) (by omega) (by rw [← ha]; congr 1) (by rw [← hb]; congr 1) (by rw [← hp]; congr 1; omega) (by rw [← hd]; congr 1; omega) (by rcases hJ with h | ⟨q, hq, hl⟩; exact .inl h; exact .inr (by have e : tP[i]? = some a := ha; rw [e] at hq; cases hq; exact hl)) (by first | exact .inl (by omega) | exact .inr (by have e : some p = some q0 := (by rw [← hp, ← hq0]; congr 1; omega); cases e; omega)))
    · replace hb7 := dT hb7
      refine em rfl (by conv=>lhs;whnf) ?_
      refine em rfl (by conv=>lhs;whnf) ?_
      refine em rfl (by conv=>lhs;whnf) ?_
      refine ei rfl rfl rfl ?_
      intro n12 hn12
      replace hn12 := in64 hn12 (by omega) (by omega)
      obtain ⟨q0, hq0⟩ := getL (xs := tP) (n := n12) (by omega) (by omega)
      refine ev_q rfl (q_idxA tEn122 tArr122 rfl rfl (by omega) (by omega) rfl ?_)
      refine ev_q rfl (q_idxA tEn121 tArr121 rfl rfl (by omega) (by omega) rfl ?_)
      refine ev_q rfl (q_loadI tA2 rfl rfl (tabP hq0 (by omega)) ?_)
      refine ei rfl rfl rfl ?_
      intro b13 hb13; cases b13
      · replace hb13 := dF hb13
        refine ev_q rfl (q_pickT rfl (by conv=>lhs;whnf) ?_)
        refine ev_nil (hK6 _ ?_); clear hK6
        refine good_condF rfl ?_
        refine good_exit ?_
        repeat first|refine thenQ_exit ?_|refine blockQ_pass rfl ?_
        refine blockQ_exit (hK4 _ ?_); clear hK4
        refine good_seq fun K14 hK14 => ?_
        refine good_draw 21 hmix (by kernel_rfl) rfl ?_
        refine qm rfl (by conv=>lhs;whnf) ?_
        obtain ⟨a, ha⟩ := getL (xs := tP) (n := (i : Int)) (by omega) (by omega)
        obtain ⟨b, hb⟩ := getL (xs := tV) (n := (i : Int)) (by omega) (by omega)
        have ba := tP_bd ha
        have bb := tV_bd hb
        refine qo_q rfl (q_idxA tEn122 tArr122 rfl rfl (by omega) (by omega) rfl ?_)
        refine qo_q rfl (q_idxA tEn121 tArr121 rfl rfl (by omega) (by omega) rfl ?_)
        refine qo_q rfl (q_loadI tA2 rfl rfl (tabP ha (by omega)) ?_)
        refine qm rfl (by conv=>lhs;whnf) ?_
        refine qo_q rfl (q_idxA tEn122 tArr122 rfl rfl (by omega) (by omega) rfl ?_)
        refine qo_q rfl (q_idxA tEn121 tArr121 rfl rfl (by omega) (by omega) rfl ?_)
        refine qo_q rfl (q_loadI tA2 rfl rfl (tabV hb (by omega)) ?_)
        refine qm rfl (by conv=>lhs;whnf) ?_
        refine qo_q rfl (q_int rfl rfl ?_)
        intro n15 hn15
        replace hn15 := in64 hn15 (by omega) (by omega)
        obtain ⟨p, hp⟩ := getL (xs := tP) (n := n15) (by omega) (by omega)
        have bp := tP_bd hp
        refine qo_q rfl (q_idxA tEn122 tArr122 rfl rfl (by omega) (by omega) rfl ?_)
        refine qo_q rfl (q_idxA tEn121 tArr121 rfl rfl (by omega) (by omega) rfl ?_)
        refine qo_q rfl (q_loadI tA2 rfl rfl (tabP hp (by omega)) ?_)
        refine qm rfl (by conv=>lhs;whnf) ?_
        refine qo_q rfl (q_int rfl rfl ?_)
        intro n16 hn16
        replace hn16 := in64 hn16 (by omega) (by omega)
        obtain ⟨d, hd⟩ := getL (xs := tV) (n := n16) (by omega) (by omega)
        have bd := tV_bd hd
        refine qo_q rfl (q_idxA tEn122 tArr122 rfl rfl (by omega) (by omega) rfl ?_)
        refine qo_q rfl (q_idxA tEn121 tArr121 rfl rfl (by omega) (by omega) rfl ?_)
        refine qo_q rfl (q_loadI tA2 rfl rfl (tabV hd (by omega)) ?_)
        refine qm rfl (by conv=>lhs;whnf) ?_
        refine qo_q rfl (q_callI rfl rfl (rfl) (D_impl_blend _ _ _ _ _ (by omega) (by omega) (by omega) (by omega)) ?_)
        intro n17 hn17
        refine qa rfl (by conv=>lhs;whnf) ?_
        refine qo_nil ?_
        refine ev_nil (hK14 _ ?_); clear hK14
        refine good_ret ?_
        repeat first|refine thenQ_ret ?_|refine blockQ_ret ?_
        refine ret_tmp (st := _) rfl (by conv=>lhs;whnf) rfl ?_
        clear hK5
        exact fI (by rw [hn17]; exact boil_at2 (i := i) (by omega) (by rw [← ha]; congr 1) (by rw [← hb]; congr 1) (by rw [← hp]; congr 1; omega) (by rw [← hd]; congr 1; omega) (by rcases hJ with h | ⟨q, hq, hl⟩; exact .inl h; exact .inr (by have e : tP[i]? = some a := ha; rw [e] at hq; cases hq; exact hl)) (by first | exact .inl (by omega) | exact .inr (by have e : some p = some q0 := (by rw [← hp, ← hq0]; congr 1; omega); cases e; omega)))
      · replace hb13 := dT hb13
        refine ev_q rfl (q_pickT rfl (by conv=>lhs;whnf) ?_)
        refine ev_nil (hK6 _ ?_); clear hK6
        refine good_condT rfl ?_
        refine good_skip (hK5 _ ?_); clear hK5
        refine good_block ?_
        refine gr rfl ?_
        refine em rfl (by conv=>lhs;whnf) ?_
        refine ei rfl rfl rfl ?_
        intro n18 hn18
        replace hn18 := in64 hn18 (by omega) (by omega)
        refine ea rfl (by conv=>lhs;whnf) ?_
        refine ev_nil ?_
        clear hK4
        refine ⟨i + 1, ?_, ?_, ?_⟩
        · exact ⟨by omega, .inr ⟨q0, by rw [← hq0]; congr 1; omega, by omega⟩⟩
        · first | omega | (simp only []; omega) | (dsimp only; omega)
        · refine sub_weak ?_ ?_
          · exact weakH_box (boxEq (rfl)) rfl (weakH_none _)
          · refine weakE_upd ?e4 ?r4 (weakE_upd ?e3 ?r3 (weakE_upd ?e0 ?r0 (weakE_junk _ _)))
            case e0 => first | rfl | exact fI (by omega) | (simp_all)
            case r0 => intro h hh; cases hh
            case e3 => first | rfl | exact fI (by omega) | (simp_all)
            case r3 => intro h hh; simp [refs] at hh; subst hh; rfl
            case e4 => first | rfl | exact fI (by omega) | (simp_all)
            case r4 => intro h hh; cases hh

-- impl.steamPressure$1
theorem D_impl_steamPressure_1 (n t : Int) (h : -10000000 ≤ n ∧ n ≤ 10000000) : Den Tryz.prog 88 [.s (.int .i64 n), .rp [.s (.int .i64 t)]] (.s (.bool (decide (boil n ≥ t)))) := by
  refine den_of_good Tryz.func88 (by decide) rfl (Nat.le_of_ble_eq_true rfl) (Nat.le_of_ble_eq_true rfl) ?_
  refine good_seq fun K1 hK1 => ?_
  refine gr rfl ?_
  refine ea rfl (by conv=>lhs;whnf) ?_
  refine ev_nil (hK1 _ ?_); clear hK1
  refine good_seq fun K2 hK2 => ?_
  refine good_draw 5 hmix (by kernel_rfl) rfl ?_
  refine qm rfl (by conv=>lhs;whnf) ?_
  refine qo_q rfl (q_callI rfl rfl (rfl) (D_impl_boilingAt _ h) ?_)
  intro n3 hn3
  refine qo_q rfl (q_load tA2 rfl ?_)
  refine qo_q rfl (q_int rfl rfl ?_)
  intro b4 hb4; cases b4
  · replace hb4 := dF hb4
    refine qa rfl (by conv=>lhs;whnf) ?_
    refine qo_nil ?_
    refine ev_nil (hK2 _ ?_); clear hK2
    refine good_ret ?_
    repeat first|refine thenQ_ret ?_|refine blockQ_ret ?_
    refine ret_tmp (st := _) rfl (by conv=>lhs;whnf) rfl ?_
    first | rfl | exact fT (by first | omega | grind) | exact fF (by first | omega | grind) | exact fT' (by first | omega | grind) | (exfalso; first | omega | grind)
  · replace hb4 := dT hb4
    refine qa rfl (by conv=>lhs;whnf) ?_
    refine qo_nil ?_
    refine ev_nil (hK2 _ ?_); clear hK2
    refine good_ret ?_
    repeat first|refine thenQ_ret ?_|refine blockQ_ret ?_
    refine ret_tmp (st := _) rfl (by conv=>lhs;whnf) rfl ?_
    first | rfl | exact fT (by first | omega | grind) | exact fF (by first | omega | grind) | exact fT' (by first | omega | grind) | (exfalso; first | omega | grind)

-- impl.steamPressure
theorem D_impl_steamPressure (t : Int)  : Den Tryz.prog 46 [.s (.int .i64 t)] (.s (.int .i64 (stm t))) := by
  refine den_of_good Tryz.func46 (by decide) rfl (Nat.le_of_ble_eq_true rfl) (Nat.le_of_ble_eq_true rfl) ?_
  refine good_seq fun K1 hK1 => ?_
  refine gr rfl ?_
  refine ev_k rfl (k_box (by conv=>lhs;whnf) rfl rfl rfl ?_)
  refine ea rfl (by conv=>lhs;whnf) ?_
  refine ev_nil (hK1 _ ?_); clear hK1
  refine good_seq fun K2 hK2 => ?_
  refine gr rfl ?_
  refine ev_q rfl (q_clo rfl rfl ?_)
  refine ev_q rfl (q_call rfl rfl (rfl) (D_impl_firstIn _ _ (fun n => boil n ≥ t) 1000 1200000 (by omega) (by omega) (by omega) (fun a b h1 h2 h3 h4 => Int.le_trans h4 (boil_mono h2)) (fun a h1 h2 => D_impl_steamPressure_1 a t (by omega))) rfl ?_)
  refine em rfl (by conv=>lhs;whnf) ?_
  refine ev_q rfl (q_extractI rfl rfl ?_)
  intro n3 hn3
  refine ev_q rfl (q_extractB rfl rfl ?_)
  intro b4 hb4; cases b4
  · first | replace hb4 := dF hb4 | skip
    refine ea rfl (by conv=>lhs;whnf) ?_
    refine ea rfl (by conv=>lhs;whnf) ?_
    refine ev_nil (hK2 _ ?_); clear hK2
    refine good_seq fun K5 hK5 => ?_
    refine gr rfl ?_
    refine em rfl (by conv=>lhs;whnf) ?_
    refine ea rfl (by conv=>lhs;whnf) ?_
    refine ev_nil (hK5 _ ?_); clear hK5
    refine good_ret ?_
    repeat first|refine thenQ_ret ?_|refine blockQ_ret ?_
    refine ret_tmp (st := _) rfl (by conv=>lhs;whnf) rfl ?_
    exact fI hn3
  · first | replace hb4 := dT hb4 | skip
    refine ea rfl (by conv=>lhs;whnf) ?_
    refine ea rfl (by conv=>lhs;whnf) ?_
    refine ev_nil (hK2 _ ?_); clear hK2
    refine good_seq fun K6 hK6 => ?_
    refine gr rfl ?_
    refine em rfl (by conv=>lhs;whnf) ?_
    refine ea rfl (by conv=>lhs;whnf) ?_
    refine ev_nil (hK6 _ ?_); clear hK6
    refine good_ret ?_
    repeat first|refine thenQ_ret ?_|refine blockQ_ret ?_
    refine ret_tmp (st := _) rfl (by conv=>lhs;whnf) rfl ?_
    exact fI hn3

-- spec.l02Pressure
theorem D_spec_l02Pressure (t : Int) (ht : t ≤ 18796) : Den Tryz.prog 60 [.s (.int .i64 t)] (.s (.int .i64 (stm t))) := by
  refine den_of_good Tryz.func60 (by decide) rfl (Nat.le_of_ble_eq_true rfl) (Nat.le_of_ble_eq_true rfl) ?_
  refine good_seq fun K1 hK1 => ?_
  refine gr rfl ?_
  refine ea rfl (by conv=>lhs;whnf) ?_
  refine ev_nil (hK1 _ ?_); clear hK1
  refine good_seq fun K2 hK2 => ?_
  refine gr rfl ?_
  refine ea rfl (by conv=>lhs;whnf) ?_
  refine ev_nil (hK2 _ ?_); clear hK2
  refine good_seq fun K3 hK3 => ?_
  refine gr rfl ?_
  refine ea rfl (by conv=>lhs;whnf) ?_
  refine ev_nil (hK3 _ ?_); clear hK3
  refine good_seq fun K4 hK4 => ?_
  refine good_block ?_
  refine good_loop (α := Int × Int) (fun (l, h) => { env := upd (upd (upd ((fun _ => .junk)) 0 (.s (.int .i64 t))) 3 (.s (.int .i64 l))) 4 (.s (.int .i64 h)), H := fun _ => none }) (fun (l, h) => (999 ≤ l ∧ l + 1 ≤ h ∧ h ≤ 1200000) ∧ (1000 ≤ l → ¬ boil l ≥ t) ∧ boil h ≥ t) (fun (l, h) => (h - l).toNat) (999, 1200000) ?_ ?_ ?_
  · exact ⟨by omega, fun h => by omega, by rw [boil_top]; exact ht⟩
  · refine sub_weak ?_ ?_
    · exact weakH_none _
    · refine weakE_upd ?e4 ?r4 (weakE_upd ?e3 ?r3 (weakE_upd ?e0 ?r0 (weakE_junk _ _)))
      case e0 => first | rfl | exact fI (by omega) | (simp_all)
      case r0 => intro h hh; cases hh
      case e3 => first | rfl | exact fI (by omega) | (simp_all)
      case r3 => intro h hh; cases hh
      case e4 => first | rfl | exact fI (by omega) | (simp_all)
      case r4 => intro h hh; cases hh
  · rintro ⟨l, h⟩ ⟨hI, hJ, hK⟩
    refine good_seq fun K5 hK5 => ?_
    refine good_seq fun K6 hK6 => ?_
    refine gr rfl ?_
    refine em rfl (by conv=>lhs;whnf) ?_
    refine em rfl (by conv=>lhs;whnf) ?_
    refine ei rfl rfl rfl ?_
    intro n7 hn7
    replace hn7 := in64 hn7 (by omega) (by omega)
    refine ei rfl rfl rfl ?_
    intro b8 hb8; cases b8
    · replace hb8 := dF hb8
      refine ev_nil (hK6 _ ?_); clear hK6
      refine good_condF rfl ?_
      refine good_exit ?_
      repeat first|refine thenQ_exit ?_|refine blockQ_pass rfl ?_
      refine blockQ_exit (hK4 _ ?_); clear hK4
      refine good_seq fun K9 hK9 => ?_
      refine gr rfl ?_
      refine em rfl (by conv=>lhs;whnf) ?_
      refine ea rfl (by conv=>lhs;whnf) ?_
      refine ev_nil (hK9 _ ?_); clear hK9
      refine good_ret ?_
      repeat first|refine thenQ_ret ?_|refine blockQ_ret ?_
      refine ret_tmp (st := _) rfl (by conv=>lhs;whnf) rfl ?_
      clear hK5
      exact fI (stm_uniq (by omega) (by omega) (fun a h1 h2 h3 => hJ (by omega) (Int.le_trans h3 (boil_mono (by omega)))) hK).symm
    · replace hb8 := dT hb8
      refine ev_nil (hK6 _ ?_); clear hK6
      refine good_condT rfl ?_
      refine good_skip (hK5 _ ?_); clear hK5
      refine good_block ?_
      refine good_seq fun K10 hK10 => ?_
      refine gr rfl ?_
      refine em rfl (by conv=>lhs;whnf) ?_
      refine em rfl (by conv=>lhs;whnf) ?_
      refine ei rfl rfl rfl ?_
      intro n11 hn11
      replace hn11 := in64 hn11 (by omega) (by omega)
      refine ei rfl rfl rfl ⟨by omega, ?_⟩
      intro n12 hn12
      first | replace hn12 := quoE hn12 (by omega) (by omega) | replace hn12 := quoT hn12 (by omega) (by omega)
      refine ea rfl (by conv=>lhs;whnf) ?_
      refine ev_nil (hK10 _ ?_); clear hK10
      refine good_seq fun K13 hK13 => ?_
      refine gr rfl ?_
      refine em rfl (by conv=>lhs;whnf) ?_
      refine ev_q rfl (q_callI rfl rfl (rfl) (D_spec_l02Boiling _ (by omega)) ?_)
      intro n14 hn14
      refine em rfl (by conv=>lhs;whnf) ?_
      refine ei rfl rfl rfl ?_
      intro b15 hb15; cases b15
      · replace hb15 := dF hb15
        refine ev_nil (hK13 _ ?_); clear hK13
        refine good_condF rfl ?_
        refine gr rfl ?_
        refine em rfl (by conv=>lhs;whnf) ?_
        refine ea rfl (by conv=>lhs;whnf) ?_
        refine ev_nil ?_
        clear hK4
        refine ⟨(n12, h), ?_, ?_, ?_⟩
        · exact ⟨by first | omega | (dsimp only; omega), fun _ hb => by rw [← hn14] at hb; contradiction, hK⟩
        · first | omega | (dsimp only; omega)
        · refine sub_weak ?_ ?_
          · exact weakH_none _
          · refine weakE_upd ?e4 ?r4 (weakE_upd ?e3 ?r3 (weakE_upd ?e0 ?r0 (weakE_junk _ _)))
            case e0 => first | rfl | exact fI (by omega) | (simp_all)
            case r0 => intro h hh; cases hh
            case e3 => first | rfl | exact fI (by omega) | (simp_all)
            case r3 => intro h hh; cases hh
            case e4 => first | rfl | exact fI (by omega) | (simp_all)
            case r4 => intro h hh; cases hh
      · replace hb15 := dT hb15
        refine ev_nil (hK13 _ ?_); clear hK13
        refine good_condT rfl ?_
        refine gr rfl ?_
        refine em rfl (by conv=>lhs;whnf) ?_
        refine ea rfl (by conv=>lhs;whnf) ?_
        refine ev_nil ?_
        clear hK4
        refine ⟨(l, n12), ?_, ?_, ?_⟩
        · exact ⟨by first | omega | (dsimp only; omega), hJ, by rw [← hn14]; assumption⟩
        · first | omega | (dsimp only; omega)
        · refine sub_weak ?_ ?_
          · exact weakH_none _
          · refine weakE_upd ?e4 ?r4 (weakE_upd ?e3 ?r3 (weakE_upd ?e0 ?r0 (weakE_junk _ _)))
            case e0 => first | rfl | exact fI (by omega) | (simp_all)
            case r0 => intro h hh; cases hh
            case e3 => first | rfl | exact fI (by omega) | (simp_all)
            case r3 => intro h hh; cases hh
            case e4 => first | rfl | exact fI (by omega) | (simp_all)
            case r4 => intro h hh; cases hh

-- spec.l11Steam
theorem D_spec_l11Steam (t : Int) (ht : t ≤ 18796) : Den Tryz.prog 36 [.s (.int .i64 t)] (.s (.int .i64 (stm t))) := by
  refine den_of_good Tryz.func36 (by decide) rfl (Nat.le_of_ble_eq_true rfl) (Nat.le_of_ble_eq_true rfl) ?_
  refine good_seq fun K1 hK1 => ?_
  refine gr rfl ?_
  refine ea rfl (by conv=>lhs;whnf) ?_
  refine ev_nil (hK1 _ ?_); clear hK1
  refine good_seq fun K2 hK2 => ?_
  refine gr rfl ?_
  refine em rfl (by conv=>lhs;whnf) ?_
  refine ev_q rfl (q_callI rfl rfl (rfl) (D_spec_l02Pressure _ ht) ?_)
  intro n3 hn3
  refine ea rfl (by conv=>lhs;whnf) ?_
  refine ev_nil (hK2 _ ?_); clear hK2
  refine good_ret ?_
  repeat first|refine thenQ_ret ?_|refine blockQ_ret ?_
  refine ret_tmp (st := _) rfl (by conv=>lhs;whnf) rfl ?_
  first | rfl | exact fI (by first | omega | grind) | (exfalso; first | omega | grind)

-- laws.r8Long
theorem D_laws_r8Long (cs ds : List Int)  : Den Tryz.prog 12 [.lst 1 (cs.map cb), .lst 1 (ds.map cb)] (.s (.bool (decide ((cs.length : Int) > 1048576 ∨ (ds.length : Int) > 1048576)))) := by
  refine den_of_good Tryz.func12 (by decide) rfl (Nat.le_of_ble_eq_true rfl) (Nat.le_of_ble_eq_true rfl) ?_
  refine good_seq fun K1 hK1 => ?_
  refine gr rfl ?_
  refine ea rfl (by conv=>lhs;whnf) ?_
  refine ev_nil (hK1 _ ?_); clear hK1
  refine good_seq fun K2 hK2 => ?_
  refine gr rfl ?_
  refine em rfl (by conv=>lhs;whnf) ?_
  refine ev_q rfl (q_len tEs37 rfl ?_)
  intro n3 hn3
  try simp only [List.length_map] at hn3
  refine ei rfl rfl rfl ?_
  intro b4 hb4; cases b4
  · replace hb4 := dF hb4
    refine em rfl (by conv=>lhs;whnf) ?_
    refine em rfl (by conv=>lhs;whnf) ?_
    refine ev_q rfl (q_len tEs37 rfl ?_)
    intro n5 hn5
    try simp only [List.length_map] at hn5
    refine ei rfl rfl rfl ?_
    intro b6 hb6; cases b6
    · replace hb6 := dF hb6
      refine ev_q rfl (q_pickF rfl (by conv=>lhs;whnf) ?_)
      refine ea rfl (by conv=>lhs;whnf) ?_
      refine ev_nil (hK2 _ ?_); clear hK2
      refine good_ret ?_
      repeat first|refine thenQ_ret ?_|refine blockQ_ret ?_
      refine ret_tmp (st := _) rfl (by conv=>lhs;whnf) rfl ?_
      first | exact fT (by omega) | exact fF (by omega)
    · replace hb6 := dT hb6
      refine ev_q rfl (q_pickF rfl (by conv=>lhs;whnf) ?_)
      refine ea rfl (by conv=>lhs;whnf) ?_
      refine ev_nil (hK2 _ ?_); clear hK2
      refine good_ret ?_
      repeat first|refine thenQ_ret ?_|refine blockQ_ret ?_
      refine ret_tmp (st := _) rfl (by conv=>lhs;whnf) rfl ?_
      first | exact fT (by omega) | exact fF (by omega)
  · replace hb4 := dT hb4
    refine em rfl (by conv=>lhs;whnf) ?_
    refine ev_skip rfl ?_
    refine ev_skip rfl ?_
    refine ev_skip rfl ?_
    refine ev_q rfl (q_pickT rfl (by conv=>lhs;whnf) ?_)
    refine ea rfl (by conv=>lhs;whnf) ?_
    refine ev_nil (hK2 _ ?_); clear hK2
    refine good_ret ?_
    repeat first|refine thenQ_ret ?_|refine blockQ_ret ?_
    refine ret_tmp (st := _) rfl (by conv=>lhs;whnf) rfl ?_
    first | exact fT (by omega) | exact fF (by omega)

-- laws.r8At
theorem D_laws_r8At (cs : List Int) (k n : Int) (hc : cs.length ≤ 17592186044416) (hb : byteL cs) (hk : 0 ≤ k ∧ k ≤ 1000) (hn : 0 ≤ n ∧ n ≤ 1000000) : Den Tryz.prog 14 [.lst 1 (cs.map cb), .s (.int .i64 k), .s (.int .i64 n)] (.s (.int .i64 (r8a cs k n))) := by
  refine den_of_good Tryz.func14 (by decide) rfl (Nat.le_of_ble_eq_true rfl) (Nat.le_of_ble_eq_true rfl) ?_
  refine good_seq fun K1 hK1 => ?_
  refine gr rfl ?_
  refine ea rfl (by conv=>lhs;whnf) ?_
  refine ev_nil (hK1 _ ?_); clear hK1
  refine good_seq fun K2 hK2 => ?_
  refine good_seq fun K3 hK3 => ?_
  refine gr rfl ?_
  refine em rfl (by conv=>lhs;whnf) ?_
  refine ei rfl rfl rfl ?_
  intro b4 hb4; cases b4
  · replace hb4 := dF hb4
    refine em rfl (by conv=>lhs;whnf) ?_
    refine em rfl (by conv=>lhs;whnf) ?_
    refine em rfl (by conv=>lhs;whnf) ?_
    refine ev_q rfl (q_len tEs37 rfl ?_)
    intro n5 hn5
    try simp only [List.length_map] at hn5
    refine ei rfl rfl rfl ?_
    intro b6 hb6; cases b6
    · replace hb6 := dF hb6
      obtain ⟨q, hq⟩ := getL (xs := cs) (n := k) (by omega) (by omega)
      have hqb := hb _ (List.mem_of_getElem? hq)
      have e8 : r8a cs k n = q % n := by unfold r8a; rw [if_neg (by omega), List.getD, hq]; rfl
      refine ev_q rfl (q_pickF rfl (by conv=>lhs;whnf) ?_)
      refine ev_nil (hK3 _ ?_); clear hK3
      refine good_condF rfl ?_
      refine good_skip (hK2 _ ?_); clear hK2
      refine good_seq fun K7 hK7 => ?_
      refine gr rfl ?_
      refine em rfl (by conv=>lhs;whnf) ?_
      refine em rfl (by conv=>lhs;whnf) ?_
      refine ev_q rfl (q_idx tE37 rfl rfl (by omega) (by exact map_get hq) rfl ?_)
      refine ev_q rfl (q_load tA5 rfl ?_)
      refine ev_q rfl (q_conv tK5 tK2 rfl ?_)
      intro n8 hn8
      replace hn8 := in64 hn8 (by omega) (by omega)
      refine em rfl (by conv=>lhs;whnf) ?_
      refine ei rfl rfl rfl ⟨by omega, ?_⟩
      intro n9 hn9
      replace hn9 := remE hn9 (by omega)
      rw [hn8] at hn9
      refine ea rfl (by conv=>lhs;whnf) ?_
      refine ev_nil (hK7 _ ?_); clear hK7
      refine good_ret ?_
      repeat first|refine thenQ_ret ?_|refine blockQ_ret ?_
      refine ret_tmp (st := _) rfl (by conv=>lhs;whnf) rfl ?_
      first | exact fI e8.symm | exact fI (by rw [e8]; assumption) | exact fI (by rw [e8]; omega) | (exfalso; omega)
    · replace hb6 := dT hb6
      have e8 : r8a cs k n = 0 := if_pos (.inr (by omega))
      refine ev_q rfl (q_pickF rfl (by conv=>lhs;whnf) ?_)
      refine ev_nil (hK3 _ ?_); clear hK3
      refine good_condT rfl ?_
      refine good_seq fun K10 hK10 => ?_
      refine gr rfl ?_
      refine ea rfl (by conv=>lhs;whnf) ?_
      refine ev_nil (hK10 _ ?_); clear hK10
      refine good_ret ?_
      repeat first|refine thenQ_ret ?_|refine blockQ_ret ?_
      refine ret_tmp (st := _) rfl (by conv=>lhs;whnf) rfl ?_
      clear hK2
      first | exact fI e8.symm | exact fI (by rw [e8]; assumption) | exact fI (by rw [e8]; omega) | (exfalso; omega)
  · replace hb4 := dT hb4
    have e8 : r8a cs k n = 0 := if_pos (.inl (by omega))
    refine em rfl (by conv=>lhs;whnf) ?_
    refine ev_skip rfl ?_
    refine ev_skip rfl ?_
    refine ev_skip rfl ?_
    refine ev_skip rfl ?_
    refine ev_q rfl (q_pickT rfl (by conv=>lhs;whnf) ?_)
    refine ev_nil (hK3 _ ?_); clear hK3
    refine good_condT rfl ?_
    refine good_seq fun K11 hK11 => ?_
    refine gr rfl ?_
    refine ea rfl (by conv=>lhs;whnf) ?_
    refine ev_nil (hK11 _ ?_); clear hK11
    refine good_ret ?_
    repeat first|refine thenQ_ret ?_|refine blockQ_ret ?_
    refine ret_tmp (st := _) rfl (by conv=>lhs;whnf) rfl ?_
    clear hK2
    first | exact fI e8.symm | exact fI (by rw [e8]; assumption) | exact fI (by rw [e8]; omega) | (exfalso; omega)

-- laws.r8Wide
theorem D_laws_r8Wide (cs : List Int) (k n : Int) (hc : cs.length ≤ 17592186044416) (hb : byteL cs) (hk : 0 ≤ k ∧ k ≤ 100) (hn : 1 ≤ n ∧ n ≤ 100000) : Den Tryz.prog 17 [.lst 1 (cs.map cb), .s (.int .i64 k), .s (.int .i64 n)] (.s (.int .i64 (r8w cs k n))) := by
  have b1 := r8a_bd (cs := cs) (k := k) (n := 256) (by omega)
  have b2 := r8a_bd (cs := cs) (k := k + 1) (n := 256) (by omega)
  refine den_of_good Tryz.func17 (by decide) rfl (Nat.le_of_ble_eq_true rfl) (Nat.le_of_ble_eq_true rfl) ?_
  refine good_seq fun K1 hK1 => ?_
  refine gr rfl ?_
  refine ea rfl (by conv=>lhs;whnf) ?_
  refine ev_nil (hK1 _ ?_); clear hK1
  refine good_seq fun K2 hK2 => ?_
  refine gr rfl ?_
  refine em rfl (by conv=>lhs;whnf) ?_
  refine em rfl (by conv=>lhs;whnf) ?_
  refine ev_q rfl (q_callI rfl rfl (rfl) (D_laws_r8At cs k 256 hc hb (by omega) (by omega)) ?_)
  intro n3 hn3
  refine ei rfl rfl rfl ?_
  intro n4 hn4
  replace hn4 := in64 hn4 (by omega) (by omega)
  refine em rfl (by conv=>lhs;whnf) ?_
  refine em rfl (by conv=>lhs;whnf) ?_
  refine ei rfl rfl rfl ?_
  intro n5 hn5
  replace hn5 := in64 hn5 (by omega) (by omega)
  refine ev_q rfl (q_callI rfl rfl (by change ([.lst 1 (cs.map cb), .s (.int .i64 (n5)), .s (.int .i64 256)] : List AV) = _; rw [hn5]) (D_laws_r8At cs (k + 1) 256 hc hb (by omega) (by omega)) ?_)
  intro n6 hn6
  refine ei rfl rfl rfl ?_
  intro n7 hn7
  replace hn7 := in64 hn7 (by omega) (by omega)
  refine em rfl (by conv=>lhs;whnf) ?_
  refine ei rfl rfl rfl ⟨by omega, ?_⟩
  intro n8 hn8
  replace hn8 := remE hn8 (by omega)
  refine ea rfl (by conv=>lhs;whnf) ?_
  refine ev_nil (hK2 _ ?_); clear hK2
  refine good_ret ?_
  repeat first|refine thenQ_ret ?_|refine blockQ_ret ?_
  refine ret_tmp (st := _) rfl (by conv=>lhs;whnf) rfl ?_
  exact fI (by unfold r8w; rw [hn8]; congr 1; omega)

-- laws.r8Has
theorem D_laws_r8Has (xs : List Int) (x : Int) (hx : xs.length ≤ 17592186044416) : Den Tryz.prog 23 [.lst 1 (xs.map ci), .s (.int .i64 x)] (.s (.bool (decide (x ∈ xs)))) := by
  refine den_of_good Tryz.func23 (by decide) rfl (Nat.le_of_ble_eq_true rfl) (Nat.le_of_ble_eq_true rfl) ?_
  refine good_seq fun K1 hK1 => ?_
  refine gr rfl ?_
  refine ea rfl (by conv=>lhs;whnf) ?_
  refine ev_nil (hK1 _ ?_); clear hK1
  refine good_seq fun K2 hK2 => ?_
  refine good_seq fun K3 hK3 => ?_
  refine gr rfl ?_
  refine ea rfl (by conv=>lhs;whnf) ?_
  refine ev_nil (hK3 _ ?_); clear hK3
  refine good_block ?_
  refine good_loop (α := Nat) (fun i => { env := upd (upd (upd ((fun _ => .junk)) 0 (.lst 1 (xs.map ci))) 1 (.s (.int .i64 x))) 5 (.s (.int .i64 i)), H := fun _ => none }) (fun i => i ≤ xs.length ∧ ∀ j q, j < i → xs[j]? = some q → ¬ q = x) (fun i => xs.length - i) 0 ?_ ?_ ?_
  · exact ⟨by omega, fun j u hj => by omega⟩
  · refine sub_weak ?_ ?_
    · exact weakH_none _
    · refine weakE_upd ?e5 ?r5 (weakE_upd ?e1 ?r1 (weakE_upd ?e0 ?r0 (weakE_junk _ _)))
      case e0 => first | rfl | exact fI (by omega) | (simp_all)
      case r0 => intro h hh; cases hh
      case e1 => first | rfl | exact fI (by omega) | (simp_all)
      case r1 => intro h hh; cases hh
      case e5 => first | rfl | exact fI (by omega) | (simp_all)
      case r5 => intro h hh; cases hh
  · rintro i ⟨hI, hJ⟩
    refine good_seq fun K4 hK4 => ?_
    refine good_seq fun K5 hK5 => ?_
    refine gr rfl ?_
    refine em rfl (by conv=>lhs;whnf) ?_
    refine em rfl (by conv=>lhs;whnf) ?_
    refine ev_q rfl (q_len tEs22 rfl ?_)
    intro n6 hn6
    try simp only [List.length_map] at hn6
    refine ei rfl rfl rfl ?_
    intro b7 hb7; cases b7
    · replace hb7 := dF hb7
      refine ev_nil (hK5 _ ?_); clear hK5
      refine good_condF rfl ?_
      refine good_exit ?_
      repeat first|refine thenQ_exit ?_|refine blockQ_pass rfl ?_
      refine blockQ_exit (hK2 _ ?_); clear hK2
      refine good_seq fun K8 hK8 => ?_
      refine gr rfl ?_
      refine ea rfl (by conv=>lhs;whnf) ?_
      refine ev_nil (hK8 _ ?_); clear hK8
      refine good_ret ?_
      repeat first|refine thenQ_ret ?_|refine blockQ_ret ?_
      refine ret_tmp (st := _) rfl (by conv=>lhs;whnf) rfl ?_
      clear hK4
      first | exact fT (by have e : p = x := (by omega); subst e; exact List.mem_of_getElem? hp) | exact fF (fun hm => by obtain ⟨j, hj⟩ := List.getElem?_of_mem hm; exact hJ j _ (by have := (List.getElem?_eq_some_iff.1 hj).1; omega) hj rfl)
    · replace hb7 := dT hb7
      obtain ⟨p, hp⟩ := getL (xs := xs) (n := (i : Int)) (by omega) (by omega)
      replace hp : xs[i]? = some p := hp
      refine ev_nil (hK5 _ ?_); clear hK5
      refine good_condT rfl ?_
      refine good_skip (hK4 _ ?_); clear hK4
      refine good_seq fun K9 hK9 => ?_
      refine good_block ?_
      refine good_seq fun K10 hK10 => ?_
      refine gr rfl ?_
      refine em rfl (by conv=>lhs;whnf) ?_
      refine em rfl (by conv=>lhs;whnf) ?_
      refine ev_q rfl (q_idx tE22 rfl rfl (by exact Int.natCast_nonneg _) (by exact map_get hp) rfl ?_)
      refine ev_q rfl (q_load tA2 rfl ?_)
      refine em rfl (by conv=>lhs;whnf) ?_
      refine ei rfl rfl rfl ?_
      intro b11 hb11; cases b11
      · replace hb11 := eqF hb11
        refine ev_nil (hK10 _ ?_); clear hK10
        refine good_condF rfl ?_
        refine good_skip (hK9 _ ?_); clear hK9
        refine gr rfl ?_
        refine em rfl (by conv=>lhs;whnf) ?_
        refine ei rfl rfl rfl ?_
        intro n12 hn12
        replace hn12 := in64 hn12 (by omega) (by omega)
        refine ea rfl (by conv=>lhs;whnf) ?_
        refine ev_nil ?_
        clear hK2
        refine ⟨i + 1, ?_, ?_, ?_⟩
        · exact ⟨by omega, all_extI (Q := fun _ q => ¬ q = x) hJ hp (by omega)⟩
        · first | omega | (simp only []; omega) | (dsimp only; omega)
        · refine sub_weak ?_ ?_
          · exact weakH_none _
          · refine weakE_upd ?e5 ?r5 (weakE_upd ?e1 ?r1 (weakE_upd ?e0 ?r0 (weakE_junk _ _)))
            case e0 => first | rfl | exact fI (by omega) | (simp_all)
            case r0 => intro h hh; cases hh
            case e1 => first | rfl | exact fI (by omega) | (simp_all)
            case r1 => intro h hh; cases hh
            case e5 => first | rfl | exact fI (by omega) | (simp_all)
            case r5 => intro h hh; cases hh
      · replace hb11 := eqT hb11
        refine ev_nil (hK10 _ ?_); clear hK10
        refine good_condT rfl ?_
        refine good_seq fun K13 hK13 => ?_
        refine gr rfl ?_
        refine ea rfl (by conv=>lhs;whnf) ?_
        refine ev_nil (hK13 _ ?_); clear hK13
        refine good_ret ?_
        repeat first|refine thenQ_ret ?_|refine blockQ_ret ?_
        refine ret_tmp (st := _) rfl (by conv=>lhs;whnf) rfl ?_
        clear hK2 hK9
        first | exact fT (by have e : p = x := (by omega); subst e; exact List.mem_of_getElem? hp) | exact fF (fun hm => by obtain ⟨j, hj⟩ := List.getElem?_of_mem hm; exact hJ j _ (by have := (List.getElem?_eq_some_iff.1 hj).1; omega) hj rfl)

-- (*spec.l00Src).next
theorem D_spec_l00Src_next (cs : List Int) (a s : Int) (hc : cs.length ≤ 17592186044416) (hb : byteL cs) (ha : 0 ≤ a ∧ a ≤ 3999999999999999999)  : DenXR Tryz.prog 112 [(1000000, .box 108 (src cs a s))] [.ptr 1000000 0] (τ := Int × Int × Int) (fun (v, a1, s1) => (0 ≤ v ∧ v ≤ 255) ∧ (a ≤ a1 ∧ a1 ≤ a + 1)) (fun (v, a1, s1) => [(1000000, .box 108 (src cs a1 s1))]) (fun (v, a1, s1) => .s (.int .i64 v)) := by
  refine denXR_of_good Tryz.func112 (by decide) rfl (Nat.le_of_ble_eq_true rfl) (Nat.le_of_ble_eq_true rfl) rfl ?_
  refine good_seq fun K1 hK1 => ?_
  refine gr rfl ?_
  refine ea rfl (by conv=>lhs;whnf) ?_
  refine ev_nil (hK1 _ ?_); clear hK1
  refine good_seq fun K2 hK2 => ?_
  refine gr rfl ?_
  refine ea rfl (by conv=>lhs;whnf) ?_
  refine ev_nil (hK2 _ ?_); clear hK2
  refine good_seq fun K3 hK3 => ?_
  refine good_seq fun K4 hK4 => ?_
  refine good_draw 10 hmix (by kernel_rfl) rfl ?_
  refine qm rfl (by conv=>lhs;whnf) ?_
  refine qo_q rfl (q_nilCheck (by conv=>lhs;whnf) rfl ?_)
  refine qo_q rfl (q_fieldAddrP fO108_1 rfl rfl ?_)
  refine qo_q rfl (q_load tA3 rfl ?_)
  refine qm rfl (by conv=>lhs;whnf) ?_
  refine qo_q rfl (q_nilCheck (by conv=>lhs;whnf) rfl ?_)
  refine qo_q rfl (q_fieldAddrP fO108_0 rfl rfl ?_)
  refine qo_q rfl (q_load tA37 rfl ?_)
  refine qo_q rfl (q_len tEs37 rfl ?_)
  intro n5 hn5
  try simp only [List.length_map] at hn5
  refine qo_q rfl (q_int rfl rfl ?_)
  intro b6 hb6; cases b6
  · replace hb6 := dF hb6
    refine qo_nil ?_
    refine ev_nil (hK4 _ ?_); clear hK4
    refine good_condF rfl ?_
    refine good_skip (hK3 _ ?_); clear hK3
    refine good_seq fun K7 hK7 => ?_
    refine gr rfl ?_
    refine em rfl (by conv=>lhs;whnf) ?_
    refine ev_q rfl (q_nilCheck (by conv=>lhs;whnf) rfl ?_)
    refine ev_q rfl (q_fieldAddrP fO108_1 rfl rfl ?_)
    refine ev_q rfl (q_load tA3 rfl ?_)
    refine ei rfl rfl rfl ?_
    intro n8 hn8
    replace hn8 := in64 hn8 (by omega) (by omega)
    refine ev_q rfl (q_nilCheck (by conv=>lhs;whnf) rfl ?_)
    refine ev_q rfl (q_fieldAddrP fO108_1 rfl rfl ?_)
    refine ev_k rfl (k_store sz3 rfl (by conv=>lhs;whnf) rfl rfl rfl (Nat.le_of_ble_eq_true rfl) rfl ?_)
    refine ev_nil (hK7 _ ?_); clear hK7
    refine good_seq fun K9 hK9 => ?_
    refine gr rfl ?_
    refine em rfl (by conv=>lhs;whnf) ?_
    refine em rfl (by conv=>lhs;whnf) ?_
    refine ev_q rfl (q_nilCheck (by conv=>lhs;whnf) rfl ?_)
    refine ev_q rfl (q_fieldAddrP fO108_2 rfl rfl ?_)
    refine ev_q rfl (q_load tA106 rfl ?_)
    refine ei rfl rfl rfl ?_
    intro n10 hn10
    skip
    refine em rfl (by conv=>lhs;whnf) ?_
    refine ev_q rfl (q_conv tK3 tK106 rfl ?_)
    intro n11 hn11
    skip
    refine ei rfl rfl rfl ?_
    intro n12 hn12
    skip
    refine ei rfl rfl rfl ?_
    intro n13 hn13
    skip
    refine ev_q rfl (q_nilCheck (by conv=>lhs;whnf) rfl ?_)
    refine ev_q rfl (q_fieldAddrP fO108_2 rfl rfl ?_)
    refine ev_k rfl (k_store sz106 rfl (by conv=>lhs;whnf) rfl rfl rfl (Nat.le_of_ble_eq_true rfl) rfl ?_)
    refine ev_nil (hK9 _ ?_); clear hK9
    refine good_seq fun K14 hK14 => ?_
    refine good_seq fun K15 hK15 => ?_
    refine good_draw 10 hmix (by kernel_rfl) rfl ?_
    refine qm rfl (by conv=>lhs;whnf) ?_
    refine qo_q rfl (q_nilCheck (by conv=>lhs;whnf) rfl ?_)
    refine qo_q rfl (q_fieldAddrP fO108_1 rfl rfl ?_)
    refine qo_q rfl (q_load tA3 rfl ?_)
    refine qm rfl (by conv=>lhs;whnf) ?_
    refine qo_q rfl (q_nilCheck (by conv=>lhs;whnf) rfl ?_)
    refine qo_q rfl (q_fieldAddrP fO108_0 rfl rfl ?_)
    refine qo_q rfl (q_load tA37 rfl ?_)
    refine qo_q rfl (q_len tEs37 rfl ?_)
    intro n16 hn16
    try simp only [List.length_map] at hn16
    refine qo_q rfl (q_int rfl rfl ?_)
    intro b17 hb17; cases b17
    · replace hb17 := dF hb17
      refine qo_nil ?_
      refine ev_nil (hK15 _ ?_); clear hK15
      refine good_condF rfl ?_
      refine good_skip (hK14 _ ?_); clear hK14
      refine good_seq fun K18 hK18 => ?_
      refine gr rfl ?_
      refine em rfl (by conv=>lhs;whnf) ?_
      refine ev_q rfl (q_nilCheck (by conv=>lhs;whnf) rfl ?_)
      refine ev_q rfl (q_fieldAddrP fO108_2 rfl rfl ?_)
      refine ev_q rfl (q_load tA106 rfl ?_)
      refine ev_q rfl (q_shr rfl rfl ⟨by omega, ?_⟩)
      intro n19 hn19
      skip
      refine ei rfl rfl rfl ?_
      intro n20 hn20
      have hv := and255 hn20
      refine ev_q rfl (q_conv tK106 tK2 rfl ?_)
      intro n21 hn21
      replace hn21 := in64 hn21 (by omega) (by omega)
      refine ea rfl (by conv=>lhs;whnf) ?_
      refine ev_nil (hK18 _ ?_); clear hK18
      refine good_ret ?_
      repeat first|refine thenQ_ret ?_|refine blockQ_ret ?_
      apply ex_3
      case hF =>
        refine fx_tmp rfl (by conv=>lhs;whnf) ?_
        exact ⟨_, conv_eq (by first | rfl | exact fI (by first | omega | grind) | (exfalso; first | omega | grind)), weakH_box (boxEq (by first | rfl | (rw [e]; done) | (rw [e]; rfl) | (simp_all; done))) rfl (weakH_none _), refsIn_ok rfl⟩
      case hR =>
        exact ⟨by omega, by omega⟩
    · replace hb17 := dT hb17
      refine qo_nil ?_
      refine ev_nil (hK15 _ ?_); clear hK15
      refine good_condT rfl ?_
      refine good_seq fun K22 hK22 => ?_
      refine gr rfl ?_
      refine em rfl (by conv=>lhs;whnf) ?_
      refine ea rfl (by conv=>lhs;whnf) ?_
      refine ev_nil (hK22 _ ?_); clear hK22
      refine good_ret ?_
      repeat first|refine thenQ_ret ?_|refine blockQ_ret ?_
      clear hK14
      apply ex_3
      case hF =>
        refine fx_tmp rfl (by conv=>lhs;whnf) ?_
        exact ⟨_, conv_eq (by first | rfl | exact fI (by first | omega | grind) | (exfalso; first | omega | grind)), weakH_box (boxEq (by first | rfl | (rw [e]; done) | (rw [e]; rfl) | (simp_all; done))) rfl (weakH_none _), refsIn_ok rfl⟩
      case hR =>
        exact ⟨by omega, by omega⟩
  · replace hb6 := dT hb6
    obtain ⟨p, hp⟩ := getL (xs := cs) (n := a) (by omega) (by omega)
    have hpb := hb p (List.mem_of_getElem? hp)
    refine qo_nil ?_
    refine ev_nil (hK4 _ ?_); clear hK4
    refine good_condT rfl ?_
    refine good_draw 12 hmix (by kernel_rfl) rfl ?_
    refine qm rfl (by conv=>lhs;whnf) ?_
    refine qo_q rfl (q_nilCheck (by conv=>lhs;whnf) rfl ?_)
    refine qo_q rfl (q_fieldAddrP fO108_0 rfl rfl ?_)
    refine qo_q rfl (q_load tA37 rfl ?_)
    refine qm rfl (by conv=>lhs;whnf) ?_
    refine qo_q rfl (q_nilCheck (by conv=>lhs;whnf) rfl ?_)
    refine qo_q rfl (q_fieldAddrP fO108_1 rfl rfl ?_)
    refine qo_q rfl (q_load tA3 rfl ?_)
    refine qo_q rfl (q_idx tE37 rfl rfl (by omega) (by exact map_get hp) rfl ?_)
    refine qo_q rfl (q_load tA5 rfl ?_)
    refine qo_q rfl (q_conv tK5 tK3 rfl ?_)
    intro n23 hn23
    replace hn23 := in64 hn23 (by omega) (by omega)
    refine qa rfl (by conv=>lhs;whnf) ?_
    refine qo_nil ?_
    refine ev_nil (hK3 _ ?_); clear hK3
    refine good_seq fun K24 hK24 => ?_
    refine gr rfl ?_
    refine em rfl (by conv=>lhs;whnf) ?_
    refine ev_q rfl (q_nilCheck (by conv=>lhs;whnf) rfl ?_)
    refine ev_q rfl (q_fieldAddrP fO108_1 rfl rfl ?_)
    refine ev_q rfl (q_load tA3 rfl ?_)
    refine ei rfl rfl rfl ?_
    intro n25 hn25
    replace hn25 := in64 hn25 (by omega) (by omega)
    refine ev_q rfl (q_nilCheck (by conv=>lhs;whnf) rfl ?_)
    refine ev_q rfl (q_fieldAddrP fO108_1 rfl rfl ?_)
    refine ev_k rfl (k_store sz3 rfl (by conv=>lhs;whnf) rfl rfl rfl (Nat.le_of_ble_eq_true rfl) rfl ?_)
    refine ev_nil (hK24 _ ?_); clear hK24
    refine good_seq fun K26 hK26 => ?_
    refine gr rfl ?_
    refine em rfl (by conv=>lhs;whnf) ?_
    refine em rfl (by conv=>lhs;whnf) ?_
    refine ev_q rfl (q_nilCheck (by conv=>lhs;whnf) rfl ?_)
    refine ev_q rfl (q_fieldAddrP fO108_2 rfl rfl ?_)
    refine ev_q rfl (q_load tA106 rfl ?_)
    refine ei rfl rfl rfl ?_
    intro n27 hn27
    skip
    refine em rfl (by conv=>lhs;whnf) ?_
    refine ev_q rfl (q_conv tK3 tK106 rfl ?_)
    intro n28 hn28
    skip
    refine ei rfl rfl rfl ?_
    intro n29 hn29
    skip
    refine ei rfl rfl rfl ?_
    intro n30 hn30
    skip
    refine ev_q rfl (q_nilCheck (by conv=>lhs;whnf) rfl ?_)
    refine ev_q rfl (q_fieldAddrP fO108_2 rfl rfl ?_)
    refine ev_k rfl (k_store sz106 rfl (by conv=>lhs;whnf) rfl rfl rfl (Nat.le_of_ble_eq_true rfl) rfl ?_)
    refine ev_nil (hK26 _ ?_); clear hK26
    refine good_seq fun K31 hK31 => ?_
    refine good_seq fun K32 hK32 => ?_
    refine good_draw 10 hmix (by kernel_rfl) rfl ?_
    refine qm rfl (by conv=>lhs;whnf) ?_
    refine qo_q rfl (q_nilCheck (by conv=>lhs;whnf) rfl ?_)
    refine qo_q rfl (q_fieldAddrP fO108_1 rfl rfl ?_)
    refine qo_q rfl (q_load tA3 rfl ?_)
    refine qm rfl (by conv=>lhs;whnf) ?_
    refine qo_q rfl (q_nilCheck (by conv=>lhs;whnf) rfl ?_)
    refine qo_q rfl (q_fieldAddrP fO108_0 rfl rfl ?_)
    refine qo_q rfl (q_load tA37 rfl ?_)
    refine qo_q rfl (q_len tEs37 rfl ?_)
    intro n33 hn33
    try simp only [List.length_map] at hn33
    refine qo_q rfl (q_int rfl rfl ?_)
    intro b34 hb34; cases b34
    · replace hb34 := dF hb34
      refine qo_nil ?_
      refine ev_nil (hK32 _ ?_); clear hK32
      refine good_condF rfl ?_
      refine good_skip (hK31 _ ?_); clear hK31
      refine good_seq fun K35 hK35 => ?_
      refine gr rfl ?_
      refine em rfl (by conv=>lhs;whnf) ?_
      refine ev_q rfl (q_nilCheck (by conv=>lhs;whnf) rfl ?_)
      refine ev_q rfl (q_fieldAddrP fO108_2 rfl rfl ?_)
      refine ev_q rfl (q_load tA106 rfl ?_)
      refine ev_q rfl (q_shr rfl rfl ⟨by omega, ?_⟩)
      intro n36 hn36
      skip
      refine ei rfl rfl rfl ?_
      intro n37 hn37
      have hv := and255 hn37
      refine ev_q rfl (q_conv tK106 tK2 rfl ?_)
      intro n38 hn38
      replace hn38 := in64 hn38 (by omega) (by omega)
      refine ea rfl (by conv=>lhs;whnf) ?_
      refine ev_nil (hK35 _ ?_); clear hK35
      refine good_ret ?_
      repeat first|refine thenQ_ret ?_|refine blockQ_ret ?_
      apply ex_3
      case hF =>
        refine fx_tmp rfl (by conv=>lhs;whnf) ?_
        exact ⟨_, conv_eq (by first | rfl | exact fI (by first | omega | grind) | (exfalso; first | omega | grind)), weakH_box (boxEq (by first | rfl | (rw [e]; done) | (rw [e]; rfl) | (simp_all; done))) rfl (weakH_none _), refsIn_ok rfl⟩
      case hR =>
        exact ⟨by omega, by omega⟩
    · replace hb34 := dT hb34
      refine qo_nil ?_
      refine ev_nil (hK32 _ ?_); clear hK32
      refine good_condT rfl ?_
      refine good_seq fun K39 hK39 => ?_
      refine gr rfl ?_
      refine em rfl (by conv=>lhs;whnf) ?_
      refine ea rfl (by conv=>lhs;whnf) ?_
      refine ev_nil (hK39 _ ?_); clear hK39
      refine good_ret ?_
      repeat first|refine thenQ_ret ?_|refine blockQ_ret ?_
      clear hK31
      apply ex_3
      case hF =>
        refine fx_tmp rfl (by conv=>lhs;whnf) ?_
        exact ⟨_, conv_eq (by first | rfl | exact fI (by first | omega | grind) | (exfalso; first | omega | grind)), weakH_box (boxEq (by first | rfl | (rw [e]; done) | (rw [e]; rfl) | (simp_all; done))) rfl (weakH_none _), refsIn_ok rfl⟩
      case hR =>
        exact ⟨by omega, by omega⟩

-- (*spec.l00Src).pick
theorem D_spec_l00Src_pick (cs : List Int) (a s : Int) (n : Int) (hc : cs.length ≤ 17592186044416) (hb : byteL cs) (ha : 0 ≤ a ∧ a ≤ 3999999999999999998) (hn : -1000000000000 ≤ n ∧ n ≤ 1000000000000) : DenXR Tryz.prog 91 [(1000000, .box 108 (src cs a s))] [.ptr 1000000 0, .s (.int .i64 n)] (τ := Int × Int × Int) (fun (v, a1, s1) => (0 ≤ v ∧ (v = 0 ∨ v < n)) ∧ (a ≤ a1 ∧ a1 ≤ a + 2)) (fun (v, a1, s1) => [(1000000, .box 108 (src cs a1 s1))]) (fun (v, a1, s1) => .s (.int .i64 v)) := by
  refine denXR_of_good Tryz.func91 (by decide) rfl (Nat.le_of_ble_eq_true rfl) (Nat.le_of_ble_eq_true rfl) rfl ?_
  refine good_seq fun K1 hK1 => ?_
  refine gr rfl ?_
  refine ea rfl (by conv=>lhs;whnf) ?_
  refine ev_nil (hK1 _ ?_); clear hK1
  refine good_seq fun K2 hK2 => ?_
  refine good_seq fun K3 hK3 => ?_
  refine gr rfl ?_
  refine em rfl (by conv=>lhs;whnf) ?_
  refine ei rfl rfl rfl ?_
  intro b4 hb4; cases b4
  · replace hb4 := dF hb4
    refine ev_nil (hK3 _ ?_); clear hK3
    refine good_condF rfl ?_
    refine good_skip (hK2 _ ?_); clear hK2
    refine good_seq fun K5 hK5 => ?_
    refine gr rfl ?_
    refine em rfl (by conv=>lhs;whnf) ?_
    refine ev_k rfl (k_callR [(1000000, 1000000)] (D_spec_l00Src_next cs _ _  hc hb (by omega)) rfl (rfl) (rfl) ⟨rfl, trivial⟩ rfl (by rintro ⟨v6, a6, s6⟩ ⟨hx6_0, hx6_1⟩; exact ⟨⟨rfl, rfl, trivial⟩, rfl⟩) rfl rfl ?_)
    rintro ⟨v6, a6, s6⟩ ⟨hx6_0, hx6_1⟩
    refine ea rfl (by conv=>lhs;whnf) ?_
    refine ev_nil (hK5 _ ?_); clear hK5
    refine good_seq fun K7 hK7 => ?_
    refine good_seq fun K8 hK8 => ?_
    refine gr rfl ?_
    refine em rfl (by conv=>lhs;whnf) ?_
    refine ei rfl rfl rfl ?_
    intro b9 hb9; cases b9
    · replace hb9 := dF hb9
      refine ev_nil (hK8 _ ?_); clear hK8
      refine good_condF rfl ?_
      refine good_skip (hK7 _ ?_); clear hK7
      refine good_seq fun K10 hK10 => ?_
      refine gr rfl ?_
      refine em rfl (by conv=>lhs;whnf) ?_
      refine em rfl (by conv=>lhs;whnf) ?_
      refine ei rfl rfl rfl ⟨by omega, ?_⟩
      intro n11 hn11
      replace hn11 := remE hn11 (by omega)
      have hr : 0 ≤ n11 ∧ n11 < n := by rw [hn11]; exact ⟨Int.emod_nonneg _ (by omega), Int.emod_lt_of_pos _ (by omega)⟩
      refine ea rfl (by conv=>lhs;whnf) ?_
      refine ev_nil (hK10 _ ?_); clear hK10
      refine good_ret ?_
      repeat first|refine thenQ_ret ?_|refine blockQ_ret ?_
      apply ex_3
      case hF =>
        refine fx_tmp rfl (by conv=>lhs;whnf) ?_
        exact ⟨_, conv_eq (by first | rfl | exact fI (by first | omega | grind) | (exfalso; first | omega | grind)), weakH_box (boxEq (by first | rfl | (rw [e]; done) | (rw [e]; rfl) | (simp_all; done))) rfl (weakH_none _), refsIn_ok rfl⟩
      case hR =>
        exact ⟨by omega, by omega⟩
    · replace hb9 := dT hb9
      refine ev_nil (hK8 _ ?_); clear hK8
      refine good_condT rfl ?_
      refine gr rfl ?_
      refine em rfl (by conv=>lhs;whnf) ?_
      refine ei rfl rfl rfl ?_
      intro n12 hn12
      replace hn12 := in64 hn12 (by omega) (by omega)
      refine em rfl (by conv=>lhs;whnf) ?_
      refine ev_k rfl (k_callR [(1000000, 1000000)] (D_spec_l00Src_next cs _ _  hc hb (by omega)) rfl (rfl) (rfl) ⟨rfl, trivial⟩ rfl (by rintro ⟨v13, a13, s13⟩ ⟨hx13_0, hx13_1⟩; exact ⟨⟨rfl, rfl, trivial⟩, rfl⟩) rfl rfl ?_)
      rintro ⟨v13, a13, s13⟩ ⟨hx13_0, hx13_1⟩
      refine ei rfl rfl rfl ?_
      intro n14 hn14
      replace hn14 := in64 hn14 (by omega) (by omega)
      refine ea rfl (by conv=>lhs;whnf) ?_
      refine ev_nil (hK7 _ ?_); clear hK7
      refine good_seq fun K15 hK15 => ?_
      refine gr rfl ?_
      refine em rfl (by conv=>lhs;whnf) ?_
      refine em rfl (by conv=>lhs;whnf) ?_
      refine ei rfl rfl rfl ⟨by omega, ?_⟩
      intro n16 hn16
      replace hn16 := remE hn16 (by omega)
      have hr : 0 ≤ n16 ∧ n16 < n := by rw [hn16]; exact ⟨Int.emod_nonneg _ (by omega), Int.emod_lt_of_pos _ (by omega)⟩
      refine ea rfl (by conv=>lhs;whnf) ?_
      refine ev_nil (hK15 _ ?_); clear hK15
      refine good_ret ?_
      repeat first|refine thenQ_ret ?_|refine blockQ_ret ?_
      apply ex_3
      case hF =>
        refine fx_tmp rfl (by conv=>lhs;whnf) ?_
        exact ⟨_, conv_eq (by first | rfl | exact fI (by first | omega | grind) | (exfalso; first | omega | grind)), weakH_box (boxEq (by first | rfl | (rw [e]; done) | (rw [e]; rfl) | (simp_all; done))) rfl (weakH_none _), refsIn_ok rfl⟩
      case hR =>
        exact ⟨by omega, by omega⟩
  · replace hb4 := dT hb4
    refine ev_nil (hK3 _ ?_); clear hK3
    refine good_condT rfl ?_
    refine good_seq fun K17 hK17 => ?_
    refine gr rfl ?_
    refine ea rfl (by conv=>lhs;whnf) ?_
    refine ev_nil (hK17 _ ?_); clear hK17
    refine good_ret ?_
    repeat first|refine thenQ_ret ?_|refine blockQ_ret ?_
    clear hK2
    apply ex_3
    case hF =>
      refine fx_tmp rfl (by conv=>lhs;whnf) ?_
      exact ⟨_, conv_eq (by first | rfl | exact fI (by first | omega | grind) | (exfalso; first | omega | grind)), weakH_box (boxEq (by first | rfl | (rw [e]; done) | (rw [e]; rfl) | (simp_all; done))) rfl (weakH_none _), refsIn_ok rfl⟩
    case hR =>
      exact ⟨by omega, by omega⟩

-- (*spec.l00Src).one
theorem D_spec_l00Src_one (cs : List Int) (a s : Int) (n : Int) (hc : cs.length ≤ 17592186044416) (hb : byteL cs) (ha : 0 ≤ a ∧ a ≤ 3999999999999999998) (hn : -1000000000000 ≤ n ∧ n ≤ 1000000000000) : DenXR Tryz.prog 93 [(1000000, .box 108 (src cs a s))] [.ptr 1000000 0, .s (.int .i64 n)] (τ := Bool × Int × Int) (fun (v, a1, s1) => a ≤ a1 ∧ a1 ≤ a + 2) (fun (v, a1, s1) => [(1000000, .box 108 (src cs a1 s1))]) (fun (v, a1, s1) => .s (.bool v)) := by
  refine denXR_of_good Tryz.func93 (by decide) rfl (Nat.le_of_ble_eq_true rfl) (Nat.le_of_ble_eq_true rfl) rfl ?_
  refine good_seq fun K1 hK1 => ?_
  refine gr rfl ?_
  refine ea rfl (by conv=>lhs;whnf) ?_
  refine ev_nil (hK1 _ ?_); clear hK1
  refine good_seq fun K2 hK2 => ?_
  refine gr rfl ?_
  refine em rfl (by conv=>lhs;whnf) ?_
  refine em rfl (by conv=>lhs;whnf) ?_
  refine ev_k rfl (k_callR [(1000000, 1000000)] (D_spec_l00Src_pick cs _ _ _ hc hb (by omega) (by omega)) rfl (rfl) (rfl) ⟨rfl, trivial⟩ rfl (by rintro ⟨v3, a3, s3⟩ ⟨hx3_0, hx3_1⟩; exact ⟨⟨rfl, rfl, trivial⟩, rfl⟩) rfl rfl ?_)
  rintro ⟨v3, a3, s3⟩ ⟨hx3_0, hx3_1⟩
  refine ei rfl rfl rfl ?_
  intro b4 hb4; cases b4
  · replace hb4 := eqF hb4
    refine ea rfl (by conv=>lhs;whnf) ?_
    refine ev_nil (hK2 _ ?_); clear hK2
    refine good_ret ?_
    repeat first|refine thenQ_ret ?_|refine blockQ_ret ?_
    apply ex_3
    case hF =>
      refine fx_tmp rfl (by conv=>lhs;whnf) ?_
      exact ⟨_, conv_eq (by first | rfl | exact fT (by first | omega | grind) | exact fF (by first | omega | grind) | exact fT' (by first | omega | grind) | (exfalso; first | omega | grind)), weakH_box (boxEq (by first | rfl | (rw [e]; done) | (rw [e]; rfl) | (simp_all; done))) rfl (weakH_none _), refsIn_ok rfl⟩
    case hR =>
      exact ⟨by omega, by omega⟩
  · replace hb4 := eqT hb4
    refine ea rfl (by conv=>lhs;whnf) ?_
    refine ev_nil (hK2 _ ?_); clear hK2
    refine good_ret ?_
    repeat first|refine thenQ_ret ?_|refine blockQ_ret ?_
    apply ex_3
    case hF =>
      refine fx_tmp rfl (by conv=>lhs;whnf) ?_
      exact ⟨_, conv_eq (by first | rfl | exact fT (by first | omega | grind) | exact fF (by first | omega | grind) | exact fT' (by first | omega | grind) | (exfalso; first | omega | grind)), weakH_box (boxEq (by first | rfl | (rw [e]; done) | (rw [e]; rfl) | (simp_all; done))) rfl (weakH_none _), refsIn_ok rfl⟩
    case hR =>
      exact ⟨by omega, by omega⟩

-- (*spec.l00Src).among
theorem D_spec_l00Src_among (cs : List Int) (a s : Int) (xs : List Int) (hc : cs.length ≤ 17592186044416) (hb : byteL cs) (ha : 0 ≤ a ∧ a ≤ 3999999999999999998) (hx : 1 ≤ xs.length ∧ xs.length ≤ 1000000) : DenXR Tryz.prog 50 [(1000000, .box 108 (src cs a s)), (1000001, .row 2 1 (xs.map ci))] [.ptr 1000000 0, .own 1000001 xs.length] (τ := Int × Int × Int) (fun (v, a1, s1) => (v ∈ xs) ∧ (a ≤ a1 ∧ a1 ≤ a + 2)) (fun (v, a1, s1) => [(1000000, .box 108 (src cs a1 s1)), (1000001, .row 2 1 (xs.map ci))]) (fun (v, a1, s1) => .s (.int .i64 v)) := by
  refine denXR_of_good Tryz.func50 (by decide) rfl (Nat.le_of_ble_eq_true rfl) (Nat.le_of_ble_eq_true rfl) rfl ?_
  refine good_seq fun K1 hK1 => ?_
  refine gr rfl ?_
  refine ea rfl (by conv=>lhs;whnf) ?_
  refine ev_nil (hK1 _ ?_); clear hK1
  refine good_seq fun K2 hK2 => ?_
  refine gr rfl ?_
  refine em rfl (by conv=>lhs;whnf) ?_
  refine em rfl (by conv=>lhs;whnf) ?_
  refine em rfl (by conv=>lhs;whnf) ?_
  refine ev_q rfl (q_len tEs22 rfl ?_)
  intro n3 hn3
  try simp only [List.length_map] at hn3
  refine ev_k rfl (k_callR [(1000000, 1000000)] (D_spec_l00Src_pick cs _ _ _ hc hb (by omega) (by omega)) rfl (rfl) (rfl) ⟨rfl, trivial⟩ rfl (by rintro ⟨v4, a4, s4⟩ ⟨hx4_0, hx4_1⟩; exact ⟨⟨rfl, rfl, trivial⟩, rfl⟩) rfl rfl ?_)
  rintro ⟨v4, a4, s4⟩ ⟨hx4_0, hx4_1⟩
  obtain ⟨p, hp⟩ := getL (xs := xs) (n := v4) (by omega) (by omega)
  refine ev_q rfl (q_idxO tE22 rfl rfl rfl (by omega) (by omega) rfl ?_)
  refine ev_q rfl (q_loadE tA2 rfl rfl (by exact map_get hp) rfl ?_)
  refine ea rfl (by conv=>lhs;whnf) ?_
  refine ev_nil (hK2 _ ?_); clear hK2
  refine good_ret ?_
  repeat first|refine thenQ_ret ?_|refine blockQ_ret ?_
  apply ex_3
  case hF =>
    refine fx_tmp rfl (by conv=>lhs;whnf) ?_
    exact ⟨_, conv_eq (by first | rfl | exact fI (by first | omega | grind) | (exfalso; first | omega | grind)), weakH_box (boxEq (by first | rfl | (rw [e]; done) | (rw [e]; rfl) | (simp_all; done))) rfl (weakH_row (rowEq (by first | rfl | (rw [e]; done) | (rw [e]; rfl) | (simp_all; done))) (weakH_none _)), refsIn_ok rfl⟩
  case hR =>
    exact ⟨List.mem_of_getElem? hp, by omega, by omega⟩

-- spec.l00From
theorem D_spec_l00From (cs : List Int)  : DenX Tryz.prog 48 [] [.lst 1 (cs.map cb)] [(5, .box 108 (src cs 0 0))] (.ptr 5 0) := by
  refine denX_of_good Tryz.func48 (by decide) rfl (Nat.le_of_ble_eq_true rfl) (Nat.le_of_ble_eq_true rfl) rfl ?_
  refine good_seq fun K1 hK1 => ?_
  refine gr rfl ?_
  refine ea rfl (by conv=>lhs;whnf) ?_
  refine ev_nil (hK1 _ ?_); clear hK1
  refine good_seq fun K2 hK2 => ?_
  refine gr rfl ?_
  refine em rfl (by conv=>lhs;whnf) ?_
  refine ev_k rfl (k_build zA108 pl108 (rfl) ?_)
  refine ev_k rfl (k_box (by conv=>lhs;whnf) rfl rfl rfl ?_)
  refine ea rfl (by conv=>lhs;whnf) ?_
  refine ev_nil (hK2 _ ?_); clear hK2
  refine good_ret ?_
  repeat first|refine thenQ_ret ?_|refine blockQ_ret ?_
  refine fx_tmp rfl (by conv=>lhs;whnf) ?_
  exact ⟨_, conv_eq (by first | rfl | (rw [e]; done) | (rw [e]; rfl) | exact ownEq (by first | omega | simp_all)), weakH_box (boxEq (by first | rfl | (rw [e]; done) | (rw [e]; rfl) | (simp_all; done))) rfl (weakH_none _), refsIn_ok rfl⟩

-- spec.l03DrawOk
theorem D_spec_l03DrawOk (cs : List Int) (a s : Int) (nm : ByteArray) (f t : Int) (hc : cs.length ≤ 17592186044416) (hb : byteL cs) (ha : 0 ≤ a ∧ a ≤ 3999999999999999994)  : DenXR Tryz.prog 94 [(1000000, .box 108 (src cs a s))] [.ptr 1000000 0, .s (.string nm), .s (.int .i64 f), .s (.int .i64 t)] (τ := Pi × Int × Int) (fun (v, a1, s1) => (v.id = nm ∧ v.fm = f ∧ v.tt = t ∧ dpB v) ∧ (a ≤ a1 ∧ a1 ≤ a + 6)) (fun (v, a1, s1) => [(1000000, .box 108 (src cs a1 s1))]) (fun (v, a1, s1) => .agg [.s (.string v.id), .s (.int .i64 (v.fm)), .s (.int .i64 (v.tt)), .s (.int .i64 (v.le)), .s (.int .i64 (v.di)), .s (.int .i64 (v.lo))]) := by
  refine denXR_of_good Tryz.func94 (by decide) rfl (Nat.le_of_ble_eq_true rfl) (Nat.le_of_ble_eq_true rfl) rfl ?_
  refine good_seq fun K1 hK1 => ?_
  refine gr rfl ?_
  refine ev_k rfl (k_alloc zA95 rfl ?_)
  refine ev_nil (hK1 _ ?_); clear hK1
  refine good_seq fun K2 hK2 => ?_
  refine gr rfl ?_
  refine em rfl (by conv=>lhs;whnf) ?_
  refine em rfl (by conv=>lhs;whnf) ?_
  refine em rfl (by conv=>lhs;whnf) ?_
  refine em rfl (by conv=>lhs;whnf) ?_
  refine ev_k rfl (k_callR [(1000000, 1000000)] (D_spec_l00Src_pick cs _ _ _ hc hb (by omega) (by omega)) rfl (rfl) (rfl) ⟨rfl, trivial⟩ rfl (by rintro ⟨v3, a3, s3⟩ ⟨hx3_0, hx3_1⟩; exact ⟨⟨rfl, rfl, trivial⟩, rfl⟩) rfl rfl ?_)
  rintro ⟨v3, a3, s3⟩ ⟨hx3_0, hx3_1⟩
  refine ei rfl rfl rfl ?_
  intro n4 hn4
  replace hn4 := in64 hn4 (by omega) (by omega)
  refine ev_k rfl (k_build zA95 pl95 (rfl) ?_)
  refine ev_k rfl (k_alloc zA95 rfl ?_)
  refine ev_k rfl (k_store sz95 rfl (by conv=>lhs;whnf) rfl rfl rfl (Nat.le_of_ble_eq_true rfl) rfl ?_)
  refine ev_nil (hK2 _ ?_); clear hK2
  refine good_seq fun K5 hK5 => ?_
  refine good_weak (st' := { env := upd (upd (upd ((fun _ => .junk)) 0 (.ptr 1000000 0)) 8 (.ptr 8 0)) 9 (.ptr 9 0), H := upd (upd (upd ((fun _ => none)) 9 (some (.box 95 [.s (.string nm), .s (.int .i64 f), .s (.int .i64 t), .s (.int .i64 (n4)), .s (.int .i64 0), .s (.int .i64 0)]))) 8 (some (.box 95 [.s (.string ⟨#[]⟩), .s (.int .i64 0), .s (.int .i64 0), .s (.int .i64 0), .s (.int .i64 0), .s (.int .i64 0)]))) 1000000 (some (.box 108 (src cs a3 s3))) }) ?_ ?_
  · refine sub_weak ?_ ?_
    · exact weakH_box (boxEq (rfl)) rfl (weakH_box (boxEq (rfl)) rfl (weakH_box (boxEq (rfl)) rfl (weakH_none _)))
    · refine weakE_upd ?e9 ?r9 (weakE_upd ?e8 ?r8 (weakE_upd ?e0 ?r0 (weakE_junk _ _)))
      case e0 => first | rfl | exact fI (by omega) | (rfl)
      case r0 => intro h hh; simp [refs] at hh; subst hh; rfl
      case e8 => first | rfl | exact fI (by omega) | (rfl)
      case r8 => intro h hh; simp [refs] at hh; subst hh; rfl
      case e9 => first | rfl | exact fI (by omega) | (rfl)
      case r9 => intro h hh; simp [refs] at hh; subst hh; rfl
  refine gr rfl ?_
  refine em rfl (by conv=>lhs;whnf) ?_
  refine ev_k rfl (k_callR [(1000000, 1000000)] (D_spec_l00Src_pick cs _ _ _ hc hb (by omega) (by omega)) rfl (rfl) (rfl) ⟨rfl, trivial⟩ rfl (by rintro ⟨v6, a6, s6⟩ ⟨hx6_0, hx6_1⟩; exact ⟨⟨rfl, rfl, trivial⟩, rfl⟩) rfl rfl ?_)
  rintro ⟨v6, a6, s6⟩ ⟨hx6_0, hx6_1⟩
  refine ei rfl rfl rfl ?_
  intro n7 hn7
  replace hn7 := in64 hn7 (by omega) (by omega)
  refine ei rfl rfl rfl ?_
  intro n8 hn8
  replace hn8 := in64 hn8 (by omega) (by omega)
  refine ev_q rfl (q_fieldAddrP fO95_4 rfl rfl ?_)
  refine ev_k rfl (k_store sz2 rfl (by conv=>lhs;whnf) rfl rfl rfl (Nat.le_of_ble_eq_true rfl) rfl ?_)
  refine ev_nil (hK5 _ ?_); clear hK5
  refine good_seq fun K9 hK9 => ?_
  refine good_weak (st' := { env := upd (upd (upd ((fun _ => .junk)) 0 (.ptr 1000000 0)) 8 (.ptr 8 0)) 9 (.ptr 9 0), H := upd (upd (upd ((fun _ => none)) 9 (some (.box 95 [.s (.string nm), .s (.int .i64 f), .s (.int .i64 t), .s (.int .i64 (n4)), .s (.int .i64 (n8)), .s (.int .i64 0)]))) 8 (some (.box 95 [.s (.string ⟨#[]⟩), .s (.int .i64 0), .s (.int .i64 0), .s (.int .i64 0), .s (.int .i64 0), .s (.int .i64 0)]))) 1000000 (some (.box 108 (src cs a6 s6))) }) ?_ ?_
  · refine sub_weak ?_ ?_
    · exact weakH_box (boxEq (rfl)) rfl (weakH_box (boxEq (rfl)) rfl (weakH_box (boxEq (rfl)) rfl (weakH_none _)))
    · refine weakE_upd ?e9 ?r9 (weakE_upd ?e8 ?r8 (weakE_upd ?e0 ?r0 (weakE_junk _ _)))
      case e0 => first | rfl | exact fI (by omega) | (rfl)
      case r0 => intro h hh; simp [refs] at hh; subst hh; rfl
      case e8 => first | rfl | exact fI (by omega) | (rfl)
      case r8 => intro h hh; simp [refs] at hh; subst hh; rfl
      case e9 => first | rfl | exact fI (by omega) | (rfl)
      case r9 => intro h hh; simp [refs] at hh; subst hh; rfl
  refine gr rfl ?_
  refine em rfl (by conv=>lhs;whnf) ?_
  refine ev_k rfl (k_callR [(1000000, 1000000)] (D_spec_l00Src_pick cs _ _ _ hc hb (by omega) (by omega)) rfl (rfl) (rfl) ⟨rfl, trivial⟩ rfl (by rintro ⟨v10, a10, s10⟩ ⟨hx10_0, hx10_1⟩; exact ⟨⟨rfl, rfl, trivial⟩, rfl⟩) rfl rfl ?_)
  rintro ⟨v10, a10, s10⟩ ⟨hx10_0, hx10_1⟩
  refine ei rfl rfl rfl ?_
  intro n11 hn11
  replace hn11 := in64 hn11 (by omega) (by omega)
  refine ev_q rfl (q_fieldAddrP fO95_5 rfl rfl ?_)
  refine ev_k rfl (k_store sz2 rfl (by conv=>lhs;whnf) rfl rfl rfl (Nat.le_of_ble_eq_true rfl) rfl ?_)
  refine ev_nil (hK9 _ ?_); clear hK9
  refine good_seq fun K12 hK12 => ?_
  refine good_weak (st' := { env := upd (upd (upd ((fun _ => .junk)) 0 (.ptr 1000000 0)) 8 (.ptr 8 0)) 9 (.ptr 9 0), H := upd (upd (upd ((fun _ => none)) 9 (some (.box 95 [.s (.string nm), .s (.int .i64 f), .s (.int .i64 t), .s (.int .i64 (n4)), .s (.int .i64 (n8)), .s (.int .i64 (n11))]))) 8 (some (.box 95 [.s (.string ⟨#[]⟩), .s (.int .i64 0), .s (.int .i64 0), .s (.int .i64 0), .s (.int .i64 0), .s (.int .i64 0)]))) 1000000 (some (.box 108 (src cs a10 s10))) }) ?_ ?_
  · refine sub_weak ?_ ?_
    · exact weakH_box (boxEq (rfl)) rfl (weakH_box (boxEq (rfl)) rfl (weakH_box (boxEq (rfl)) rfl (weakH_none _)))
    · refine weakE_upd ?e9 ?r9 (weakE_upd ?e8 ?r8 (weakE_upd ?e0 ?r0 (weakE_junk _ _)))
      case e0 => first | rfl | exact fI (by omega) | (rfl)
      case r0 => intro h hh; simp [refs] at hh; subst hh; rfl
      case e8 => first | rfl | exact fI (by omega) | (rfl)
      case r8 => intro h hh; simp [refs] at hh; subst hh; rfl
      case e9 => first | rfl | exact fI (by omega) | (rfl)
      case r9 => intro h hh; simp [refs] at hh; subst hh; rfl
  refine gr rfl ?_
  refine ev_q rfl (q_loadA tA95 rfl rfl rfl ?_)
  refine ev_k rfl (k_store sz95 rfl (by conv=>lhs;whnf) rfl rfl rfl (Nat.le_of_ble_eq_true rfl) rfl ?_)
  refine ev_nil (hK12 _ ?_); clear hK12
  refine good_ret ?_
  repeat first|refine thenQ_ret ?_|refine blockQ_ret ?_
  refine ex_3 (v := ⟨nm, f, t, n4, n8, n11⟩) (a := a10) (b := s10) ?hF ?hR
  case hF =>
    refine fx_cell rfl tA95 rfl rfl rfl ?_
    exact ⟨_, conv_eq (by first | rfl | exact fAgg1 (by first | rfl | exact ownEq (by first | done | omega | (simp; done)) | (simp_all; done)) (fAgg1 (by first | rfl | exact fI (by first | omega | grind) | (exfalso; first | omega | grind)) (fAgg1 (by first | rfl | exact fI (by first | omega | grind) | (exfalso; first | omega | grind)) (fAgg1 (by first | rfl | exact fI (by first | omega | grind) | (exfalso; first | omega | grind)) (fAgg1 (by first | rfl | exact fI (by first | omega | grind) | (exfalso; first | omega | grind)) (fAgg1 (by first | rfl | exact fI (by first | omega | grind) | (exfalso; first | omega | grind)) (rfl))))))), weakH_box (boxEq (by first | rfl | (rw [e]; done) | (rw [e]; rfl) | (simp_all; done))) rfl (weakH_none _), refsIn_ok rfl⟩
  case hR =>
    exact ⟨⟨rfl, rfl, rfl, by unfold dpB; dsimp only; omega⟩, by omega⟩

-- spec.l04Ids
theorem D_spec_l04Ids   : DenX Tryz.prog 92 [] [] [(900001, .row 9 1 (idL.map sAV))] (.own 900001 12) := by
  refine denX_of_good Tryz.func92 (by decide) rfl (Nat.le_of_ble_eq_true rfl) (Nat.le_of_ble_eq_true rfl) rfl ?_
  refine good_seq fun K1 hK1 => ?_
  refine gr rfl ?_
  refine ea rfl (by conv=>lhs;whnf) ?_
  refine ev_nil (hK1 _ ?_); clear hK1
  refine good_seq fun K2 hK2 => ?_
  refine gr rfl ?_
  refine ev_k rfl (k_lit tE109 zA9 rfl rfl (by decide) (by decide) rfl rfl rfl ?_)
  refine ea rfl (by conv=>lhs;whnf) ?_
  refine ev_nil (hK2 _ ?_); clear hK2
  refine good_weak (sub_move 0 1 900001 rfl rfl rfl (by decide)) ?_
  refine good_ret ?_
  repeat first|refine thenQ_ret ?_|refine blockQ_ret ?_
  refine fx_tmp rfl (by conv=>lhs;whnf) ?_
  exact ⟨_, conv_eq (by first | rfl | (rw [e]; done) | (rw [e]; rfl) | exact ownEq (by first | omega | simp_all)), weakH_row (rowEq (by first | rfl | (rw [e]; done) | (rw [e]; rfl) | (simp_all; done))) (weakH_none _), refsIn_ok rfl⟩

-- spec.l04DrawTree
theorem D_spec_l04DrawTree (cs : List Int) (a s : Int) (hc : cs.length ≤ 17592186044416) (hb : byteL cs) (ha : 0 ≤ a ∧ a ≤ 1000000000000000000) : DenXR Tryz.prog 49 [(1000000, .box 108 (src cs a s))] [.ptr 1000000 0] (τ := List Int × List Pi × Int × Int) (fun (ns, ps, a1, s1) => DrT ns ps ∧ (a ≤ a1 ∧ a1 ≤ a + 200)) (fun (ns, ps, a1, s1) => [(1000000, .box 108 (src cs a1 s1)), (900001, .row 2 1 (ns.map ci)), (900002, .row 95 6 (ps.map piA))]) (fun (ns, ps, a1, s1) => .agg [.own 900001 ns.length, .own 900002 ps.length]) := by
  refine denXR_of_good Tryz.func49 (by decide) rfl (Nat.le_of_ble_eq_true rfl) (Nat.le_of_ble_eq_true rfl) rfl ?_
  refine good_seq fun K1 hK1 => ?_
  refine gr rfl ?_
  refine ev_k rfl (k_alloc zA31 rfl ?_)
  refine ev_nil (hK1 _ ?_); clear hK1
  refine good_seq fun K2 hK2 => ?_
  refine gr rfl ?_
  refine ev_k rfl (k_lit tE22 zA2 rfl rfl (by decide) (by decide) rfl rfl rfl ?_)
  refine ev_k rfl (k_lit tE29 zA95 rfl rfl (by decide) (by decide) rfl rfl rfl ?_)
  refine ev_k rfl (k_build zA31 pl31 (rfl) ?_)
  refine ev_k rfl (k_alloc zA31 rfl ?_)
  refine ev_k rfl (k_store sz31 rfl (by conv=>lhs;whnf) rfl rfl rfl (Nat.le_of_ble_eq_true rfl) rfl ?_)
  refine ev_nil (hK2 _ ?_); clear hK2
  refine good_seq fun K3 hK3 => ?_
  refine gr rfl ?_
  refine em rfl (by conv=>lhs;whnf) ?_
  refine ev_k rfl (k_callR [(1000000, 1000000)] (D_spec_l00Src_pick cs _ _ _ hc hb (by omega) (by omega)) rfl (rfl) (rfl) ⟨rfl, trivial⟩ rfl (by rintro ⟨v4, a4, s4⟩ ⟨hx4_0, hx4_1⟩; exact ⟨⟨rfl, rfl, trivial⟩, rfl⟩) rfl rfl ?_)
  rintro ⟨v4, a4, s4⟩ ⟨hx4_0, hx4_1⟩
  refine ei rfl rfl rfl ?_
  intro n5 hn5
  replace hn5 := in64 hn5 (by omega) (by omega)
  refine ea rfl (by conv=>lhs;whnf) ?_
  refine ev_nil (hK3 _ ?_); clear hK3
  refine good_seq fun K6 hK6 => ?_
  refine good_seq fun K7 hK7 => ?_
  refine gr rfl ?_
  refine ea rfl (by conv=>lhs;whnf) ?_
  refine ev_nil (hK7 _ ?_); clear hK7
  refine good_block ?_
  refine good_loop (α := List Int × Int × Int) (fun (xs, a1, s1) => { env := upd (upd (upd (upd (upd ((fun _ => .junk)) 0 (.ptr 1000000 0)) 2 (.ptr 2 0)) 3 (.ptr 3 0)) 4 (.s (.int .i64 (n5)))) 5 (.s (.int .i64 ((xs.length : Int)))), H := upd (upd (upd (upd (upd ((fun _ => none)) 10 (some (.row 95 6 ([])))) 27 (some (.row 2 1 (xs.map ci)))) 3 (some (.box 31 [.own 27 xs.length, .own 10 0]))) 2 (some (.box 31 [.nil, .nil]))) 1000000 (some (.box 108 (src cs a1 s1))) }) (fun (xs, a1, s1) => nsB xs ∧ xs.length ≤ n5 ∧ (a ≤ a1 ∧ a1 ≤ a + 2 + 2 * xs.length)) (fun (xs, a1, s1) => n5.toNat - xs.length) ([], a4, s4) ?_ ?_ ?_
  · exact ⟨fun x hx => (by cases hx), (by simp; omega), (by simp; omega)⟩
  · refine Sub.trans (sub_ren 9 27 (by decide) rfl (by decide) rfl) ?_
    refine sub_weak ?_ ?_
    · exact weakH_box (boxEq (rfl)) rfl (weakH_box (boxEq (rfl)) rfl (weakH_boxR (boxEq (rfl)) rfl (weakH_row (rowEq (rfl)) (weakH_row (rowEq (rfl)) (weakH_none _)))))
    · refine weakE_upd ?e5 ?r5 (weakE_upd ?e4 ?r4 (weakE_upd ?e3 ?r3 (weakE_upd ?e2 ?r2 (weakE_upd ?e0 ?r0 (weakE_junk _ _)))))
      case e0 => first | rfl | exact fI (by omega) | (simp_all)
      case r0 => intro h hh; simp [refs] at hh; subst hh; rfl
      case e2 => first | rfl | exact fI (by omega) | (simp_all)
      case r2 => intro h hh; simp [refs] at hh; subst hh; rfl
      case e3 => first | rfl | exact fI (by omega) | (simp_all)
      case r3 => intro h hh; simp [refs] at hh; subst hh; rfl
      case e4 => first | rfl | exact fI (by omega) | (simp_all)
      case r4 => intro h hh; cases hh
      case e5 => first | rfl | exact fI (by omega) | (first | rfl | exact fI (by simp; omega))
      case r5 => intro h hh; cases hh
  · rintro ⟨xs, a1, s1⟩ ⟨hx, hxl, hxa⟩
    refine good_seq fun K8 hK8 => ?_
    refine good_seq fun K9 hK9 => ?_
    refine gr rfl ?_
    refine em rfl (by conv=>lhs;whnf) ?_
    refine em rfl (by conv=>lhs;whnf) ?_
    refine ei rfl rfl rfl ?_
    intro b10 hb10; cases b10
    · replace hb10 := dF hb10
      refine ev_nil (hK9 _ ?_); clear hK9
      refine good_condF rfl ?_
      refine good_exit ?_
      repeat first|refine thenQ_exit ?_|refine blockQ_pass rfl ?_
      refine blockQ_exit (hK6 _ ?_); clear hK6
      refine good_seq fun K11 hK11 => ?_
      refine gr rfl ?_
      refine ev_k rfl (k_callX [(900001, 900010)] D_spec_l04Ids rfl (rfl) (rfl) trivial ⟨⟨rfl, show (900010 : Nat) < 1000000 by decide⟩, trivial⟩ rfl rfl rfl ?_)
      refine ea rfl (by conv=>lhs;whnf) ?_
      refine ev_nil (hK11 _ ?_); clear hK11
      refine good_seq fun K12 hK12 => ?_
      refine good_seq fun K13 hK13 => ?_
      refine gr rfl ?_
      refine ea rfl (by conv=>lhs;whnf) ?_
      refine ev_nil (hK13 _ ?_); clear hK13
      refine good_block ?_
      refine good_loop (α := List Pi × Int × Int) (fun (qs, a2, s2) => { env := upd (upd (upd (upd (upd (upd ((fun _ => .junk)) 0 (.ptr 1000000 0)) 2 (.ptr 2 0)) 3 (.ptr 3 0)) 4 (.s (.int .i64 (n5)))) 6 (.own 900010 12)) 7 (.s (.int .i64 ((qs.length : Int) + 1))), H := upd (upd (upd (upd (upd (upd ((fun _ => none)) 900010 (some (.row 9 1 (idL.map sAV)))) 52 (some (.row 95 6 (qs.map piA)))) 27 (some (.row 2 1 (xs.map ci)))) 3 (some (.box 31 [.own 27 xs.length, .own 52 qs.length]))) 2 (some (.box 31 [.nil, .nil]))) 1000000 (some (.box 108 (src cs a2 s2))) }) (fun (qs, a2, s2) => trA qs ∧ qs.length + 1 ≤ n5 ∧ (a ≤ a2 ∧ a2 ≤ a + 20 + 12 * qs.length)) (fun (qs, a2, s2) => n5.toNat - qs.length) ([], a1, s1) ?_ ?_ ?_
      · exact ⟨fun i p h => (by simp at h), (by simp; omega), (by simp; omega)⟩
      · refine Sub.trans (sub_ren 10 52 (by decide) rfl (by decide) rfl) ?_
        refine sub_weak ?_ ?_
        · exact weakH_box (boxEq (rfl)) rfl (weakH_box (boxEq (rfl)) rfl (weakH_boxR (boxEq (rfl)) rfl (weakH_row (rowEq (rfl)) (weakH_row (rowEq (rfl)) (weakH_row (rowEq (rfl)) (weakH_none _))))))
        · refine weakE_upd ?e7 ?r7 (weakE_upd ?e6 ?r6 (weakE_upd ?e4 ?r4 (weakE_upd ?e3 ?r3 (weakE_upd ?e2 ?r2 (weakE_upd ?e0 ?r0 (weakE_junk _ _))))))
          case e0 => first | rfl | exact fI (by omega) | (simp_all)
          case r0 => intro h hh; simp [refs] at hh; subst hh; rfl
          case e2 => first | rfl | exact fI (by omega) | (simp_all)
          case r2 => intro h hh; simp [refs] at hh; subst hh; rfl
          case e3 => first | rfl | exact fI (by omega) | (simp_all)
          case r3 => intro h hh; simp [refs] at hh; subst hh; rfl
          case e4 => first | rfl | exact fI (by omega) | (simp_all)
          case r4 => intro h hh; cases hh
          case e6 => first | rfl | exact fI (by omega) | (simp_all)
          case r6 => intro h hh; simp [refs] at hh; subst hh; rfl
          case e7 => first | rfl | exact fI (by omega) | (first | rfl | exact fI (by simp; omega))
          case r7 => intro h hh; cases hh
      · rintro ⟨qs, a2, s2⟩ ⟨hq, hql, hqa⟩
        refine good_seq fun K14 hK14 => ?_
        refine good_seq fun K15 hK15 => ?_
        refine gr rfl ?_
        refine em rfl (by conv=>lhs;whnf) ?_
        refine em rfl (by conv=>lhs;whnf) ?_
        refine ei rfl rfl rfl ?_
        intro b16 hb16; cases b16
        · replace hb16 := dF hb16
          refine ev_nil (hK15 _ ?_); clear hK15
          refine good_condF rfl ?_
          refine good_exit ?_
          repeat first|refine thenQ_exit ?_|refine blockQ_pass rfl ?_
          refine blockQ_exit (hK12 _ ?_); clear hK12
          refine good_seq fun K17 hK17 => ?_
          refine gr rfl ?_
          refine ev_q rfl (q_loadA tA31 rfl rfl rfl ?_)
          refine ev_k rfl (k_store sz31 rfl (by conv=>lhs;whnf) rfl rfl rfl (Nat.le_of_ble_eq_true rfl) rfl ?_)
          refine ev_nil (hK17 _ ?_); clear hK17
          refine good_weak (sub_ren 27 900001 (by decide) rfl (by decide) rfl) ?_
          refine good_weak (sub_ren 52 900002 (by decide) rfl (by decide) rfl) ?_
          refine good_ret ?_
          repeat first|refine thenQ_ret ?_|refine blockQ_ret ?_
          clear hK8 hK14
          refine ex_4 (v := xs) (a := qs) (b := a2) (c := s2) ?hF ?hR
          case hF =>
            refine fx_cell rfl tA31 rfl rfl rfl ?_
            exact ⟨_, conv_eq (by first | rfl | exact fAgg1 (by first | rfl | exact ownEq (by first | done | omega | (simp; done)) | (simp_all; done)) (fAgg1 (by first | rfl | exact ownEq (by first | done | omega | (simp; done)) | (simp_all; done)) (rfl))), weakH_box (boxEq (by first | rfl | (rw [e]; done) | (rw [e]; rfl) | (simp_all; done))) rfl (weakH_row (rowEq (by first | rfl | (rw [e]; done) | (rw [e]; rfl) | (simp_all; done))) (weakH_row (rowEq (by first | rfl | (rw [e]; done) | (rw [e]; rfl) | (simp_all; done))) (weakH_none _))), refsIn_ok rfl⟩
          case hR =>
            exact ⟨⟨by omega, by omega, by omega, hx, hq⟩, by omega⟩
        · replace hb16 := dT hb16
          obtain ⟨nm, hnm⟩ : ∃ nm, idL[qs.length]? = some nm := ⟨_, List.getElem?_eq_getElem (by show _ < 12; omega)⟩
          refine ev_nil (hK15 _ ?_); clear hK15
          refine good_condT rfl ?_
          refine good_skip (hK14 _ ?_); clear hK14
          refine good_seq fun K18 hK18 => ?_
          refine good_block ?_
          refine good_seq fun K19 hK19 => ?_
          refine gr rfl ?_
          refine em rfl (by conv=>lhs;whnf) ?_
          refine em rfl (by conv=>lhs;whnf) ?_
          refine ev_k rfl (k_callR [(1000000, 1000000)] (D_spec_l00Src_pick cs _ _ _ hc hb (by omega) (by omega)) rfl (rfl) (rfl) ⟨rfl, trivial⟩ rfl (by rintro ⟨v20, a20, s20⟩ ⟨hx20_0, hx20_1⟩; exact ⟨⟨rfl, rfl, trivial⟩, rfl⟩) rfl rfl ?_)
          rintro ⟨v20, a20, s20⟩ ⟨hx20_0, hx20_1⟩
          refine ea rfl (by conv=>lhs;whnf) ?_
          refine ev_nil (hK19 _ ?_); clear hK19
          refine good_seq fun K21 hK21 => ?_
          refine gr rfl ?_
          refine em rfl (by conv=>lhs;whnf) ?_
          refine ev_k rfl (k_callR [(1000000, 1000000)] (D_spec_l00Src_one cs _ _ _ hc hb (by omega) (by omega)) rfl (rfl) (rfl) ⟨rfl, trivial⟩ rfl (by rintro ⟨v22, a22, s22⟩ ⟨hx22_0, hx22_1⟩; exact ⟨⟨rfl, rfl, trivial⟩, rfl⟩) rfl rfl ?_)
          rintro ⟨v22, a22, s22⟩ ⟨hx22_0, hx22_1⟩
          cases v22
          · refine ev_nil (hK21 _ ?_); clear hK21
            refine good_condF rfl ?_
            refine good_any 15 (listed := #[false, false, false, false, false, false, false, false, false, false, false, false, false, false, false]) rfl rfl hmix rfl ?_
            refine tn_first_q (i := 0) (listed' := #[true, false, false, false, false, false, false, false, false, false, false, false, false, false, false]) rfl rfl (by kernel_rfl) rfl (q_fieldAddrP fO31_1 rfl rfl ?_)
            refine tn_first_q (i := 2) (listed' := #[true, false, true, false, false, false, false, false, false, false, false, false, false, false, false]) rfl rfl (by kernel_rfl) rfl (q_move (by conv=>lhs;whnf) ?_)
            refine tn_first_q (i := 3) (listed' := #[true, false, true, true, false, false, false, false, false, false, false, false, false, false, false]) rfl rfl (by kernel_rfl) rfl (q_move (by conv=>lhs;whnf) ?_)
            refine tn_first_q (i := 4) (listed' := #[true, false, true, true, true, false, false, false, false, false, false, false, false, false, false]) rfl rfl (by kernel_rfl) rfl (q_move (by conv=>lhs;whnf) ?_)
            refine tn_first_q (i := 5) (listed' := #[true, false, true, true, true, true, false, false, false, false, false, false, false, false, false]) rfl rfl (by kernel_rfl) rfl (q_int rfl rfl ?_)
            intro n23 hn23
            replace hn23 := in64 hn23 (by omega) (by omega)
            refine tn_first_q (i := 6) (listed' := #[true, false, true, true, true, true, true, false, false, false, false, false, false, false, false]) rfl rfl (by kernel_rfl) rfl (q_idxO tE109 rfl rfl rfl (by omega) (by first | omega | (simp; omega)) rfl ?_)
            refine tn_first_q (i := 7) (listed' := #[true, false, true, true, true, true, true, true, false, false, false, false, false, false, false]) rfl rfl (by kernel_rfl) rfl (q_loadE tA9 rfl rfl (by exact idG hnm (by omega)) rfl ?_)
            refine tn_first_q (i := 8) (listed' := #[true, false, true, true, true, true, true, true, true, false, false, false, false, false, false]) rfl rfl (by kernel_rfl) rfl (q_move (by conv=>lhs;whnf) ?_)
            refine tn_first_q (i := 9) (listed' := #[true, false, true, true, true, true, true, true, true, true, false, false, false, false, false]) rfl rfl (by kernel_rfl) rfl (q_move (by conv=>lhs;whnf) ?_)
            refine tn_step [1, 10] (by kernel_rfl) rfl ?_
            refine ⟨?_, ?_, trivial⟩
            · refine tn_q (listed' := #[true, true, true, true, true, true, true, true, true, true, false, false, false, false, false]) rfl rfl rfl (q_load tA29 rfl ?_)
              refine tn_step [10] (by kernel_rfl) rfl ?_
              refine ⟨?_, trivial⟩
              refine tn_k (listed' := #[true, true, true, true, true, true, true, true, true, true, true, false, false, false, false]) rfl rfl rfl rfl (k_callR [(1000000, 1000000)] (D_spec_l03DrawOk cs _ _ _ _ _ hc hb (by omega)) rfl (rfl) (rfl) ⟨rfl, trivial⟩ rfl (by rintro ⟨v24, a24, s24⟩ ⟨hx24_0, hx24_1⟩; exact ⟨⟨rfl, rfl, trivial⟩, rfl⟩) rfl rfl ?_)
              rintro ⟨v24, a24, s24⟩ ⟨hx24_0, hx24_1⟩
              have hy := hx24_0
              refine tn_step [11] (by kernel_rfl) rfl ?_
              refine ⟨?_, trivial⟩
              refine tn_k (listed' := #[true, true, true, true, true, true, true, true, true, true, true, true, false, false, false]) rfl rfl rfl rfl (k_lit tE29 zA95 rfl rfl (by decide) (by decide) rfl rfl rfl ?_)
              refine tn_step [12] (by kernel_rfl) rfl ?_
              refine ⟨?_, trivial⟩
              refine tn_k (listed' := #[true, true, true, true, true, true, true, true, true, true, true, true, true, false, false]) rfl rfl rfl rfl (k_app tApp29 rfl rfl (by simp) rfl (.inl rfl) (by first | (simp [maxLen]; omega)) (by first | (simp; omega)) ?_)
              refine tn_first_q (i := 13) (listed' := #[true, true, true, true, true, true, true, true, true, true, true, true, true, true, false]) rfl rfl (by kernel_rfl) rfl (q_fieldAddrP fO31_1 rfl rfl ?_)
              refine tn_step [14] (by kernel_rfl) rfl ?_
              refine ⟨?_, trivial⟩
              refine tn_k (listed' := #[true, true, true, true, true, true, true, true, true, true, true, true, true, true, true]) rfl rfl rfl rfl (k_store sz29 rfl (by conv=>lhs;whnf) rfl rfl rfl (Nat.le_of_ble_eq_true rfl) rfl ?_)
              refine tn_end (by kernel_rfl) (hK18 _ ?_); clear hK18
              refine gr rfl ?_
              refine em rfl (by conv=>lhs;whnf) ?_
              refine ei rfl rfl rfl ?_
              intro n25 hn25
              replace hn25 := in64 hn25 (by omega) (by omega)
              refine ea rfl (by conv=>lhs;whnf) ?_
              refine ev_nil ?_
              clear hK8 hK12
              refine ⟨(qs ++ [v24], a24, s24), ?_, ?_, ?_⟩
              · exact ⟨trA_app hq ⟨by rw [hy.1]; exact hnm, hy.2.2.2, by have := hy.2.1; have := hy.2.2.1; omega⟩, by simp; omega, by first | omega | (simp; omega)⟩
              · first | (simp; omega) | omega
              · first | refine Sub.trans (sub_ren 66 52 (by decide) rfl (by decide) rfl) ?_ | skip
                refine sub_weak ?_ ?_
                · exact weakH_box (boxEq (rfl)) rfl (weakH_box (boxEq (rfl)) rfl (weakH_boxR (boxEq (by first | rfl | (simp only [List.length_append, List.length_map, List.length_cons, List.length_nil]; rfl))) rfl (weakH_row (rowEq (rfl)) (weakH_row (rowEq (by rw [List.map_append]; rfl)) (weakH_row (rowEq (rfl)) (weakH_none _))))))
                · refine weakE_upd ?e7 ?r7 (weakE_upd ?e6 ?r6 (weakE_upd ?e4 ?r4 (weakE_upd ?e3 ?r3 (weakE_upd ?e2 ?r2 (weakE_upd ?e0 ?r0 (weakE_junk _ _))))))
                  case e0 => first | rfl | exact fI (by omega) | (simp_all)
                  case r0 => intro h hh; simp [refs] at hh; subst hh; rfl
                  case e2 => first | rfl | exact fI (by omega) | (simp_all)
                  case r2 => intro h hh; simp [refs] at hh; subst hh; rfl
                  case e3 => first | rfl | exact fI (by omega) | (simp_all)
                  case r3 => intro h hh; simp [refs] at hh; subst hh; rfl
                  case e4 => first | rfl | exact fI (by omega) | (simp_all)
                  case r4 => intro h hh; cases hh
                  case e6 => first | rfl | exact fI (by omega) | (simp_all)
                  case r6 => intro h hh; simp [refs] at hh; subst hh; rfl
                  case e7 => first | rfl | exact fI (by omega) | (first | rfl | exact fI (by simp; omega))
                  case r7 => intro h hh; cases hh
            · refine tn_k (listed' := #[true, false, true, true, true, true, true, true, true, true, true, false, false, false, false]) rfl rfl rfl rfl (k_callR [(1000000, 1000000)] (D_spec_l03DrawOk cs _ _ _ _ _ hc hb (by omega)) rfl (rfl) (rfl) ⟨rfl, trivial⟩ rfl (by rintro ⟨v26, a26, s26⟩ ⟨hx26_0, hx26_1⟩; exact ⟨⟨rfl, rfl, trivial⟩, rfl⟩) rfl rfl ?_)
              rintro ⟨v26, a26, s26⟩ ⟨hx26_0, hx26_1⟩
              have hy := hx26_0
              refine tn_step [1, 11] (by kernel_rfl) rfl ?_
              refine ⟨?_, ?_, trivial⟩
              · refine tn_q (listed' := #[true, true, true, true, true, true, true, true, true, true, true, false, false, false, false]) rfl rfl rfl (q_load tA29 rfl ?_)
                refine tn_step [11] (by kernel_rfl) rfl ?_
                refine ⟨?_, trivial⟩
                refine tn_k (listed' := #[true, true, true, true, true, true, true, true, true, true, true, true, false, false, false]) rfl rfl rfl rfl (k_lit tE29 zA95 rfl rfl (by decide) (by decide) rfl rfl rfl ?_)
                refine tn_step [12] (by kernel_rfl) rfl ?_
                refine ⟨?_, trivial⟩
                refine tn_k (listed' := #[true, true, true, true, true, true, true, true, true, true, true, true, true, false, false]) rfl rfl rfl rfl (k_app tApp29 rfl rfl (by simp) rfl (.inl rfl) (by first | (simp [maxLen]; omega)) (by first | (simp; omega)) ?_)
                refine tn_first_q (i := 13) (listed' := #[true, true, true, true, true, true, true, true, true, true, true, true, true, true, false]) rfl rfl (by kernel_rfl) rfl (q_fieldAddrP fO31_1 rfl rfl ?_)
                refine tn_step [14] (by kernel_rfl) rfl ?_
                refine ⟨?_, trivial⟩
                refine tn_k (listed' := #[true, true, true, true, true, true, true, true, true, true, true, true, true, true, true]) rfl rfl rfl rfl (k_store sz29 rfl (by conv=>lhs;whnf) rfl rfl rfl (Nat.le_of_ble_eq_true rfl) rfl ?_)
                refine tn_end (by kernel_rfl) (hK18 _ ?_); clear hK18
                refine gr rfl ?_
                refine em rfl (by conv=>lhs;whnf) ?_
                refine ei rfl rfl rfl ?_
                intro n27 hn27
                replace hn27 := in64 hn27 (by omega) (by omega)
                refine ea rfl (by conv=>lhs;whnf) ?_
                refine ev_nil ?_
                clear hK8 hK12
                refine ⟨(qs ++ [v26], a26, s26), ?_, ?_, ?_⟩
                · exact ⟨trA_app hq ⟨by rw [hy.1]; exact hnm, hy.2.2.2, by have := hy.2.1; have := hy.2.2.1; omega⟩, by simp; omega, by first | omega | (simp; omega)⟩
                · first | (simp; omega) | omega
                · first | refine Sub.trans (sub_ren 66 52 (by decide) rfl (by decide) rfl) ?_ | skip
                  refine sub_weak ?_ ?_
                  · exact weakH_box (boxEq (rfl)) rfl (weakH_box (boxEq (rfl)) rfl (weakH_boxR (boxEq (by first | rfl | (simp only [List.length_append, List.length_map, List.length_cons, List.length_nil]; rfl))) rfl (weakH_row (rowEq (rfl)) (weakH_row (rowEq (by rw [List.map_append]; rfl)) (weakH_row (rowEq (rfl)) (weakH_none _))))))
                  · refine weakE_upd ?e7 ?r7 (weakE_upd ?e6 ?r6 (weakE_upd ?e4 ?r4 (weakE_upd ?e3 ?r3 (weakE_upd ?e2 ?r2 (weakE_upd ?e0 ?r0 (weakE_junk _ _))))))
                    case e0 => first | rfl | exact fI (by omega) | (simp_all)
                    case r0 => intro h hh; simp [refs] at hh; subst hh; rfl
                    case e2 => first | rfl | exact fI (by omega) | (simp_all)
                    case r2 => intro h hh; simp [refs] at hh; subst hh; rfl
                    case e3 => first | rfl | exact fI (by omega) | (simp_all)
                    case r3 => intro h hh; simp [refs] at hh; subst hh; rfl
                    case e4 => first | rfl | exact fI (by omega) | (simp_all)
                    case r4 => intro h hh; cases hh
                    case e6 => first | rfl | exact fI (by omega) | (simp_all)
                    case r6 => intro h hh; simp [refs] at hh; subst hh; rfl
                    case e7 => first | rfl | exact fI (by omega) | (first | rfl | exact fI (by simp; omega))
                    case r7 => intro h hh; cases hh
              · refine tn_k (listed' := #[true, false, true, true, true, true, true, true, true, true, true, true, false, false, false]) rfl rfl rfl rfl (k_lit tE29 zA95 rfl rfl (by decide) (by decide) rfl rfl rfl ?_)
                refine tn_first_q (i := 1) (listed' := #[true, true, true, true, true, true, true, true, true, true, true, true, false, false, false]) rfl rfl (by kernel_rfl) rfl (q_load tA29 rfl ?_)
                refine tn_step [12] (by kernel_rfl) rfl ?_
                refine ⟨?_, trivial⟩
                refine tn_k (listed' := #[true, true, true, true, true, true, true, true, true, true, true, true, true, false, false]) rfl rfl rfl rfl (k_app tApp29 rfl rfl (by simp) rfl (.inl rfl) (by first | (simp [maxLen]; omega)) (by first | (simp; omega)) ?_)
                refine tn_first_q (i := 13) (listed' := #[true, true, true, true, true, true, true, true, true, true, true, true, true, true, false]) rfl rfl (by kernel_rfl) rfl (q_fieldAddrP fO31_1 rfl rfl ?_)
                refine tn_step [14] (by kernel_rfl) rfl ?_
                refine ⟨?_, trivial⟩
                refine tn_k (listed' := #[true, true, true, true, true, true, true, true, true, true, true, true, true, true, true]) rfl rfl rfl rfl (k_store sz29 rfl (by conv=>lhs;whnf) rfl rfl rfl (Nat.le_of_ble_eq_true rfl) rfl ?_)
                refine tn_end (by kernel_rfl) (hK18 _ ?_); clear hK18
                refine gr rfl ?_
                refine em rfl (by conv=>lhs;whnf) ?_
                refine ei rfl rfl rfl ?_
                intro n28 hn28
                replace hn28 := in64 hn28 (by omega) (by omega)
                refine ea rfl (by conv=>lhs;whnf) ?_
                refine ev_nil ?_
                clear hK8 hK12
                refine ⟨(qs ++ [v26], a26, s26), ?_, ?_, ?_⟩
                · exact ⟨trA_app hq ⟨by rw [hy.1]; exact hnm, hy.2.2.2, by have := hy.2.1; have := hy.2.2.1; omega⟩, by simp; omega, by first | omega | (simp; omega)⟩
                · first | (simp; omega) | omega
                · first | refine Sub.trans (sub_ren 66 52 (by decide) rfl (by decide) rfl) ?_ | skip
                  refine sub_weak ?_ ?_
                  · exact weakH_box (boxEq (rfl)) rfl (weakH_box (boxEq (rfl)) rfl (weakH_boxR (boxEq (by first | rfl | (simp only [List.length_append, List.length_map, List.length_cons, List.length_nil]; rfl))) rfl (weakH_row (rowEq (rfl)) (weakH_row (rowEq (by rw [List.map_append]; rfl)) (weakH_row (rowEq (rfl)) (weakH_none _))))))
                  · refine weakE_upd ?e7 ?r7 (weakE_upd ?e6 ?r6 (weakE_upd ?e4 ?r4 (weakE_upd ?e3 ?r3 (weakE_upd ?e2 ?r2 (weakE_upd ?e0 ?r0 (weakE_junk _ _))))))
                    case e0 => first | rfl | exact fI (by omega) | (simp_all)
                    case r0 => intro h hh; simp [refs] at hh; subst hh; rfl
                    case e2 => first | rfl | exact fI (by omega) | (simp_all)
                    case r2 => intro h hh; simp [refs] at hh; subst hh; rfl
                    case e3 => first | rfl | exact fI (by omega) | (simp_all)
                    case r3 => intro h hh; simp [refs] at hh; subst hh; rfl
                    case e4 => first | rfl | exact fI (by omega) | (simp_all)
                    case r4 => intro h hh; cases hh
                    case e6 => first | rfl | exact fI (by omega) | (simp_all)
                    case r6 => intro h hh; simp [refs] at hh; subst hh; rfl
                    case e7 => first | rfl | exact fI (by omega) | (first | rfl | exact fI (by simp; omega))
                    case r7 => intro h hh; cases hh
          · refine ev_nil (hK21 _ ?_); clear hK21
            refine good_condT rfl ?_
            refine good_any 15 (listed := #[false, false, false, false, false, false, false, false, false, false, false, false, false, false, false]) rfl rfl hmix rfl ?_
            refine tn_first_q (i := 0) (listed' := #[true, false, false, false, false, false, false, false, false, false, false, false, false, false, false]) rfl rfl (by kernel_rfl) rfl (q_fieldAddrP fO31_1 rfl rfl ?_)
            refine tn_first_q (i := 2) (listed' := #[true, false, true, false, false, false, false, false, false, false, false, false, false, false, false]) rfl rfl (by kernel_rfl) rfl (q_move (by conv=>lhs;whnf) ?_)
            refine tn_first_q (i := 3) (listed' := #[true, false, true, true, false, false, false, false, false, false, false, false, false, false, false]) rfl rfl (by kernel_rfl) rfl (q_move (by conv=>lhs;whnf) ?_)
            refine tn_first_q (i := 4) (listed' := #[true, false, true, true, true, false, false, false, false, false, false, false, false, false, false]) rfl rfl (by kernel_rfl) rfl (q_move (by conv=>lhs;whnf) ?_)
            refine tn_first_q (i := 5) (listed' := #[true, false, true, true, true, true, false, false, false, false, false, false, false, false, false]) rfl rfl (by kernel_rfl) rfl (q_int rfl rfl ?_)
            intro n29 hn29
            replace hn29 := in64 hn29 (by omega) (by omega)
            refine tn_first_q (i := 6) (listed' := #[true, false, true, true, true, true, true, false, false, false, false, false, false, false, false]) rfl rfl (by kernel_rfl) rfl (q_idxO tE109 rfl rfl rfl (by omega) (by first | omega | (simp; omega)) rfl ?_)
            refine tn_first_q (i := 7) (listed' := #[true, false, true, true, true, true, true, true, false, false, false, false, false, false, false]) rfl rfl (by kernel_rfl) rfl (q_loadE tA9 rfl rfl (by exact idG hnm (by omega)) rfl ?_)
            refine tn_first_q (i := 8) (listed' := #[true, false, true, true, true, true, true, true, true, false, false, false, false, false, false]) rfl rfl (by kernel_rfl) rfl (q_move (by conv=>lhs;whnf) ?_)
            refine tn_first_q (i := 9) (listed' := #[true, false, true, true, true, true, true, true, true, true, false, false, false, false, false]) rfl rfl (by kernel_rfl) rfl (q_move (by conv=>lhs;whnf) ?_)
            refine tn_step [1, 10] (by kernel_rfl) rfl ?_
            refine ⟨?_, ?_, trivial⟩
            · refine tn_q (listed' := #[true, true, true, true, true, true, true, true, true, true, false, false, false, false, false]) rfl rfl rfl (q_load tA29 rfl ?_)
              refine tn_step [10] (by kernel_rfl) rfl ?_
              refine ⟨?_, trivial⟩
              refine tn_k (listed' := #[true, true, true, true, true, true, true, true, true, true, true, false, false, false, false]) rfl rfl rfl rfl (k_callR [(1000000, 1000000)] (D_spec_l03DrawOk cs _ _ _ _ _ hc hb (by omega)) rfl (rfl) (rfl) ⟨rfl, trivial⟩ rfl (by rintro ⟨v30, a30, s30⟩ ⟨hx30_0, hx30_1⟩; exact ⟨⟨rfl, rfl, trivial⟩, rfl⟩) rfl rfl ?_)
              rintro ⟨v30, a30, s30⟩ ⟨hx30_0, hx30_1⟩
              have hy := hx30_0
              refine tn_step [11] (by kernel_rfl) rfl ?_
              refine ⟨?_, trivial⟩
              refine tn_k (listed' := #[true, true, true, true, true, true, true, true, true, true, true, true, false, false, false]) rfl rfl rfl rfl (k_lit tE29 zA95 rfl rfl (by decide) (by decide) rfl rfl rfl ?_)
              refine tn_step [12] (by kernel_rfl) rfl ?_
              refine ⟨?_, trivial⟩
              refine tn_k (listed' := #[true, true, true, true, true, true, true, true, true, true, true, true, true, false, false]) rfl rfl rfl rfl (k_app tApp29 rfl rfl (by simp) rfl (.inr rfl) (by first | (simp [maxLen]; omega)) (by first | (simp; omega)) ?_)
              refine tn_first_q (i := 13) (listed' := #[true, true, true, true, true, true, true, true, true, true, true, true, true, true, false]) rfl rfl (by kernel_rfl) rfl (q_fieldAddrP fO31_1 rfl rfl ?_)
              refine tn_step [14] (by kernel_rfl) rfl ?_
              refine ⟨?_, trivial⟩
              refine tn_k (listed' := #[true, true, true, true, true, true, true, true, true, true, true, true, true, true, true]) rfl rfl rfl rfl (k_store sz29 rfl (by conv=>lhs;whnf) rfl rfl rfl (Nat.le_of_ble_eq_true rfl) rfl ?_)
              refine tn_end (by kernel_rfl) (hK18 _ ?_); clear hK18
              refine gr rfl ?_
              refine em rfl (by conv=>lhs;whnf) ?_
              refine ei rfl rfl rfl ?_
              intro n31 hn31
              replace hn31 := in64 hn31 (by omega) (by omega)
              refine ea rfl (by conv=>lhs;whnf) ?_
              refine ev_nil ?_
              clear hK8 hK12
              refine ⟨(qs ++ [v30], a30, s30), ?_, ?_, ?_⟩
              · exact ⟨trA_app hq ⟨by rw [hy.1]; exact hnm, hy.2.2.2, by have := hy.2.1; have := hy.2.2.1; omega⟩, by simp; omega, by first | omega | (simp; omega)⟩
              · first | (simp; omega) | omega
              · first | refine Sub.trans (sub_ren 66 52 (by decide) rfl (by decide) rfl) ?_ | skip
                refine sub_weak ?_ ?_
                · exact weakH_box (boxEq (rfl)) rfl (weakH_box (boxEq (rfl)) rfl (weakH_boxR (boxEq (by first | rfl | (simp only [List.length_append, List.length_map, List.length_cons, List.length_nil]; rfl))) rfl (weakH_row (rowEq (rfl)) (weakH_row (rowEq (by rw [List.map_append]; rfl)) (weakH_row (rowEq (rfl)) (weakH_none _))))))
                · refine weakE_upd ?e7 ?r7 (weakE_upd ?e6 ?r6 (weakE_upd ?e4 ?r4 (weakE_upd ?e3 ?r3 (weakE_upd ?e2 ?r2 (weakE_upd ?e0 ?r0 (weakE_junk _ _))))))
                  case e0 => first | rfl | exact fI (by omega) | (simp_all)
                  case r0 => intro h hh; simp [refs] at hh; subst hh; rfl
                  case e2 => first | rfl | exact fI (by omega) | (simp_all)
                  case r2 => intro h hh; simp [refs] at hh; subst hh; rfl
                  case e3 => first | rfl | exact fI (by omega) | (simp_all)
                  case r3 => intro h hh; simp [refs] at hh; subst hh; rfl
                  case e4 => first | rfl | exact fI (by omega) | (simp_all)
                  case r4 => intro h hh; cases hh
                  case e6 => first | rfl | exact fI (by omega) | (simp_all)
                  case r6 => intro h hh; simp [refs] at hh; subst hh; rfl
                  case e7 => first | rfl | exact fI (by omega) | (first | rfl | exact fI (by simp; omega))
                  case r7 => intro h hh; cases hh
            · refine tn_k (listed' := #[true, false, true, true, true, true, true, true, true, true, true, false, false, false, false]) rfl rfl rfl rfl (k_callR [(1000000, 1000000)] (D_spec_l03DrawOk cs _ _ _ _ _ hc hb (by omega)) rfl (rfl) (rfl) ⟨rfl, trivial⟩ rfl (by rintro ⟨v32, a32, s32⟩ ⟨hx32_0, hx32_1⟩; exact ⟨⟨rfl, rfl, trivial⟩, rfl⟩) rfl rfl ?_)
              rintro ⟨v32, a32, s32⟩ ⟨hx32_0, hx32_1⟩
              have hy := hx32_0
              refine tn_step [1, 11] (by kernel_rfl) rfl ?_
              refine ⟨?_, ?_, trivial⟩
              · refine tn_q (listed' := #[true, true, true, true, true, true, true, true, true, true, true, false, false, false, false]) rfl rfl rfl (q_load tA29 rfl ?_)
                refine tn_step [11] (by kernel_rfl) rfl ?_
                refine ⟨?_, trivial⟩
                refine tn_k (listed' := #[true, true, true, true, true, true, true, true, true, true, true, true, false, false, false]) rfl rfl rfl rfl (k_lit tE29 zA95 rfl rfl (by decide) (by decide) rfl rfl rfl ?_)
                refine tn_step [12] (by kernel_rfl) rfl ?_
                refine ⟨?_, trivial⟩
                refine tn_k (listed' := #[true, true, true, true, true, true, true, true, true, true, true, true, true, false, false]) rfl rfl rfl rfl (k_app tApp29 rfl rfl (by simp) rfl (.inr rfl) (by first | (simp [maxLen]; omega)) (by first | (simp; omega)) ?_)
                refine tn_first_q (i := 13) (listed' := #[true, true, true, true, true, true, true, true, true, true, true, true, true, true, false]) rfl rfl (by kernel_rfl) rfl (q_fieldAddrP fO31_1 rfl rfl ?_)
                refine tn_step [14] (by kernel_rfl) rfl ?_
                refine ⟨?_, trivial⟩
                refine tn_k (listed' := #[true, true, true, true, true, true, true, true, true, true, true, true, true, true, true]) rfl rfl rfl rfl (k_store sz29 rfl (by conv=>lhs;whnf) rfl rfl rfl (Nat.le_of_ble_eq_true rfl) rfl ?_)
                refine tn_end (by kernel_rfl) (hK18 _ ?_); clear hK18
                refine gr rfl ?_
                refine em rfl (by conv=>lhs;whnf) ?_
                refine ei rfl rfl rfl ?_
                intro n33 hn33
                replace hn33 := in64 hn33 (by omega) (by omega)
                refine ea rfl (by conv=>lhs;whnf) ?_
                refine ev_nil ?_
                clear hK8 hK12
                refine ⟨(qs ++ [v32], a32, s32), ?_, ?_, ?_⟩
                · exact ⟨trA_app hq ⟨by rw [hy.1]; exact hnm, hy.2.2.2, by have := hy.2.1; have := hy.2.2.1; omega⟩, by simp; omega, by first | omega | (simp; omega)⟩
                · first | (simp; omega) | omega
                · first | refine Sub.trans (sub_ren 66 52 (by decide) rfl (by decide) rfl) ?_ | skip
                  refine sub_weak ?_ ?_
                  · exact weakH_box (boxEq (rfl)) rfl (weakH_box (boxEq (rfl)) rfl (weakH_boxR (boxEq (by first | rfl | (simp only [List.length_append, List.length_map, List.length_cons, List.length_nil]; rfl))) rfl (weakH_row (rowEq (rfl)) (weakH_row (rowEq (by rw [List.map_append]; rfl)) (weakH_row (rowEq (rfl)) (weakH_none _))))))
                  · refine weakE_upd ?e7 ?r7 (weakE_upd ?e6 ?r6 (weakE_upd ?e4 ?r4 (weakE_upd ?e3 ?r3 (weakE_upd ?e2 ?r2 (weakE_upd ?e0 ?r0 (weakE_junk _ _))))))
                    case e0 => first | rfl | exact fI (by omega) | (simp_all)
                    case r0 => intro h hh; simp [refs] at hh; subst hh; rfl
                    case e2 => first | rfl | exact fI (by omega) | (simp_all)
                    case r2 => intro h hh; simp [refs] at hh; subst hh; rfl
                    case e3 => first | rfl | exact fI (by omega) | (simp_all)
                    case r3 => intro h hh; simp [refs] at hh; subst hh; rfl
                    case e4 => first | rfl | exact fI (by omega) | (simp_all)
                    case r4 => intro h hh; cases hh
                    case e6 => first | rfl | exact fI (by omega) | (simp_all)
                    case r6 => intro h hh; simp [refs] at hh; subst hh; rfl
                    case e7 => first | rfl | exact fI (by omega) | (first | rfl | exact fI (by simp; omega))
                    case r7 => intro h hh; cases hh
              · refine tn_k (listed' := #[true, false, true, true, true, true, true, true, true, true, true, true, false, false, false]) rfl rfl rfl rfl (k_lit tE29 zA95 rfl rfl (by decide) (by decide) rfl rfl rfl ?_)
                refine tn_first_q (i := 1) (listed' := #[true, true, true, true, true, true, true, true, true, true, true, true, false, false, false]) rfl rfl (by kernel_rfl) rfl (q_load tA29 rfl ?_)
                refine tn_step [12] (by kernel_rfl) rfl ?_
                refine ⟨?_, trivial⟩
                refine tn_k (listed' := #[true, true, true, true, true, true, true, true, true, true, true, true, true, false, false]) rfl rfl rfl rfl (k_app tApp29 rfl rfl (by simp) rfl (.inr rfl) (by first | (simp [maxLen]; omega)) (by first | (simp; omega)) ?_)
                refine tn_first_q (i := 13) (listed' := #[true, true, true, true, true, true, true, true, true, true, true, true, true, true, false]) rfl rfl (by kernel_rfl) rfl (q_fieldAddrP fO31_1 rfl rfl ?_)
                refine tn_step [14] (by kernel_rfl) rfl ?_
                refine ⟨?_, trivial⟩
                refine tn_k (listed' := #[true, true, true, true, true, true, true, true, true, true, true, true, true, true, true]) rfl rfl rfl rfl (k_store sz29 rfl (by conv=>lhs;whnf) rfl rfl rfl (Nat.le_of_ble_eq_true rfl) rfl ?_)
                refine tn_end (by kernel_rfl) (hK18 _ ?_); clear hK18
                refine gr rfl ?_
                refine em rfl (by conv=>lhs;whnf) ?_
                refine ei rfl rfl rfl ?_
                intro n34 hn34
                replace hn34 := in64 hn34 (by omega) (by omega)
                refine ea rfl (by conv=>lhs;whnf) ?_
                refine ev_nil ?_
                clear hK8 hK12
                refine ⟨(qs ++ [v32], a32, s32), ?_, ?_, ?_⟩
                · exact ⟨trA_app hq ⟨by rw [hy.1]; exact hnm, hy.2.2.2, by have := hy.2.1; have := hy.2.2.1; omega⟩, by simp; omega, by first | omega | (simp; omega)⟩
                · first | (simp; omega) | omega
                · first | refine Sub.trans (sub_ren 66 52 (by decide) rfl (by decide) rfl) ?_ | skip
                  refine sub_weak ?_ ?_
                  · exact weakH_box (boxEq (rfl)) rfl (weakH_box (boxEq (rfl)) rfl (weakH_boxR (boxEq (by first | rfl | (simp only [List.length_append, List.length_map, List.length_cons, List.length_nil]; rfl))) rfl (weakH_row (rowEq (rfl)) (weakH_row (rowEq (by rw [List.map_append]; rfl)) (weakH_row (rowEq (rfl)) (weakH_none _))))))
                  · refine weakE_upd ?e7 ?r7 (weakE_upd ?e6 ?r6 (weakE_upd ?e4 ?r4 (weakE_upd ?e3 ?r3 (weakE_upd ?e2 ?r2 (weakE_upd ?e0 ?r0 (weakE_junk _ _))))))
                    case e0 => first | rfl | exact fI (by omega) | (simp_all)
                    case r0 => intro h hh; simp [refs] at hh; subst hh; rfl
                    case e2 => first | rfl | exact fI (by omega) | (simp_all)
                    case r2 => intro h hh; simp [refs] at hh; subst hh; rfl
                    case e3 => first | rfl | exact fI (by omega) | (simp_all)
                    case r3 => intro h hh; simp [refs] at hh; subst hh; rfl
                    case e4 => first | rfl | exact fI (by omega) | (simp_all)
                    case r4 => intro h hh; cases hh
                    case e6 => first | rfl | exact fI (by omega) | (simp_all)
                    case r6 => intro h hh; simp [refs] at hh; subst hh; rfl
                    case e7 => first | rfl | exact fI (by omega) | (first | rfl | exact fI (by simp; omega))
                    case r7 => intro h hh; cases hh
    · replace hb10 := dT hb10
      refine ev_nil (hK9 _ ?_); clear hK9
      refine good_condT rfl ?_
      refine good_skip (hK8 _ ?_); clear hK8
      refine good_seq fun K35 hK35 => ?_
      refine good_block ?_
      refine good_any 10 (listed := #[false, false, false, false, false, false, false, false, false, false]) rfl rfl hmix rfl ?_
      refine tn_first_q (i := 0) (listed' := #[true, false, false, false, false, false, false, false, false, false]) rfl rfl (by kernel_rfl) rfl (q_fieldAddrP fO31_0 rfl rfl ?_)
      refine tn_first_q (i := 2) (listed' := #[true, false, true, false, false, false, false, false, false, false]) rfl rfl (by kernel_rfl) rfl (q_move (by conv=>lhs;whnf) ?_)
      refine tn_step [1, 3] (by kernel_rfl) rfl ?_
      refine ⟨?_, ?_, trivial⟩
      · refine tn_q (listed' := #[true, true, true, false, false, false, false, false, false, false]) rfl rfl rfl (q_load tA22 rfl ?_)
        refine tn_step [3] (by kernel_rfl) rfl ?_
        refine ⟨?_, trivial⟩
        refine tn_k (listed' := #[true, true, true, true, false, false, false, false, false, false]) rfl rfl rfl rfl (k_callR [(1000000, 1000000)] (D_spec_l00Src_pick cs _ _ _ hc hb (by omega) (by omega)) rfl (rfl) (rfl) ⟨rfl, trivial⟩ rfl (by rintro ⟨v36, a36, s36⟩ ⟨hx36_0, hx36_1⟩; exact ⟨⟨rfl, rfl, trivial⟩, rfl⟩) rfl rfl ?_)
        rintro ⟨v36, a36, s36⟩ ⟨hx36_0, hx36_1⟩
        refine tn_first_q (i := 4) (listed' := #[true, true, true, true, true, false, false, false, false, false]) rfl rfl (by kernel_rfl) rfl (q_int rfl rfl ?_)
        intro n37 hn37
        replace hn37 := in64 hn37 (by omega) (by omega)
        refine tn_first_q (i := 5) (listed' := #[true, true, true, true, true, true, false, false, false, false]) rfl rfl (by kernel_rfl) rfl (q_int rfl rfl ?_)
        intro n38 hn38
        replace hn38 := in64 hn38 (by omega) (by omega)
        refine tn_step [6] (by kernel_rfl) rfl ?_
        refine ⟨?_, trivial⟩
        refine tn_k (listed' := #[true, true, true, true, true, true, true, false, false, false]) rfl rfl rfl rfl (k_lit tE22 zA2 rfl rfl (by decide) (by decide) rfl rfl rfl ?_)
        refine tn_step [7] (by kernel_rfl) rfl ?_
        refine ⟨?_, trivial⟩
        refine tn_k (listed' := #[true, true, true, true, true, true, true, true, false, false]) rfl rfl rfl rfl (k_app tApp22 rfl rfl (by simp) rfl (.inr rfl) (by first | (simp [maxLen]; omega)) (by first | (simp; omega)) ?_)
        refine tn_first_q (i := 8) (listed' := #[true, true, true, true, true, true, true, true, true, false]) rfl rfl (by kernel_rfl) rfl (q_fieldAddrP fO31_0 rfl rfl ?_)
        refine tn_step [9] (by kernel_rfl) rfl ?_
        refine ⟨?_, trivial⟩
        refine tn_k (listed' := #[true, true, true, true, true, true, true, true, true, true]) rfl rfl rfl rfl (k_store sz22 rfl (by conv=>lhs;whnf) rfl rfl rfl (Nat.le_of_ble_eq_true rfl) rfl ?_)
        refine tn_end (by kernel_rfl) (hK35 _ ?_); clear hK35
        refine gr rfl ?_
        refine em rfl (by conv=>lhs;whnf) ?_
        refine ei rfl rfl rfl ?_
        intro n39 hn39
        replace hn39 := in64 hn39 (by omega) (by omega)
        refine ea rfl (by conv=>lhs;whnf) ?_
        refine ev_nil ?_
        clear hK6
        refine ⟨(xs ++ [n38], a36, s36), ?_, ?_, ?_⟩
        · exact ⟨nsB_app hx (by omega), by simp; omega, by first | omega | (simp; omega)⟩
        · first | (simp; omega) | omega
        · refine sub_weak ?_ ?_
          · exact weakH_box (boxEq (rfl)) rfl (weakH_box (boxEq (rfl)) rfl (weakH_boxR (boxEq (by first | rfl | (simp only [List.length_append, List.length_map, List.length_cons, List.length_nil]; rfl))) rfl (weakH_row (rowEq (by rw [List.map_append]; rfl)) (weakH_row (rowEq (rfl)) (weakH_none _)))))
          · refine weakE_upd ?e5 ?r5 (weakE_upd ?e4 ?r4 (weakE_upd ?e3 ?r3 (weakE_upd ?e2 ?r2 (weakE_upd ?e0 ?r0 (weakE_junk _ _)))))
            case e0 => first | rfl | exact fI (by omega) | (simp_all)
            case r0 => intro h hh; simp [refs] at hh; subst hh; rfl
            case e2 => first | rfl | exact fI (by omega) | (simp_all)
            case r2 => intro h hh; simp [refs] at hh; subst hh; rfl
            case e3 => first | rfl | exact fI (by omega) | (simp_all)
            case r3 => intro h hh; simp [refs] at hh; subst hh; rfl
            case e4 => first | rfl | exact fI (by omega) | (simp_all)
            case r4 => intro h hh; cases hh
            case e5 => first | rfl | exact fI (by omega) | (first | rfl | exact fI (by simp; omega))
            case r5 => intro h hh; cases hh
      · refine tn_k (listed' := #[true, false, true, true, false, false, false, false, false, false]) rfl rfl rfl rfl (k_callR [(1000000, 1000000)] (D_spec_l00Src_pick cs _ _ _ hc hb (by omega) (by omega)) rfl (rfl) (rfl) ⟨rfl, trivial⟩ rfl (by rintro ⟨v40, a40, s40⟩ ⟨hx40_0, hx40_1⟩; exact ⟨⟨rfl, rfl, trivial⟩, rfl⟩) rfl rfl ?_)
        rintro ⟨v40, a40, s40⟩ ⟨hx40_0, hx40_1⟩
        refine tn_first_q (i := 4) (listed' := #[true, false, true, true, true, false, false, false, false, false]) rfl rfl (by kernel_rfl) rfl (q_int rfl rfl ?_)
        intro n41 hn41
        replace hn41 := in64 hn41 (by omega) (by omega)
        refine tn_first_q (i := 5) (listed' := #[true, false, true, true, true, true, false, false, false, false]) rfl rfl (by kernel_rfl) rfl (q_int rfl rfl ?_)
        intro n42 hn42
        replace hn42 := in64 hn42 (by omega) (by omega)
        refine tn_step [1, 6] (by kernel_rfl) rfl ?_
        refine ⟨?_, ?_, trivial⟩
        · refine tn_q (listed' := #[true, true, true, true, true, true, false, false, false, false]) rfl rfl rfl (q_load tA22 rfl ?_)
          refine tn_step [6] (by kernel_rfl) rfl ?_
          refine ⟨?_, trivial⟩
          refine tn_k (listed' := #[true, true, true, true, true, true, true, false, false, false]) rfl rfl rfl rfl (k_lit tE22 zA2 rfl rfl (by decide) (by decide) rfl rfl rfl ?_)
          refine tn_step [7] (by kernel_rfl) rfl ?_
          refine ⟨?_, trivial⟩
          refine tn_k (listed' := #[true, true, true, true, true, true, true, true, false, false]) rfl rfl rfl rfl (k_app tApp22 rfl rfl (by simp) rfl (.inr rfl) (by first | (simp [maxLen]; omega)) (by first | (simp; omega)) ?_)
          refine tn_first_q (i := 8) (listed' := #[true, true, true, true, true, true, true, true, true, false]) rfl rfl (by kernel_rfl) rfl (q_fieldAddrP fO31_0 rfl rfl ?_)
          refine tn_step [9] (by kernel_rfl) rfl ?_
          refine ⟨?_, trivial⟩
          refine tn_k (listed' := #[true, true, true, true, true, true, true, true, true, true]) rfl rfl rfl rfl (k_store sz22 rfl (by conv=>lhs;whnf) rfl rfl rfl (Nat.le_of_ble_eq_true rfl) rfl ?_)
          refine tn_end (by kernel_rfl) (hK35 _ ?_); clear hK35
          refine gr rfl ?_
          refine em rfl (by conv=>lhs;whnf) ?_
          refine ei rfl rfl rfl ?_
          intro n43 hn43
          replace hn43 := in64 hn43 (by omega) (by omega)
          refine ea rfl (by conv=>lhs;whnf) ?_
          refine ev_nil ?_
          clear hK6
          refine ⟨(xs ++ [n42], a40, s40), ?_, ?_, ?_⟩
          · exact ⟨nsB_app hx (by omega), by simp; omega, by first | omega | (simp; omega)⟩
          · first | (simp; omega) | omega
          · refine sub_weak ?_ ?_
            · exact weakH_box (boxEq (rfl)) rfl (weakH_box (boxEq (rfl)) rfl (weakH_boxR (boxEq (by first | rfl | (simp only [List.length_append, List.length_map, List.length_cons, List.length_nil]; rfl))) rfl (weakH_row (rowEq (by rw [List.map_append]; rfl)) (weakH_row (rowEq (rfl)) (weakH_none _)))))
            · refine weakE_upd ?e5 ?r5 (weakE_upd ?e4 ?r4 (weakE_upd ?e3 ?r3 (weakE_upd ?e2 ?r2 (weakE_upd ?e0 ?r0 (weakE_junk _ _)))))
              case e0 => first | rfl | exact fI (by omega) | (simp_all)
              case r0 => intro h hh; simp [refs] at hh; subst hh; rfl
              case e2 => first | rfl | exact fI (by omega) | (simp_all)
              case r2 => intro h hh; simp [refs] at hh; subst hh; rfl
              case e3 => first | rfl | exact fI (by omega) | (simp_all)
              case r3 => intro h hh; simp [refs] at hh; subst hh; rfl
              case e4 => first | rfl | exact fI (by omega) | (simp_all)
              case r4 => intro h hh; cases hh
              case e5 => first | rfl | exact fI (by omega) | (first | rfl | exact fI (by simp; omega))
              case r5 => intro h hh; cases hh
        · refine tn_k (listed' := #[true, false, true, true, true, true, true, false, false, false]) rfl rfl rfl rfl (k_lit tE22 zA2 rfl rfl (by decide) (by decide) rfl rfl rfl ?_)
          refine tn_first_q (i := 1) (listed' := #[true, true, true, true, true, true, true, false, false, false]) rfl rfl (by kernel_rfl) rfl (q_load tA22 rfl ?_)
          refine tn_step [7] (by kernel_rfl) rfl ?_
          refine ⟨?_, trivial⟩
          refine tn_k (listed' := #[true, true, true, true, true, true, true, true, false, false]) rfl rfl rfl rfl (k_app tApp22 rfl rfl (by simp) rfl (.inr rfl) (by first | (simp [maxLen]; omega)) (by first | (simp; omega)) ?_)
          refine tn_first_q (i := 8) (listed' := #[true, true, true, true, true, true, true, true, true, false]) rfl rfl (by kernel_rfl) rfl (q_fieldAddrP fO31_0 rfl rfl ?_)
          refine tn_step [9] (by kernel_rfl) rfl ?_
          refine ⟨?_, trivial⟩
          refine tn_k (listed' := #[true, true, true, true, true, true, true, true, true, true]) rfl rfl rfl rfl (k_store sz22 rfl (by conv=>lhs;whnf) rfl rfl rfl (Nat.le_of_ble_eq_true rfl) rfl ?_)
          refine tn_end (by kernel_rfl) (hK35 _ ?_); clear hK35
          refine gr rfl ?_
          refine em rfl (by conv=>lhs;whnf) ?_
          refine ei rfl rfl rfl ?_
          intro n44 hn44
          replace hn44 := in64 hn44 (by omega) (by omega)
          refine ea rfl (by conv=>lhs;whnf) ?_
          refine ev_nil ?_
          clear hK6
          refine ⟨(xs ++ [n42], a40, s40), ?_, ?_, ?_⟩
          · exact ⟨nsB_app hx (by omega), by simp; omega, by first | omega | (simp; omega)⟩
          · first | (simp; omega) | omega
          · refine sub_weak ?_ ?_
            · exact weakH_box (boxEq (rfl)) rfl (weakH_box (boxEq (rfl)) rfl (weakH_boxR (boxEq (by first | rfl | (simp only [List.length_append, List.length_map, List.length_cons, List.length_nil]; rfl))) rfl (weakH_row (rowEq (by rw [List.map_append]; rfl)) (weakH_row (rowEq (rfl)) (weakH_none _)))))
            · refine weakE_upd ?e5 ?r5 (weakE_upd ?e4 ?r4 (weakE_upd ?e3 ?r3 (weakE_upd ?e2 ?r2 (weakE_upd ?e0 ?r0 (weakE_junk _ _)))))
              case e0 => first | rfl | exact fI (by omega) | (simp_all)
              case r0 => intro h hh; simp [refs] at hh; subst hh; rfl
              case e2 => first | rfl | exact fI (by omega) | (simp_all)
              case r2 => intro h hh; simp [refs] at hh; subst hh; rfl
              case e3 => first | rfl | exact fI (by omega) | (simp_all)
              case r3 => intro h hh; simp [refs] at hh; subst hh; rfl
              case e4 => first | rfl | exact fI (by omega) | (simp_all)
              case r4 => intro h hh; cases hh
              case e5 => first | rfl | exact fI (by omega) | (first | rfl | exact fI (by simp; omega))
              case r5 => intro h hh; cases hh

end Go.Proofs.YtkgnbjgnddfojaaGreat.DFnBoiling
