/- Walks through the functions that FnHydraulics reaches: what each answers. -/
import Derived.Test.YtdnndlalflahhaaDFnHydraulicsa
set_option linter.unusedVariables false
set_option linter.unusedSimpArgs false
set_option maxRecDepth 20000
set_option maxHeartbeats 2000000
namespace Go.Proofs.Ytdnndlalflahhaa.DFnHydraulics
open Go Go.RowKit Go.Proofs Go.Proofs.Ytdnndlalflahhaa Go.Proofs.Ytdnndlalflahhaa.Ev
-- (impl.Network).reached
theorem D_impl_Network_reached (ns : List Int) (ps : List Pi) (s : Int) (hn : ns.length ≤ 17592186044416) (hp : ps.length ≤ 2513169434843) (hz : idSz ps) (ok : netOk ns ps) (hs : 0 ≤ s ∧ s < ns.length) : DenX Try.prog 117 [] [.agg [.lst 1 (ns.map ci), .lst 6 (ps.map piA)], .s (.int .i64 s), .nil] [(900001, .row 2 1 ((srtI (toI (found (ps.map pe) ns.length s.toNat))).map ci))] (.own 900001 (toI (found (ps.map pe) ns.length s.toNat)).length) := by
  have h16 := ok.1.1
  have h20 := ok.1.2.2
  have hlt := esF_lt ok
  refine denX_of_good Try.func117 (by decide) rfl (Nat.le_of_ble_eq_true rfl) (Nat.le_of_ble_eq_true rfl) rfl ?_
  refine good_seq fun K1 hK1 => ?_
  refine gr rfl ?_
  refine ev_k rfl (k_box (by conv=>lhs;whnf) rfl rfl rfl ?_)
  refine ea rfl (by conv=>lhs;whnf) ?_
  refine ev_nil (hK1 _ ?_); clear hK1
  refine good_seq fun K2 hK2 => ?_
  refine gr rfl ?_
  refine em rfl (by conv=>lhs;whnf) ?_
  refine ev_k rfl (k_lit tE24 zA2 rfl rfl (by decide) (by decide) rfl rfl rfl ?_)
  refine ea rfl (by conv=>lhs;whnf) ?_
  refine ev_nil (hK2 _ ?_); clear hK2
  refine good_seq fun K3 hK3 => ?_
  refine good_seq fun K4 hK4 => ?_
  refine gr rfl ?_
  refine ea rfl (by conv=>lhs;whnf) ?_
  refine ev_nil (hK4 _ ?_); clear hK4
  refine good_block ?_
  refine good_loop (α := Nat × List Nat) (fun (k, w) => { env := upd (upd (upd (upd ((fun _ => .junk)) 2 (.nil)) 3 (.ptr 3 0)) 7 (.own 54 (toI w).length)) 8 (.s (.int .i64 ((k : Int)))), H := upd (upd ((fun _ => none)) 54 (some (.row 2 1 ((toI w).map ci)))) 3 (some (.box 27 [.lst 1 (ns.map ci), .lst 6 (ps.map piA)])) }) (fun (k, w) => k ≤ w.length ∧ Inv (ps.map pe) ns.length s.toNat w ∧ bfO (ps.map pe) (ns.length - k) k w = found (ps.map pe) ns.length s.toNat) (fun (k, w) => ns.length - k) (0, [s.toNat]) ?_ ?_ ?_
  · exact ⟨by simp, ⟨by simp, fun v hv => by have e : v = s.toNat := (by simpa using hv); rw [e]; omega, fun v hv => by have e : v = s.toNat := (by simpa using hv); rw [e]; exact .rfl _, by simp⟩, rfl⟩
  · refine Sub.trans (sub_move 7 14 54 rfl rfl rfl (by decide)) ?_
    refine sub_weak ?_ ?_
    · exact weakH_box (boxEq (rfl)) rfl (weakH_row (rowEq (by show [ci s] = [ci ((s.toNat : Nat) : Int)]; rw [show ((s.toNat : Nat) : Int) = s by omega])) (weakH_none _))
    · refine weakE_upd ?e8 ?r8 (weakE_upd ?e7 ?r7 (weakE_upd ?e3 ?r3 (weakE_upd ?e2 ?r2 (weakE_junk _ _))))
      case e2 => first | rfl | exact fI (by omega) | (simp_all)
      case r2 => intro h hh; cases hh
      case e3 => first | rfl | exact fI (by omega) | (simp_all)
      case r3 => intro h hh; simp [refs] at hh; subst hh; rfl
      case e7 => first | rfl | exact fI (by omega) | (simp_all)
      case r7 => intro h hh; simp [refs] at hh; subst hh; rfl
      case e8 => first | rfl | exact fI (by omega) | (simp_all)
      case r8 => intro h hh; cases hh
  · rintro ⟨k, w⟩ ⟨hK, hV, hF⟩
    refine good_seq fun K5 hK5 => ?_
    refine good_seq fun K6 hK6 => ?_
    refine gr rfl ?_
    refine em rfl (by conv=>lhs;whnf) ?_
    refine em rfl (by conv=>lhs;whnf) ?_
    refine ev_q rfl (q_len tEs24 rfl ?_)
    intro n7 hn7
    try simp only [List.length_map] at hn7
    refine ei rfl rfl rfl ?_
    intro b8 hb8; cases b8
    · replace hb8 := dF hb8
      have hkl : w.length ≤ k := by rw [toI_len] at *; omega
      have hln := len_le w hV.nd hV.lt
      refine ev_nil (hK6 _ ?_); clear hK6
      refine good_condF rfl ?_
      refine good_exit ?_
      repeat first|refine thenQ_exit ?_|refine blockQ_pass rfl ?_
      refine blockQ_exit (hK3 _ ?_); clear hK3
      refine good_seq fun K9 hK9 => ?_
      refine gr rfl ?_
      refine em rfl (by conv=>lhs;whnf) ?_
      refine ev_k rfl (k_callX [(1000000, 54)] (D_sort_X (toI w) (by rw [toI_len]; omega)) rfl (rfl) (rfl) ⟨rfl, trivial⟩ ⟨rfl, ⟨rfl, rfl, by first | (simp only [List.length_map, srtI_len]; done) | (simp only [List.length_map, srtI_len]; exact Nat.le_refl _)⟩, trivial⟩ rfl rfl rfl ?_)
      refine ev_nil (hK9 _ ?_); clear hK9
      refine good_seq fun K10 hK10 => ?_
      refine gr rfl ?_
      refine em rfl (by conv=>lhs;whnf) ?_
      refine ea rfl (by conv=>lhs;whnf) ?_
      refine ev_nil (hK10 _ ?_); clear hK10
      refine good_weak (sub_move 6 54 900001 rfl rfl rfl (by decide)) ?_
      refine good_ret ?_
      repeat first|refine thenQ_ret ?_|refine blockQ_ret ?_
      refine fx_tmp rfl (by conv=>lhs;whnf) ?_
      clear hK5
      have e : found (ps.map pe) ns.length s.toNat = w := by rw [← hF]; exact bfO_e hkl
      exact ⟨_, conv_eq (by first | rfl | (rw [e]; done) | (rw [e]; rfl) | exact ownEq (by first | omega | simp_all)), weakH_row (rowEq (by first | (rw [e]; done) | (rw [e]; rfl))) (weakH_none _), refsIn_ok rfl⟩
    · replace hb8 := dT hb8
      have hkl : k < w.length := by rw [toI_len] at *; omega
      obtain ⟨u, hu⟩ : ∃ u, w[k]? = some u := ⟨_, List.getElem?_eq_getElem hkl⟩
      have hln := len_le w hV.nd hV.lt
      refine ev_nil (hK6 _ ?_); clear hK6
      refine good_condT rfl ?_
      refine good_skip (hK5 _ ?_); clear hK5
      refine good_seq fun K11 hK11 => ?_
      refine good_block ?_
      refine good_seq fun K12 hK12 => ?_
      refine gr rfl ?_
      refine ev_q rfl (q_fieldAddrP fO27_1 rfl rfl ?_)
      refine ev_q rfl (q_load tA25 rfl ?_)
      refine ev_q rfl (q_len tEs25 rfl ?_)
      intro n13 hn13
      try simp only [List.length_map] at hn13
      refine em rfl (by conv=>lhs;whnf) ?_
      refine ev_nil (hK12 _ ?_); clear hK12
      refine good_block ?_
      refine good_loop (α := Nat × List Nat) (fun (i, v) => { env := upd (upd (upd (upd (upd (upd (upd ((fun _ => .junk)) 2 (.nil)) 3 (.ptr 3 0)) 7 (.own 54 (toI v).length)) 8 (.s (.int .i64 ((k : Int))))) 22 (.lst 6 (ps.map piA))) 23 (.s (.int .i64 ((ps.length : Int))))) 24 (.s (.int .i64 ((i : Int)))), H := upd (upd ((fun _ => none)) 54 (some (.row 2 1 ((toI v).map ci)))) 3 (some (.box 27 [.lst 1 (ns.map ci), .lst 6 (ps.map piA)])) }) (fun (i, v) => i ≤ ps.length ∧ Inv (ps.map pe) ns.length s.toNat v ∧ (∃ t, v = w ++ t) ∧ bfI ((ps.map pe).drop i) u v = bfI (ps.map pe) u w) (fun (i, v) => ps.length - i) (0, w) ?_ ?_ ?_
      · exact ⟨Nat.zero_le _, hV, ⟨[], by simp⟩, rfl⟩
      · refine sub_weak ?_ ?_
        · exact weakH_box (boxEq (rfl)) rfl (weakH_row (rowEq (rfl)) (weakH_none _))
        · refine weakE_upd ?e24 ?r24 (weakE_upd ?e23 ?r23 (weakE_upd ?e22 ?r22 (weakE_upd ?e8 ?r8 (weakE_upd ?e7 ?r7 (weakE_upd ?e3 ?r3 (weakE_upd ?e2 ?r2 (weakE_junk _ _)))))))
          case e2 => first | rfl | exact fI (by omega) | (simp_all)
          case r2 => intro h hh; cases hh
          case e3 => first | rfl | exact fI (by omega) | (simp_all)
          case r3 => intro h hh; simp [refs] at hh; subst hh; rfl
          case e7 => first | rfl | exact fI (by omega) | (first | rfl | exact ownEq (by simp [toI_len]))
          case r7 => intro h hh; simp [refs] at hh; subst hh; rfl
          case e8 => first | rfl | exact fI (by omega) | (simp_all)
          case r8 => intro h hh; cases hh
          case e22 => first | rfl | exact fI (by omega) | (simp_all)
          case r22 => intro h hh; cases hh
          case e23 => first | rfl | exact fI (by omega) | (simp_all)
          case r23 => intro h hh; cases hh
          case e24 => first | rfl | exact fI (by omega) | (simp_all)
          case r24 => intro h hh; cases hh
      · rintro ⟨i, v⟩ ⟨hI, hW, hP, hB⟩
        refine good_seq fun K14 hK14 => ?_
        refine gr rfl ?_
        refine ei rfl rfl rfl ?_
        intro b15 hb15; cases b15
        · replace hb15 := dF hb15
          refine ev_nil (hK14 _ ?_); clear hK14
          refine good_seq fun K16 hK16 => ?_
          refine good_condF rfl ?_
          refine good_exit ?_
          repeat first|refine thenQ_exit ?_|refine blockQ_pass rfl ?_
          refine blockQ_exit (hK11 _ ?_); clear hK11
          refine gr rfl ?_
          refine em rfl (by conv=>lhs;whnf) ?_
          refine ei rfl rfl rfl ?_
          intro n17 hn17
          replace hn17 := in64 hn17 (by omega) (by omega)
          refine ea rfl (by conv=>lhs;whnf) ?_
          refine ev_nil ?_
          clear hK3 hK16
          refine ⟨(k + 1, v), ?_, ?_, ?_⟩
          · refine ⟨?_, hW, ?_⟩
            · obtain ⟨t, ht⟩ := hP
              have := congrArg List.length ht
              rw [List.length_append] at this
              show k + 1 ≤ v.length; omega
            · show bfO _ _ (k + 1) v = _
              rw [bfI_end (by omega)] at hB
              rw [← hF, bfO_s hu (by omega), hB]
          · first | omega | (dsimp only; omega)
          · refine sub_weak ?_ ?_
            · exact weakH_box (boxEq (rfl)) rfl (weakH_row (rowEq (rfl)) (weakH_none _))
            · refine weakE_upd ?e8 ?r8 (weakE_upd ?e7 ?r7 (weakE_upd ?e3 ?r3 (weakE_upd ?e2 ?r2 (weakE_junk _ _))))
              case e2 => first | rfl | exact fI (by omega) | (simp_all)
              case r2 => intro h hh; cases hh
              case e3 => first | rfl | exact fI (by omega) | (simp_all)
              case r3 => intro h hh; simp [refs] at hh; subst hh; rfl
              case e7 => first | rfl | exact fI (by omega) | (simp_all)
              case r7 => intro h hh; simp [refs] at hh; subst hh; rfl
              case e8 => first | rfl | exact fI (by omega) | (simp_all)
              case r8 => intro h hh; cases hh
        · replace hb15 := dT hb15
          obtain ⟨p, hpp⟩ := getL (xs := ps) (n := (i : Int)) (by omega) (by omega)
          replace hpp : ps[i]? = some p := hpp
          have hpo := (ok.2 i p hpp).1
          have hp1 := hpo.1.2.1
          have hp2 := hpo.1.2.2.1
          have hlv := len_le v hW.nd hW.lt
          have hP0 := hP
          obtain ⟨t, ht⟩ := hP
          have hv : v[k]? = some u := by rw [ht, List.getElem?_append_left hkl]; exact hu
          have hbd := bfI_d (u := u) (v := v) hpp
          refine ev_nil (hK14 _ ?_); clear hK14
          refine good_seq fun K18 hK18 => ?_
          refine good_condT rfl ?_
          refine good_skip (hK18 _ ?_); clear hK18
          refine good_seq fun K19 hK19 => ?_
          refine good_block ?_
          refine good_seq fun K20 hK20 => ?_
          refine gr rfl ?_
          refine em rfl (by conv=>lhs;whnf) ?_
          refine ev_q rfl (q_idx tE25 rfl rfl (by exact Int.natCast_nonneg _) (by exact map_get hpp) rfl ?_)
          refine ev_q rfl (q_loadA tA73 rfl rfl rfl ?_)
          refine ev_k rfl (k_alloc zA73 rfl ?_)
          refine ea rfl (by conv=>lhs;whnf) ?_
          refine ev_k rfl (k_store sz73 rfl (by conv=>lhs;whnf) rfl rfl rfl (Nat.le_of_ble_eq_true rfl) rfl ?_)
          refine ev_nil (hK20 _ ?_); clear hK20
          refine good_seq fun K21 hK21 => ?_
          refine good_draw 11 hmix (by kernel_rfl) rfl ?_
          refine qo_q rfl (q_loadA tA73 rfl rfl rfl ?_)
          refine qm rfl (by conv=>lhs;whnf) ?_
          refine qm rfl (by conv=>lhs;whnf) ?_
          refine qo_q rfl (q_idxO tE24 rfl rfl rfl (by exact Int.natCast_nonneg _) (by rw [toI_len]; have := congrArg List.length ht; rw [List.length_append] at this; omega) rfl ?_)
          refine qo_q rfl (q_loadE tA2 rfl rfl (by exact toI_get hv) rfl ?_)
          refine qo_q rfl (q_call rfl rfl (rfl) (D_impl_Pipe_other ..) rfl ?_)
          refine qm rfl (by conv=>lhs;whnf) ?_
          refine qo_q rfl (q_extractI rfl rfl ?_)
          intro n22 hn22
          refine qo_q rfl (q_extractB rfl rfl ?_)
          intro b23 hb23; cases b23
          · first | replace hb23 := dF hb23 | skip
            refine qa rfl (by conv=>lhs;whnf) ?_
            refine qa rfl (by conv=>lhs;whnf) ?_
            refine qo_nil ?_
            refine ev_nil (hK21 _ ?_); clear hK21
            refine good_seq fun K24 hK24 => ?_
            refine gr rfl ?_
            refine em rfl (by conv=>lhs;whnf) ?_
            refine em rfl (by conv=>lhs;whnf) ?_
            refine ev_skip rfl ?_
            refine ev_skip rfl ?_
            refine ev_skip rfl ?_
            refine ev_skip rfl ?_
            refine ev_q rfl (q_pickF rfl (by conv=>lhs;whnf) ?_)
            refine em rfl (by conv=>lhs;whnf) ?_
            refine ev_skip rfl ?_
            refine ev_skip rfl ?_
            refine ev_skip rfl ?_
            refine ev_skip rfl ?_
            refine ev_q rfl (q_pickF rfl (by conv=>lhs;whnf) ?_)
            refine ev_nil (hK24 _ ?_); clear hK24
            refine good_condF rfl ?_
            refine good_skip (hK19 _ ?_); clear hK19
            refine gr rfl ?_
            refine ei rfl rfl rfl ?_
            intro n25 hn25
            replace hn25 := in64 hn25 (by omega) (by omega)
            refine em rfl (by conv=>lhs;whnf) ?_
            refine ev_nil ?_
            clear hK3 hK11
            refine ⟨(i + 1, v), ?_, ?_, ?_⟩
            · refine ⟨by first | omega | (dsimp only; omega), hW, hP0, ?_⟩
              show bfI _ u v = _
              first | (have hE := bfE_F (v := v) (oth_n (p := p) (u := u) (by omega) (by omega) (by assumption)); rw [hE] at hbd; exact hbd.symm.trans hB) | (have hox := oth_y (p := p) (u := u) (by omega) (by omega) (by assumption); rw [← hn22] at hox; have hE := bfE_M hox.1 ((toI_mem hox.2).1 (by assumption)); rw [hE] at hbd; exact hbd.symm.trans hB) | (exfalso; contradiction) | (exfalso; simp_all; done)
            · first | omega | (dsimp only; omega)
            · refine sub_weak ?_ ?_
              · exact weakH_box (boxEq (rfl)) rfl (weakH_row (rowEq (by first | rfl | exact toI_app hox.2)) (weakH_none _))
              · refine weakE_upd ?e24 ?r24 (weakE_upd ?e23 ?r23 (weakE_upd ?e22 ?r22 (weakE_upd ?e8 ?r8 (weakE_upd ?e7 ?r7 (weakE_upd ?e3 ?r3 (weakE_upd ?e2 ?r2 (weakE_junk _ _)))))))
                case e2 => first | rfl | exact fI (by omega) | (simp_all)
                case r2 => intro h hh; cases hh
                case e3 => first | rfl | exact fI (by omega) | (simp_all)
                case r3 => intro h hh; simp [refs] at hh; subst hh; rfl
                case e7 => first | rfl | exact fI (by omega) | (first | rfl | exact ownEq (by simp [toI_len]))
                case r7 => intro h hh; simp [refs] at hh; subst hh; rfl
                case e8 => first | rfl | exact fI (by omega) | (simp_all)
                case r8 => intro h hh; cases hh
                case e22 => first | rfl | exact fI (by omega) | (simp_all)
                case r22 => intro h hh; cases hh
                case e23 => first | rfl | exact fI (by omega) | (simp_all)
                case r23 => intro h hh; cases hh
                case e24 => first | rfl | exact fI (by omega) | (simp_all)
                case r24 => intro h hh; cases hh
          · first | replace hb23 := dT hb23 | skip
            refine qa rfl (by conv=>lhs;whnf) ?_
            refine qa rfl (by conv=>lhs;whnf) ?_
            refine qo_nil ?_
            refine ev_nil (hK21 _ ?_); clear hK21
            refine good_seq fun K26 hK26 => ?_
            refine gr rfl ?_
            refine em rfl (by conv=>lhs;whnf) ?_
            refine em rfl (by conv=>lhs;whnf) ?_
            refine em rfl (by conv=>lhs;whnf) ?_
            refine em rfl (by conv=>lhs;whnf) ?_
            refine ev_q rfl (q_callB rfl rfl (rfl) (D_slices_Contains_N _) ?_)
            intro b27 hb27; cases b27
            · first | replace hb27 := dF hb27 | skip
              refine ev_q rfl (q_not rfl rfl ?_)
              refine ev_q rfl (q_pickT rfl (by conv=>lhs;whnf) ?_)
              refine em rfl (by conv=>lhs;whnf) ?_
              refine em rfl (by conv=>lhs;whnf) ?_
              refine em rfl (by conv=>lhs;whnf) ?_
              refine ev_q rfl (q_callB rfl rfl (by change ([.lst 1 (List.take (toI v).length ((toI v).map ci)), .s (.int .i64 (n22))] : List AV) = _; rw [takeMap]) (D_slices_Contains_int64_int64 _ (toI v) (by rw [toI_len]; omega)) ?_)
              intro b28 hb28; cases b28
              · first | replace hb28 := dF hb28 | skip
                refine ev_q rfl (q_not rfl rfl ?_)
                refine ev_q rfl (q_pickT rfl (by conv=>lhs;whnf) ?_)
                refine ev_nil (hK26 _ ?_); clear hK26
                refine good_condT rfl ?_
                refine gr rfl ?_
                refine em rfl (by conv=>lhs;whnf) ?_
                refine em rfl (by conv=>lhs;whnf) ?_
                have hox := oth_y (p := p) (u := u) (by omega) (by omega) (by assumption)
                rw [← hn22] at hox
                have hnm : ¬ n22.toNat ∈ v := fun h => absurd ((toI_mem hox.2).2 h) (by assumption)
                have hE := bfE_T hox.1 hnm
                have hiN := bfE_inv (hlt (pe p) (List.mem_map_of_mem (List.mem_of_getElem? hpp))) (List.mem_map_of_mem (List.mem_of_getElem? hpp)) (List.mem_of_getElem? hv) hW
                rw [hE] at hiN hbd
                have hpN : ∃ t, v ++ [n22.toNat] = w ++ t := ⟨t ++ [n22.toNat], by rw [ht, List.append_assoc]⟩
                have hbN := hbd.symm.trans hB
                refine ev_k rfl (k_lit tE24 zA2 rfl rfl (by decide) (by decide) rfl rfl rfl ?_)
                refine ev_k rfl (k_app tApp24 rfl rfl (by first | (simp; done) | (simp [toI_len]; done)) rfl (.inr rfl) (by first | (simp [maxLen]; omega) | (simp [maxLen, toI_len]; omega)) (by first | (simp; omega) | (simp [toI_len]; omega)) ?_)
                refine ea rfl (by conv=>lhs;whnf) ?_
                refine ev_nil (hK19 _ ?_); clear hK19
                refine gr rfl ?_
                refine ei rfl rfl rfl ?_
                intro n29 hn29
                replace hn29 := in64 hn29 (by omega) (by omega)
                refine em rfl (by conv=>lhs;whnf) ?_
                refine ev_nil ?_
                clear hK3 hK11
                refine ⟨(i + 1, v ++ [n22.toNat]), ?_, ?_, ?_⟩
                · exact ⟨by first | omega | (dsimp only; omega), hiN, hpN, hbN⟩
                · first | omega | (dsimp only; omega)
                · refine sub_weak ?_ ?_
                  · exact weakH_box (boxEq (rfl)) rfl (weakH_row (rowEq (by first | rfl | exact toI_app hox.2)) (weakH_none _))
                  · refine weakE_upd ?e24 ?r24 (weakE_upd ?e23 ?r23 (weakE_upd ?e22 ?r22 (weakE_upd ?e8 ?r8 (weakE_upd ?e7 ?r7 (weakE_upd ?e3 ?r3 (weakE_upd ?e2 ?r2 (weakE_junk _ _)))))))
                    case e2 => first | rfl | exact fI (by omega) | (simp_all)
                    case r2 => intro h hh; cases hh
                    case e3 => first | rfl | exact fI (by omega) | (simp_all)
                    case r3 => intro h hh; simp [refs] at hh; subst hh; rfl
                    case e7 => first | rfl | exact fI (by omega) | (first | rfl | exact ownEq (by simp [toI_len]))
                    case r7 => intro h hh; simp [refs] at hh; subst hh; rfl
                    case e8 => first | rfl | exact fI (by omega) | (simp_all)
                    case r8 => intro h hh; cases hh
                    case e22 => first | rfl | exact fI (by omega) | (simp_all)
                    case r22 => intro h hh; cases hh
                    case e23 => first | rfl | exact fI (by omega) | (simp_all)
                    case r23 => intro h hh; cases hh
                    case e24 => first | rfl | exact fI (by omega) | (simp_all)
                    case r24 => intro h hh; cases hh
              · first | replace hb28 := dT hb28 | skip
                refine ev_q rfl (q_not rfl rfl ?_)
                refine ev_q rfl (q_pickT rfl (by conv=>lhs;whnf) ?_)
                refine ev_nil (hK26 _ ?_); clear hK26
                refine good_condF rfl ?_
                refine good_skip (hK19 _ ?_); clear hK19
                refine gr rfl ?_
                refine ei rfl rfl rfl ?_
                intro n30 hn30
                replace hn30 := in64 hn30 (by omega) (by omega)
                refine em rfl (by conv=>lhs;whnf) ?_
                refine ev_nil ?_
                clear hK3 hK11
                refine ⟨(i + 1, v), ?_, ?_, ?_⟩
                · refine ⟨by first | omega | (dsimp only; omega), hW, hP0, ?_⟩
                  show bfI _ u v = _
                  first | (have hE := bfE_F (v := v) (oth_n (p := p) (u := u) (by omega) (by omega) (by assumption)); rw [hE] at hbd; exact hbd.symm.trans hB) | (have hox := oth_y (p := p) (u := u) (by omega) (by omega) (by assumption); rw [← hn22] at hox; have hE := bfE_M hox.1 ((toI_mem hox.2).1 (by assumption)); rw [hE] at hbd; exact hbd.symm.trans hB) | (exfalso; contradiction) | (exfalso; simp_all; done)
                · first | omega | (dsimp only; omega)
                · refine sub_weak ?_ ?_
                  · exact weakH_box (boxEq (rfl)) rfl (weakH_row (rowEq (by first | rfl | exact toI_app hox.2)) (weakH_none _))
                  · refine weakE_upd ?e24 ?r24 (weakE_upd ?e23 ?r23 (weakE_upd ?e22 ?r22 (weakE_upd ?e8 ?r8 (weakE_upd ?e7 ?r7 (weakE_upd ?e3 ?r3 (weakE_upd ?e2 ?r2 (weakE_junk _ _)))))))
                    case e2 => first | rfl | exact fI (by omega) | (simp_all)
                    case r2 => intro h hh; cases hh
                    case e3 => first | rfl | exact fI (by omega) | (simp_all)
                    case r3 => intro h hh; simp [refs] at hh; subst hh; rfl
                    case e7 => first | rfl | exact fI (by omega) | (first | rfl | exact ownEq (by simp [toI_len]))
                    case r7 => intro h hh; simp [refs] at hh; subst hh; rfl
                    case e8 => first | rfl | exact fI (by omega) | (simp_all)
                    case r8 => intro h hh; cases hh
                    case e22 => first | rfl | exact fI (by omega) | (simp_all)
                    case r22 => intro h hh; cases hh
                    case e23 => first | rfl | exact fI (by omega) | (simp_all)
                    case r23 => intro h hh; cases hh
                    case e24 => first | rfl | exact fI (by omega) | (simp_all)
                    case r24 => intro h hh; cases hh
            · first | replace hb27 := dT hb27 | skip
              refine ev_q rfl (q_not rfl rfl ?_)
              refine ev_q rfl (q_pickT rfl (by conv=>lhs;whnf) ?_)
              refine em rfl (by conv=>lhs;whnf) ?_
              refine ev_skip rfl ?_
              refine ev_skip rfl ?_
              refine ev_skip rfl ?_
              refine ev_skip rfl ?_
              refine ev_q rfl (q_pickF rfl (by conv=>lhs;whnf) ?_)
              refine ev_nil (hK26 _ ?_); clear hK26
              refine good_condF rfl ?_
              refine good_skip (hK19 _ ?_); clear hK19
              refine gr rfl ?_
              refine ei rfl rfl rfl ?_
              intro n31 hn31
              replace hn31 := in64 hn31 (by omega) (by omega)
              refine em rfl (by conv=>lhs;whnf) ?_
              refine ev_nil ?_
              clear hK3 hK11
              refine ⟨(i + 1, v), ?_, ?_, ?_⟩
              · refine ⟨by first | omega | (dsimp only; omega), hW, hP0, ?_⟩
                show bfI _ u v = _
                first | (have hE := bfE_F (v := v) (oth_n (p := p) (u := u) (by omega) (by omega) (by assumption)); rw [hE] at hbd; exact hbd.symm.trans hB) | (have hox := oth_y (p := p) (u := u) (by omega) (by omega) (by assumption); rw [← hn22] at hox; have hE := bfE_M hox.1 ((toI_mem hox.2).1 (by assumption)); rw [hE] at hbd; exact hbd.symm.trans hB) | (exfalso; contradiction) | (exfalso; simp_all; done)
              · first | omega | (dsimp only; omega)
              · refine sub_weak ?_ ?_
                · exact weakH_box (boxEq (rfl)) rfl (weakH_row (rowEq (by first | rfl | exact toI_app hox.2)) (weakH_none _))
                · refine weakE_upd ?e24 ?r24 (weakE_upd ?e23 ?r23 (weakE_upd ?e22 ?r22 (weakE_upd ?e8 ?r8 (weakE_upd ?e7 ?r7 (weakE_upd ?e3 ?r3 (weakE_upd ?e2 ?r2 (weakE_junk _ _)))))))
                  case e2 => first | rfl | exact fI (by omega) | (simp_all)
                  case r2 => intro h hh; cases hh
                  case e3 => first | rfl | exact fI (by omega) | (simp_all)
                  case r3 => intro h hh; simp [refs] at hh; subst hh; rfl
                  case e7 => first | rfl | exact fI (by omega) | (first | rfl | exact ownEq (by simp [toI_len]))
                  case r7 => intro h hh; simp [refs] at hh; subst hh; rfl
                  case e8 => first | rfl | exact fI (by omega) | (simp_all)
                  case r8 => intro h hh; cases hh
                  case e22 => first | rfl | exact fI (by omega) | (simp_all)
                  case r22 => intro h hh; cases hh
                  case e23 => first | rfl | exact fI (by omega) | (simp_all)
                  case r23 => intro h hh; cases hh
                  case e24 => first | rfl | exact fI (by omega) | (simp_all)
                  case r24 => intro h hh; cases hh

-- (impl.Network).isTree
theorem D_impl_Network_isTree (ns : List Int) (ps : List Pi) (hn : ns.length ≤ 17592186044416) (hp : ps.length ≤ 2513169434843) (hz : idSz ps) (ok : netOk ns ps) : Den Try.prog 79 [.agg [.lst 1 (ns.map ci), .lst 6 (ps.map piA)]] (.s (.bool (decide (treeP ns ps)))) := by
  have h16 := ok.1.1
  have hfl := found_len (s := (0 : Int).toNat) (esF_lt ok) (show (0 : Int).toNat < ns.length from (show 0 < ns.length by omega))
  have htl := toI_len (ks := found (ps.map pe) ns.length (0 : Int).toNat)
  refine den_of_good Try.func79 (by decide) rfl (Nat.le_of_ble_eq_true rfl) (Nat.le_of_ble_eq_true rfl) ?_
  refine good_seq fun K1 hK1 => ?_
  refine gr rfl ?_
  refine ev_k rfl (k_box (by conv=>lhs;whnf) rfl rfl rfl ?_)
  refine ea rfl (by conv=>lhs;whnf) ?_
  refine ev_nil (hK1 _ ?_); clear hK1
  refine good_seq fun K2 hK2 => ?_
  refine good_any 18 (listed := #[false, false, false, false, false, false, false, false, false, false, false, false, false, false, false, false, false, false]) rfl rfl hmix rfl ?_
  refine tn_first_q (i := 0) (listed' := #[true, false, false, false, false, false, false, false, false, false, false, false, false, false, false, false, false, false]) rfl rfl (by kernel_rfl) rfl (q_fieldAddrP fO27_1 rfl rfl ?_)
  refine tn_first_q (i := 1) (listed' := #[true, true, false, false, false, false, false, false, false, false, false, false, false, false, false, false, false, false]) rfl rfl (by kernel_rfl) rfl (q_load tA25 rfl ?_)
  refine tn_first_q (i := 2) (listed' := #[true, true, true, false, false, false, false, false, false, false, false, false, false, false, false, false, false, false]) rfl rfl (by kernel_rfl) rfl (q_len tEs25 rfl ?_)
  intro n3 hn3
  try simp only [List.length_map] at hn3
  refine tn_first_q (i := 3) (listed' := #[true, true, true, true, false, false, false, false, false, false, false, false, false, false, false, false, false, false]) rfl rfl (by kernel_rfl) rfl (q_fieldAddrP fO27_0 rfl rfl ?_)
  refine tn_first_q (i := 4) (listed' := #[true, true, true, true, true, false, false, false, false, false, false, false, false, false, false, false, false, false]) rfl rfl (by kernel_rfl) rfl (q_load tA24 rfl ?_)
  refine tn_first_q (i := 5) (listed' := #[true, true, true, true, true, true, false, false, false, false, false, false, false, false, false, false, false, false]) rfl rfl (by kernel_rfl) rfl (q_len tEs24 rfl ?_)
  intro n4 hn4
  try simp only [List.length_map] at hn4
  refine tn_first_q (i := 6) (listed' := #[true, true, true, true, true, true, true, false, false, false, false, false, false, false, false, false, false, false]) rfl rfl (by kernel_rfl) rfl (q_int rfl rfl ?_)
  intro n5 hn5
  replace hn5 := in64 hn5 (by omega) (by omega)
  refine tn_first_q (i := 7) (listed' := #[true, true, true, true, true, true, true, true, false, false, false, false, false, false, false, false, false, false]) rfl rfl (by kernel_rfl) rfl (q_int rfl rfl ?_)
  intro b6 hb6; cases b6
  · replace hb6 := eqF hb6
    refine tn_first_q (i := 8) (listed' := #[true, true, true, true, true, true, true, true, true, false, false, false, false, false, false, false, false, false]) rfl rfl (by kernel_rfl) rfl (q_move (by conv=>lhs;whnf) ?_)
    refine tn_first_skip (i := 9) (listed' := #[true, true, true, true, true, true, true, true, true, true, false, false, false, false, false, false, false, false]) rfl rfl (by kernel_rfl) rfl ?_
    refine tn_first_skip (i := 12) (listed' := #[true, true, true, true, true, true, true, true, true, true, false, false, true, false, false, false, false, false]) rfl rfl (by kernel_rfl) rfl ?_
    refine tn_step [10, 13] (by kernel_rfl) rfl ?_
    refine ⟨?_, ?_, trivial⟩
    · refine tn_skip (listed' := #[true, true, true, true, true, true, true, true, true, true, true, false, true, false, false, false, false, false]) rfl rfl rfl ?_
      refine tn_first_skip (i := 11) (listed' := #[true, true, true, true, true, true, true, true, true, true, true, true, true, false, false, false, false, false]) rfl rfl (by kernel_rfl) rfl ?_
      refine tn_first_skip (i := 13) (listed' := #[true, true, true, true, true, true, true, true, true, true, true, true, true, true, false, false, false, false]) rfl rfl (by kernel_rfl) rfl ?_
      refine tn_first_skip (i := 14) (listed' := #[true, true, true, true, true, true, true, true, true, true, true, true, true, true, true, false, false, false]) rfl rfl (by kernel_rfl) rfl ?_
      refine tn_first_skip (i := 15) (listed' := #[true, true, true, true, true, true, true, true, true, true, true, true, true, true, true, true, false, false]) rfl rfl (by kernel_rfl) rfl ?_
      refine tn_first_q (i := 16) (listed' := #[true, true, true, true, true, true, true, true, true, true, true, true, true, true, true, true, true, false]) rfl rfl (by kernel_rfl) rfl (q_pickF rfl (by conv=>lhs;whnf) ?_)
      refine tn_first_q (i := 17) (listed' := #[true, true, true, true, true, true, true, true, true, true, true, true, true, true, true, true, true, true]) rfl rfl (by kernel_rfl) rfl (q_assign (by conv=>lhs;whnf) ?_)
      refine tn_end (by kernel_rfl) (hK2 _ ?_); clear hK2
      refine good_ret ?_
      repeat first|refine thenQ_ret ?_|refine blockQ_ret ?_
      refine ret_tmp (st := _) rfl (by conv=>lhs;whnf) rfl ?_
      first | exact fT ⟨by omega, hfl.1 (by omega)⟩ | exact fF (fun h => by have h1 := h.1; have h2 := hfl.2 h.2; omega)
    · refine tn_skip (listed' := #[true, true, true, true, true, true, true, true, true, true, false, false, true, true, false, false, false, false]) rfl rfl rfl ?_
      refine tn_step [10, 14] (by kernel_rfl) rfl ?_
      refine ⟨?_, ?_, trivial⟩
      · refine tn_skip (listed' := #[true, true, true, true, true, true, true, true, true, true, true, false, true, true, false, false, false, false]) rfl rfl rfl ?_
        refine tn_first_skip (i := 11) (listed' := #[true, true, true, true, true, true, true, true, true, true, true, true, true, true, false, false, false, false]) rfl rfl (by kernel_rfl) rfl ?_
        refine tn_first_skip (i := 14) (listed' := #[true, true, true, true, true, true, true, true, true, true, true, true, true, true, true, false, false, false]) rfl rfl (by kernel_rfl) rfl ?_
        refine tn_first_skip (i := 15) (listed' := #[true, true, true, true, true, true, true, true, true, true, true, true, true, true, true, true, false, false]) rfl rfl (by kernel_rfl) rfl ?_
        refine tn_first_q (i := 16) (listed' := #[true, true, true, true, true, true, true, true, true, true, true, true, true, true, true, true, true, false]) rfl rfl (by kernel_rfl) rfl (q_pickF rfl (by conv=>lhs;whnf) ?_)
        refine tn_first_q (i := 17) (listed' := #[true, true, true, true, true, true, true, true, true, true, true, true, true, true, true, true, true, true]) rfl rfl (by kernel_rfl) rfl (q_assign (by conv=>lhs;whnf) ?_)
        refine tn_end (by kernel_rfl) (hK2 _ ?_); clear hK2
        refine good_ret ?_
        repeat first|refine thenQ_ret ?_|refine blockQ_ret ?_
        refine ret_tmp (st := _) rfl (by conv=>lhs;whnf) rfl ?_
        first | exact fT ⟨by omega, hfl.1 (by omega)⟩ | exact fF (fun h => by have h1 := h.1; have h2 := hfl.2 h.2; omega)
      · refine tn_skip (listed' := #[true, true, true, true, true, true, true, true, true, true, false, false, true, true, true, false, false, false]) rfl rfl rfl ?_
        refine tn_step [10] (by kernel_rfl) rfl ?_
        refine ⟨?_, trivial⟩
        refine tn_skip (listed' := #[true, true, true, true, true, true, true, true, true, true, true, false, true, true, true, false, false, false]) rfl rfl rfl ?_
        refine tn_first_skip (i := 11) (listed' := #[true, true, true, true, true, true, true, true, true, true, true, true, true, true, true, false, false, false]) rfl rfl (by kernel_rfl) rfl ?_
        refine tn_first_skip (i := 15) (listed' := #[true, true, true, true, true, true, true, true, true, true, true, true, true, true, true, true, false, false]) rfl rfl (by kernel_rfl) rfl ?_
        refine tn_first_q (i := 16) (listed' := #[true, true, true, true, true, true, true, true, true, true, true, true, true, true, true, true, true, false]) rfl rfl (by kernel_rfl) rfl (q_pickF rfl (by conv=>lhs;whnf) ?_)
        refine tn_first_q (i := 17) (listed' := #[true, true, true, true, true, true, true, true, true, true, true, true, true, true, true, true, true, true]) rfl rfl (by kernel_rfl) rfl (q_assign (by conv=>lhs;whnf) ?_)
        refine tn_end (by kernel_rfl) (hK2 _ ?_); clear hK2
        refine good_ret ?_
        repeat first|refine thenQ_ret ?_|refine blockQ_ret ?_
        refine ret_tmp (st := _) rfl (by conv=>lhs;whnf) rfl ?_
        first | exact fT ⟨by omega, hfl.1 (by omega)⟩ | exact fF (fun h => by have h1 := h.1; have h2 := hfl.2 h.2; omega)
  · replace hb6 := eqT hb6
    refine tn_first_q (i := 8) (listed' := #[true, true, true, true, true, true, true, true, true, false, false, false, false, false, false, false, false, false]) rfl rfl (by kernel_rfl) rfl (q_move (by conv=>lhs;whnf) ?_)
    refine tn_first_q (i := 9) (listed' := #[true, true, true, true, true, true, true, true, true, true, false, false, false, false, false, false, false, false]) rfl rfl (by kernel_rfl) rfl (q_loadA tA27 rfl rfl rfl ?_)
    refine tn_first_q (i := 12) (listed' := #[true, true, true, true, true, true, true, true, true, true, false, false, true, false, false, false, false, false]) rfl rfl (by kernel_rfl) rfl (q_fieldAddrP fO27_0 rfl rfl ?_)
    refine tn_step [10, 13] (by kernel_rfl) rfl ?_
    refine ⟨?_, ?_, trivial⟩
    · refine tn_k (listed' := #[true, true, true, true, true, true, true, true, true, true, true, false, true, false, false, false, false, false]) rfl rfl rfl rfl (k_callX [(900001, 900001)] (D_impl_Network_reached ns ps 0 hn hp hz ok ⟨by omega, by omega⟩) rfl (rfl) (rfl) trivial ⟨⟨rfl, show (900001 : Nat) < 1000000 by decide⟩, trivial⟩ rfl rfl rfl ?_)
      refine tn_first_q (i := 11) (listed' := #[true, true, true, true, true, true, true, true, true, true, true, true, true, false, false, false, false, false]) rfl rfl (by kernel_rfl) rfl (q_len tEs24 rfl ?_)
      intro n7 hn7
      try simp only [List.length_map] at hn7
      refine tn_first_q (i := 13) (listed' := #[true, true, true, true, true, true, true, true, true, true, true, true, true, true, false, false, false, false]) rfl rfl (by kernel_rfl) rfl (q_load tA24 rfl ?_)
      refine tn_first_q (i := 14) (listed' := #[true, true, true, true, true, true, true, true, true, true, true, true, true, true, true, false, false, false]) rfl rfl (by kernel_rfl) rfl (q_len tEs24 rfl ?_)
      intro n8 hn8
      try simp only [List.length_map] at hn8
      refine tn_first_q (i := 15) (listed' := #[true, true, true, true, true, true, true, true, true, true, true, true, true, true, true, true, false, false]) rfl rfl (by kernel_rfl) rfl (q_int rfl rfl ?_)
      intro b9 hb9; cases b9
      · replace hb9 := eqF hb9
        refine tn_first_q (i := 16) (listed' := #[true, true, true, true, true, true, true, true, true, true, true, true, true, true, true, true, true, false]) rfl rfl (by kernel_rfl) rfl (q_pickT rfl (by conv=>lhs;whnf) ?_)
        refine tn_first_q (i := 17) (listed' := #[true, true, true, true, true, true, true, true, true, true, true, true, true, true, true, true, true, true]) rfl rfl (by kernel_rfl) rfl (q_assign (by conv=>lhs;whnf) ?_)
        refine tn_end (by kernel_rfl) (hK2 _ ?_); clear hK2
        refine good_ret ?_
        repeat first|refine thenQ_ret ?_|refine blockQ_ret ?_
        refine ret_tmp (st := _) rfl (by conv=>lhs;whnf) rfl ?_
        first | exact fT ⟨by omega, hfl.1 (by omega)⟩ | exact fF (fun h => by have h1 := h.1; have h2 := hfl.2 h.2; omega)
      · replace hb9 := eqT hb9
        refine tn_first_q (i := 16) (listed' := #[true, true, true, true, true, true, true, true, true, true, true, true, true, true, true, true, true, false]) rfl rfl (by kernel_rfl) rfl (q_pickT rfl (by conv=>lhs;whnf) ?_)
        refine tn_first_q (i := 17) (listed' := #[true, true, true, true, true, true, true, true, true, true, true, true, true, true, true, true, true, true]) rfl rfl (by kernel_rfl) rfl (q_assign (by conv=>lhs;whnf) ?_)
        refine tn_end (by kernel_rfl) (hK2 _ ?_); clear hK2
        refine good_ret ?_
        repeat first|refine thenQ_ret ?_|refine blockQ_ret ?_
        refine ret_tmp (st := _) rfl (by conv=>lhs;whnf) rfl ?_
        first | exact fT ⟨by omega, hfl.1 (by omega)⟩ | exact fF (fun h => by have h1 := h.1; have h2 := hfl.2 h.2; omega)
    · refine tn_q (listed' := #[true, true, true, true, true, true, true, true, true, true, false, false, true, true, false, false, false, false]) rfl rfl rfl (q_load tA24 rfl ?_)
      refine tn_step [10, 14] (by kernel_rfl) rfl ?_
      refine ⟨?_, ?_, trivial⟩
      · refine tn_k (listed' := #[true, true, true, true, true, true, true, true, true, true, true, false, true, true, false, false, false, false]) rfl rfl rfl rfl (k_callX [(900001, 900001)] (D_impl_Network_reached ns ps 0 hn hp hz ok ⟨by omega, by omega⟩) rfl (rfl) (rfl) trivial ⟨⟨rfl, show (900001 : Nat) < 1000000 by decide⟩, trivial⟩ rfl rfl rfl ?_)
        refine tn_first_q (i := 11) (listed' := #[true, true, true, true, true, true, true, true, true, true, true, true, true, true, false, false, false, false]) rfl rfl (by kernel_rfl) rfl (q_len tEs24 rfl ?_)
        intro n10 hn10
        try simp only [List.length_map] at hn10
        refine tn_first_q (i := 14) (listed' := #[true, true, true, true, true, true, true, true, true, true, true, true, true, true, true, false, false, false]) rfl rfl (by kernel_rfl) rfl (q_len tEs24 rfl ?_)
        intro n11 hn11
        try simp only [List.length_map] at hn11
        refine tn_first_q (i := 15) (listed' := #[true, true, true, true, true, true, true, true, true, true, true, true, true, true, true, true, false, false]) rfl rfl (by kernel_rfl) rfl (q_int rfl rfl ?_)
        intro b12 hb12; cases b12
        · replace hb12 := eqF hb12
          refine tn_first_q (i := 16) (listed' := #[true, true, true, true, true, true, true, true, true, true, true, true, true, true, true, true, true, false]) rfl rfl (by kernel_rfl) rfl (q_pickT rfl (by conv=>lhs;whnf) ?_)
          refine tn_first_q (i := 17) (listed' := #[true, true, true, true, true, true, true, true, true, true, true, true, true, true, true, true, true, true]) rfl rfl (by kernel_rfl) rfl (q_assign (by conv=>lhs;whnf) ?_)
          refine tn_end (by kernel_rfl) (hK2 _ ?_); clear hK2
          refine good_ret ?_
          repeat first|refine thenQ_ret ?_|refine blockQ_ret ?_
          refine ret_tmp (st := _) rfl (by conv=>lhs;whnf) rfl ?_
          first | exact fT ⟨by omega, hfl.1 (by omega)⟩ | exact fF (fun h => by have h1 := h.1; have h2 := hfl.2 h.2; omega)
        · replace hb12 := eqT hb12
          refine tn_first_q (i := 16) (listed' := #[true, true, true, true, true, true, true, true, true, true, true, true, true, true, true, true, true, false]) rfl rfl (by kernel_rfl) rfl (q_pickT rfl (by conv=>lhs;whnf) ?_)
          refine tn_first_q (i := 17) (listed' := #[true, true, true, true, true, true, true, true, true, true, true, true, true, true, true, true, true, true]) rfl rfl (by kernel_rfl) rfl (q_assign (by conv=>lhs;whnf) ?_)
          refine tn_end (by kernel_rfl) (hK2 _ ?_); clear hK2
          refine good_ret ?_
          repeat first|refine thenQ_ret ?_|refine blockQ_ret ?_
          refine ret_tmp (st := _) rfl (by conv=>lhs;whnf) rfl ?_
          first | exact fT ⟨by omega, hfl.1 (by omega)⟩ | exact fF (fun h => by have h1 := h.1; have h2 := hfl.2 h.2; omega)
      · refine tn_q (listed' := #[true, true, true, true, true, true, true, true, true, true, false, false, true, true, true, false, false, false]) rfl rfl rfl (q_len tEs24 rfl ?_)
        intro n13 hn13
        try simp only [List.length_map] at hn13
        refine tn_step [10] (by kernel_rfl) rfl ?_
        refine ⟨?_, trivial⟩
        refine tn_k (listed' := #[true, true, true, true, true, true, true, true, true, true, true, false, true, true, true, false, false, false]) rfl rfl rfl rfl (k_callX [(900001, 900001)] (D_impl_Network_reached ns ps 0 hn hp hz ok ⟨by omega, by omega⟩) rfl (rfl) (rfl) trivial ⟨⟨rfl, show (900001 : Nat) < 1000000 by decide⟩, trivial⟩ rfl rfl rfl ?_)
        refine tn_first_q (i := 11) (listed' := #[true, true, true, true, true, true, true, true, true, true, true, true, true, true, true, false, false, false]) rfl rfl (by kernel_rfl) rfl (q_len tEs24 rfl ?_)
        intro n14 hn14
        try simp only [List.length_map] at hn14
        refine tn_first_q (i := 15) (listed' := #[true, true, true, true, true, true, true, true, true, true, true, true, true, true, true, true, false, false]) rfl rfl (by kernel_rfl) rfl (q_int rfl rfl ?_)
        intro b15 hb15; cases b15
        · replace hb15 := eqF hb15
          refine tn_first_q (i := 16) (listed' := #[true, true, true, true, true, true, true, true, true, true, true, true, true, true, true, true, true, false]) rfl rfl (by kernel_rfl) rfl (q_pickT rfl (by conv=>lhs;whnf) ?_)
          refine tn_first_q (i := 17) (listed' := #[true, true, true, true, true, true, true, true, true, true, true, true, true, true, true, true, true, true]) rfl rfl (by kernel_rfl) rfl (q_assign (by conv=>lhs;whnf) ?_)
          refine tn_end (by kernel_rfl) (hK2 _ ?_); clear hK2
          refine good_ret ?_
          repeat first|refine thenQ_ret ?_|refine blockQ_ret ?_
          refine ret_tmp (st := _) rfl (by conv=>lhs;whnf) rfl ?_
          first | exact fT ⟨by omega, hfl.1 (by omega)⟩ | exact fF (fun h => by have h1 := h.1; have h2 := hfl.2 h.2; omega)
        · replace hb15 := eqT hb15
          refine tn_first_q (i := 16) (listed' := #[true, true, true, true, true, true, true, true, true, true, true, true, true, true, true, true, true, false]) rfl rfl (by kernel_rfl) rfl (q_pickT rfl (by conv=>lhs;whnf) ?_)
          refine tn_first_q (i := 17) (listed' := #[true, true, true, true, true, true, true, true, true, true, true, true, true, true, true, true, true, true]) rfl rfl (by kernel_rfl) rfl (q_assign (by conv=>lhs;whnf) ?_)
          refine tn_end (by kernel_rfl) (hK2 _ ?_); clear hK2
          refine good_ret ?_
          repeat first|refine thenQ_ret ?_|refine blockQ_ret ?_
          refine ret_tmp (st := _) rfl (by conv=>lhs;whnf) rfl ?_
          first | exact fT ⟨by omega, hfl.1 (by omega)⟩ | exact fF (fun h => by have h1 := h.1; have h2 := hfl.2 h.2; omega)

-- impl.pressureOk
theorem D_impl_pressureOk (a : Int)  : Den Try.prog 78 [.s (.int .i64 a)] (.s (.bool (decide (0 ≤ a ∧ a ≤ 100000000)))) := by
  refine den_of_good Try.func78 (by decide) rfl (Nat.le_of_ble_eq_true rfl) (Nat.le_of_ble_eq_true rfl) ?_
  refine good_seq fun K1 hK1 => ?_
  refine gr rfl ?_
  refine ea rfl (by conv=>lhs;whnf) ?_
  refine ev_nil (hK1 _ ?_); clear hK1
  refine good_seq fun K2 hK2 => ?_
  refine gr rfl ?_
  refine em rfl (by conv=>lhs;whnf) ?_
  refine ev_q rfl (q_callB rfl rfl (rfl) (D_impl_within ..) ?_)
  intro b3 hb3; cases b3
  · first | replace hb3 := dF hb3 | skip
    refine ea rfl (by conv=>lhs;whnf) ?_
    refine ev_nil (hK2 _ ?_); clear hK2
    refine good_ret ?_
    repeat first|refine thenQ_ret ?_|refine blockQ_ret ?_
    refine ret_tmp (st := _) rfl (by conv=>lhs;whnf) rfl ?_
    first | rfl | exact fT (by first | omega | grind) | exact fF (by first | omega | grind) | exact fT' (by first | omega | grind) | (exfalso; first | omega | grind)
  · first | replace hb3 := dT hb3 | skip
    refine ea rfl (by conv=>lhs;whnf) ?_
    refine ev_nil (hK2 _ ?_); clear hK2
    refine good_ret ?_
    repeat first|refine thenQ_ret ?_|refine blockQ_ret ?_
    refine ret_tmp (st := _) rfl (by conv=>lhs;whnf) rfl ?_
    first | rfl | exact fT (by first | omega | grind) | exact fF (by first | omega | grind) | exact fT' (by first | omega | grind) | (exfalso; first | omega | grind)

-- (impl.Network).flowsOk
theorem D_impl_Network_flowsOk (ns : List Int) (ps : List Pi) (fl : List Int) (hn : ns.length ≤ 17592186044416) (hp : ps.length ≤ 2513169434843) (hz : idSz ps) (hf : fl.length ≤ 17592186044416) : Den Try.prog 41 [.agg [.lst 1 (ns.map ci), .lst 6 (ps.map piA)], .lst 1 (fl.map ci)] (.s (.bool (decide (flP ps fl)))) := by
  refine den_of_good Try.func41 (by decide) rfl (Nat.le_of_ble_eq_true rfl) (Nat.le_of_ble_eq_true rfl) ?_
  refine good_seq fun K1 hK1 => ?_
  refine gr rfl ?_
  refine ev_k rfl (k_box (by conv=>lhs;whnf) rfl rfl rfl ?_)
  refine ea rfl (by conv=>lhs;whnf) ?_
  refine ev_nil (hK1 _ ?_); clear hK1
  refine good_seq fun K2 hK2 => ?_
  refine gr rfl ?_
  refine em rfl (by conv=>lhs;whnf) ?_
  refine ev_q rfl (q_len tEs24 rfl ?_)
  intro n3 hn3
  try simp only [List.length_map] at hn3
  refine ev_q rfl (q_fieldAddrP fO27_1 rfl rfl ?_)
  refine ev_q rfl (q_load tA25 rfl ?_)
  refine ev_q rfl (q_len tEs25 rfl ?_)
  intro n4 hn4
  try simp only [List.length_map] at hn4
  refine ei rfl rfl rfl ?_
  intro b5 hb5; cases b5
  · replace hb5 := eqF hb5
    refine em rfl (by conv=>lhs;whnf) ?_
    refine ev_skip rfl ?_
    refine ev_skip rfl ?_
    refine ev_q rfl (q_pickF rfl (by conv=>lhs;whnf) ?_)
    refine ea rfl (by conv=>lhs;whnf) ?_
    refine ev_nil (hK2 _ ?_); clear hK2
    refine good_ret ?_
    repeat first|refine thenQ_ret ?_|refine blockQ_ret ?_
    refine ret_tmp (st := _) rfl (by conv=>lhs;whnf) rfl ?_
    first | exact fT ⟨by omega, by assumption⟩ | exact fF (fun h => by have h1 := h.1; first | omega | exact absurd h.2 (by assumption))
  · replace hb5 := eqT hb5
    refine em rfl (by conv=>lhs;whnf) ?_
    refine em rfl (by conv=>lhs;whnf) ?_
    refine ev_q rfl (q_callB rfl rfl (rfl) (D_impl_allWithin fl _ _ hf) ?_)
    intro b6 hb6; cases b6
    · first | replace hb6 := dF hb6 | skip
      refine ev_q rfl (q_pickT rfl (by conv=>lhs;whnf) ?_)
      refine ea rfl (by conv=>lhs;whnf) ?_
      refine ev_nil (hK2 _ ?_); clear hK2
      refine good_ret ?_
      repeat first|refine thenQ_ret ?_|refine blockQ_ret ?_
      refine ret_tmp (st := _) rfl (by conv=>lhs;whnf) rfl ?_
      first | exact fT ⟨by omega, by assumption⟩ | exact fF (fun h => by have h1 := h.1; first | omega | exact absurd h.2 (by assumption))
    · first | replace hb6 := dT hb6 | skip
      refine ev_q rfl (q_pickT rfl (by conv=>lhs;whnf) ?_)
      refine ea rfl (by conv=>lhs;whnf) ?_
      refine ev_nil (hK2 _ ?_); clear hK2
      refine good_ret ?_
      repeat first|refine thenQ_ret ?_|refine blockQ_ret ?_
      refine ret_tmp (st := _) rfl (by conv=>lhs;whnf) rfl ?_
      first | exact fT ⟨by omega, by assumption⟩ | exact fF (fun h => by have h1 := h.1; first | omega | exact absurd h.2 (by assumption))

-- impl.treeCode
theorem D_impl_treeCode_P (ns : List Int) (ps : List Pi) (s : Int) (fl : List Int) (pr : Int) (hn : ns.length ≤ 17592186044416) (hp : ps.length ≤ 2513169434843) (hz : idSz ps) (hf : fl.length ≤ 17592186044416) (hpr : 0 ≤ pr ∧ pr ≤ 100000000) : Den Try.prog 36 [.agg [.lst 1 (ns.map ci), .lst 6 (ps.map piA)], .s (.int .i64 s), .s (.int .i64 pr), .nil, .lst 1 (fl.map ci), .s (.bool false)] (.s (.int .i64 (fcC ns ps s fl))) := by
  refine den_of_good Try.func36 (by decide) rfl (Nat.le_of_ble_eq_true rfl) (Nat.le_of_ble_eq_true rfl) ?_
  refine good_seq fun K1 hK1 => ?_
  refine gr rfl ?_
  refine ev_k rfl (k_box (by conv=>lhs;whnf) rfl rfl rfl ?_)
  refine ea rfl (by conv=>lhs;whnf) ?_
  refine ev_nil (hK1 _ ?_); clear hK1
  refine good_seq fun K2 hK2 => ?_
  refine good_block ?_
  refine good_seq fun K3 hK3 => ?_
  refine gr rfl ?_
  refine ev_q rfl (q_loadA tA27 rfl rfl rfl ?_)
  refine ev_q rfl (q_callB rfl rfl (rfl) (D_impl_ValidNetwork ns ps hn hp hz) ?_)
  intro b4 hb4; cases b4
  · first | replace hb4 := dF hb4 | skip
    refine ev_q rfl (q_not rfl rfl ?_)
    refine ea rfl (by conv=>lhs;whnf) ?_
    refine ev_nil (hK3 _ ?_); clear hK3
    refine good_condT rfl ?_
    refine good_seq fun K5 hK5 => ?_
    refine gr rfl ?_
    refine ea rfl (by conv=>lhs;whnf) ?_
    refine ev_nil (hK5 _ ?_); clear hK5
    refine good_ret ?_
    repeat first|refine thenQ_ret ?_|refine blockQ_ret ?_
    refine ret_tmp (st := _) rfl (by conv=>lhs;whnf) rfl ?_
    clear hK2
    first | exact fI (by unfold fcC; rw [if_neg (by assumption)]) | exact fI (by unfold fcC; rw [if_pos (by assumption), if_neg (by omega)]) | exact fI (by unfold fcC; rw [if_pos (by assumption), if_pos (by omega), if_neg (by assumption)]) | exact fI (by unfold fcC; rw [if_pos (by assumption), if_pos (by omega), if_pos (by assumption), if_neg (by assumption)]) | exact fI (by unfold fcC; rw [if_pos (by assumption), if_pos (by omega), if_pos (by assumption), if_pos (by assumption)]) | (exfalso; omega)
  · first | replace hb4 := dT hb4 | skip
    refine ev_q rfl (q_not rfl rfl ?_)
    refine ea rfl (by conv=>lhs;whnf) ?_
    refine ev_nil (hK3 _ ?_); clear hK3
    refine good_condF rfl ?_
    refine good_seq fun K6 hK6 => ?_
    refine gr rfl ?_
    refine ev_q rfl (q_loadA tA27 rfl rfl rfl ?_)
    refine em rfl (by conv=>lhs;whnf) ?_
    refine ev_q rfl (q_callB rfl rfl (rfl) (D_impl_Network_hasNode _ _ _ hn) ?_)
    intro b7 hb7; cases b7
    · first | replace hb7 := dF hb7 | skip
      refine ev_q rfl (q_not rfl rfl ?_)
      refine em rfl (by conv=>lhs;whnf) ?_
      refine ev_skip rfl ?_
      refine ev_skip rfl ?_
      refine ev_skip rfl ?_
      refine ev_q rfl (q_pickT rfl (by conv=>lhs;whnf) ?_)
      refine ea rfl (by conv=>lhs;whnf) ?_
      refine ev_nil (hK6 _ ?_); clear hK6
      refine good_condT rfl ?_
      refine good_seq fun K8 hK8 => ?_
      refine gr rfl ?_
      refine ea rfl (by conv=>lhs;whnf) ?_
      refine ev_nil (hK8 _ ?_); clear hK8
      refine good_ret ?_
      repeat first|refine thenQ_ret ?_|refine blockQ_ret ?_
      refine ret_tmp (st := _) rfl (by conv=>lhs;whnf) rfl ?_
      clear hK2
      first | exact fI (by unfold fcC; rw [if_neg (by assumption)]) | exact fI (by unfold fcC; rw [if_pos (by assumption), if_neg (by omega)]) | exact fI (by unfold fcC; rw [if_pos (by assumption), if_pos (by omega), if_neg (by assumption)]) | exact fI (by unfold fcC; rw [if_pos (by assumption), if_pos (by omega), if_pos (by assumption), if_neg (by assumption)]) | exact fI (by unfold fcC; rw [if_pos (by assumption), if_pos (by omega), if_pos (by assumption), if_pos (by assumption)]) | (exfalso; omega)
    · first | replace hb7 := dT hb7 | skip
      refine ev_q rfl (q_not rfl rfl ?_)
      refine em rfl (by conv=>lhs;whnf) ?_
      refine em rfl (by conv=>lhs;whnf) ?_
      refine ev_q rfl (q_callB rfl rfl (rfl) (D_impl_pressureOk ..) ?_)
      intro b9 hb9; cases b9
      · first | replace hb9 := dF hb9 | skip
        refine ev_q rfl (q_not rfl rfl ?_)
        refine ev_q rfl (q_pickF rfl (by conv=>lhs;whnf) ?_)
        refine ea rfl (by conv=>lhs;whnf) ?_
        refine ev_nil (hK6 _ ?_); clear hK6
        refine good_condT rfl ?_
        refine good_seq fun K10 hK10 => ?_
        refine gr rfl ?_
        refine ea rfl (by conv=>lhs;whnf) ?_
        refine ev_nil (hK10 _ ?_); clear hK10
        refine good_ret ?_
        repeat first|refine thenQ_ret ?_|refine blockQ_ret ?_
        refine ret_tmp (st := _) rfl (by conv=>lhs;whnf) rfl ?_
        clear hK2
        first | exact fI (by unfold fcC; rw [if_neg (by assumption)]) | exact fI (by unfold fcC; rw [if_pos (by assumption), if_neg (by omega)]) | exact fI (by unfold fcC; rw [if_pos (by assumption), if_pos (by omega), if_neg (by assumption)]) | exact fI (by unfold fcC; rw [if_pos (by assumption), if_pos (by omega), if_pos (by assumption), if_neg (by assumption)]) | exact fI (by unfold fcC; rw [if_pos (by assumption), if_pos (by omega), if_pos (by assumption), if_pos (by assumption)]) | (exfalso; omega)
      · first | replace hb9 := dT hb9 | skip
        refine ev_q rfl (q_not rfl rfl ?_)
        refine ev_q rfl (q_pickF rfl (by conv=>lhs;whnf) ?_)
        refine ea rfl (by conv=>lhs;whnf) ?_
        refine ev_nil (hK6 _ ?_); clear hK6
        refine good_condF rfl ?_
        refine good_seq fun K11 hK11 => ?_
        refine gr rfl ?_
        refine em rfl (by conv=>lhs;whnf) ?_
        refine em rfl (by conv=>lhs;whnf) ?_
        refine ev_skip rfl ?_
        refine ev_skip rfl ?_
        refine ev_skip rfl ?_
        refine ev_skip rfl ?_
        refine ev_skip rfl ?_
        refine ev_skip rfl ?_
        refine ev_skip rfl ?_
        refine ev_skip rfl ?_
        refine ev_skip rfl ?_
        refine ev_skip rfl ?_
        refine ev_skip rfl ?_
        refine ev_q rfl (q_pickF rfl (by conv=>lhs;whnf) ?_)
        refine ea rfl (by conv=>lhs;whnf) ?_
        refine ev_nil (hK11 _ ?_); clear hK11
        refine good_condF rfl ?_
        refine good_seq fun K12 hK12 => ?_
        refine gr rfl ?_
        refine em rfl (by conv=>lhs;whnf) ?_
        refine ev_q rfl (q_not rfl rfl ?_)
        refine em rfl (by conv=>lhs;whnf) ?_
        refine ev_q rfl (q_loadA tA27 rfl rfl rfl ?_)
        refine em rfl (by conv=>lhs;whnf) ?_
        refine ev_q rfl (q_callB rfl rfl (rfl) (D_impl_Network_flowsOk ns ps fl hn hp hz hf) ?_)
        intro b13 hb13; cases b13
        · first | replace hb13 := dF hb13 | skip
          refine ev_q rfl (q_not rfl rfl ?_)
          refine ev_q rfl (q_pickT rfl (by conv=>lhs;whnf) ?_)
          refine ea rfl (by conv=>lhs;whnf) ?_
          refine ev_nil (hK12 _ ?_); clear hK12
          refine good_condT rfl ?_
          refine good_seq fun K14 hK14 => ?_
          refine gr rfl ?_
          refine ea rfl (by conv=>lhs;whnf) ?_
          refine ev_nil (hK14 _ ?_); clear hK14
          refine good_ret ?_
          repeat first|refine thenQ_ret ?_|refine blockQ_ret ?_
          refine ret_tmp (st := _) rfl (by conv=>lhs;whnf) rfl ?_
          clear hK2
          first | exact fI (by unfold fcC; rw [if_neg (by assumption)]) | exact fI (by unfold fcC; rw [if_pos (by assumption), if_neg (by omega)]) | exact fI (by unfold fcC; rw [if_pos (by assumption), if_pos (by omega), if_neg (by assumption)]) | exact fI (by unfold fcC; rw [if_pos (by assumption), if_pos (by omega), if_pos (by assumption), if_neg (by assumption)]) | exact fI (by unfold fcC; rw [if_pos (by assumption), if_pos (by omega), if_pos (by assumption), if_pos (by assumption)]) | (exfalso; omega)
        · first | replace hb13 := dT hb13 | skip
          refine ev_q rfl (q_not rfl rfl ?_)
          refine ev_q rfl (q_pickT rfl (by conv=>lhs;whnf) ?_)
          refine ea rfl (by conv=>lhs;whnf) ?_
          refine ev_nil (hK12 _ ?_); clear hK12
          refine good_condF rfl ?_
          refine good_seq fun K15 hK15 => ?_
          refine gr rfl ?_
          refine ev_q rfl (q_loadA tA27 rfl rfl rfl ?_)
          refine ev_q rfl (q_callB rfl rfl (rfl) (D_impl_Network_isTree ns ps hn hp hz (by assumption)) ?_)
          intro b16 hb16; cases b16
          · first | replace hb16 := dF hb16 | skip
            refine ev_q rfl (q_not rfl rfl ?_)
            refine ea rfl (by conv=>lhs;whnf) ?_
            refine ev_nil (hK15 _ ?_); clear hK15
            refine good_condT rfl ?_
            refine good_seq fun K17 hK17 => ?_
            refine gr rfl ?_
            refine ea rfl (by conv=>lhs;whnf) ?_
            refine ev_nil (hK17 _ ?_); clear hK17
            refine good_ret ?_
            repeat first|refine thenQ_ret ?_|refine blockQ_ret ?_
            refine ret_tmp (st := _) rfl (by conv=>lhs;whnf) rfl ?_
            clear hK2
            first | exact fI (by unfold fcC; rw [if_neg (by assumption)]) | exact fI (by unfold fcC; rw [if_pos (by assumption), if_neg (by omega)]) | exact fI (by unfold fcC; rw [if_pos (by assumption), if_pos (by omega), if_neg (by assumption)]) | exact fI (by unfold fcC; rw [if_pos (by assumption), if_pos (by omega), if_pos (by assumption), if_neg (by assumption)]) | exact fI (by unfold fcC; rw [if_pos (by assumption), if_pos (by omega), if_pos (by assumption), if_pos (by assumption)]) | (exfalso; omega)
          · first | replace hb16 := dT hb16 | skip
            refine ev_q rfl (q_not rfl rfl ?_)
            refine ea rfl (by conv=>lhs;whnf) ?_
            refine ev_nil (hK15 _ ?_); clear hK15
            refine good_condF rfl ?_
            refine good_skip (hK2 _ ?_); clear hK2
            refine good_seq fun K18 hK18 => ?_
            refine gr rfl ?_
            refine ea rfl (by conv=>lhs;whnf) ?_
            refine ev_nil (hK18 _ ?_); clear hK18
            refine good_ret ?_
            repeat first|refine thenQ_ret ?_|refine blockQ_ret ?_
            refine ret_tmp (st := _) rfl (by conv=>lhs;whnf) rfl ?_
            first | exact fI (by unfold fcC; rw [if_neg (by assumption)]) | exact fI (by unfold fcC; rw [if_pos (by assumption), if_neg (by omega)]) | exact fI (by unfold fcC; rw [if_pos (by assumption), if_pos (by omega), if_neg (by assumption)]) | exact fI (by unfold fcC; rw [if_pos (by assumption), if_pos (by omega), if_pos (by assumption), if_neg (by assumption)]) | exact fI (by unfold fcC; rw [if_pos (by assumption), if_pos (by omega), if_pos (by assumption), if_pos (by assumption)]) | (exfalso; omega)

-- impl.flowsCode
theorem D_impl_flowsCode_P (ns : List Int) (ps : List Pi) (s : Int) (fl : List Int) (pr : Int) (hn : ns.length ≤ 17592186044416) (hp : ps.length ≤ 2513169434843) (hz : idSz ps) (hf : fl.length ≤ 17592186044416) (hpr : 0 ≤ pr ∧ pr ≤ 100000000) : Den Try.prog 42 [.agg [.lst 1 (ns.map ci), .lst 6 (ps.map piA)], .s (.int .i64 s), .lst 1 (fl.map ci), .s (.int .i64 pr)] (.s (.int .i64 (fcC ns ps s fl))) := by
  refine den_of_good Try.func42 (by decide) rfl (Nat.le_of_ble_eq_true rfl) (Nat.le_of_ble_eq_true rfl) ?_
  refine good_seq fun K1 hK1 => ?_
  refine gr rfl ?_
  refine ev_k rfl (k_box (by conv=>lhs;whnf) rfl rfl rfl ?_)
  refine ea rfl (by conv=>lhs;whnf) ?_
  refine ev_nil (hK1 _ ?_); clear hK1
  refine good_seq fun K2 hK2 => ?_
  refine gr rfl ?_
  refine ev_q rfl (q_loadA tA27 rfl rfl rfl ?_)
  refine em rfl (by conv=>lhs;whnf) ?_
  refine em rfl (by conv=>lhs;whnf) ?_
  refine em rfl (by conv=>lhs;whnf) ?_
  refine ev_q rfl (q_callI rfl rfl (rfl) (D_impl_treeCode_P ns ps s fl pr hn hp hz hf hpr) ?_)
  intro n3 hn3
  refine ea rfl (by conv=>lhs;whnf) ?_
  refine ev_nil (hK2 _ ?_); clear hK2
  refine good_ret ?_
  repeat first|refine thenQ_ret ?_|refine blockQ_ret ?_
  refine ret_tmp (st := _) rfl (by conv=>lhs;whnf) rfl ?_
  first | rfl | exact fI (by assumption)

-- impl.abs
theorem D_impl_abs (a : Int) (h : -9223372036854775807 ≤ a ∧ a ≤ 9223372036854775807) : Den Try.prog 88 [.s (.int .i64 a)] (.s (.int .i64 ((a.natAbs : Int)))) := by
  refine den_of_good Try.func88 (by decide) rfl (Nat.le_of_ble_eq_true rfl) (Nat.le_of_ble_eq_true rfl) ?_
  refine good_seq fun K1 hK1 => ?_
  refine gr rfl ?_
  refine ea rfl (by conv=>lhs;whnf) ?_
  refine ev_nil (hK1 _ ?_); clear hK1
  refine good_seq fun K2 hK2 => ?_
  refine gr rfl ?_
  refine em rfl (by conv=>lhs;whnf) ?_
  refine em rfl (by conv=>lhs;whnf) ?_
  refine ev_q rfl (q_neg rfl ?_)
  intro n3 hn3
  replace hn3 := neg64 hn3 (by omega) (by omega)
  refine ev_q rfl (q_max rfl rfl ?_)
  intro n4 hn4; simp only [mxI, mnI] at hn4
  refine ea rfl (by conv=>lhs;whnf) ?_
  refine ev_nil (hK2 _ ?_); clear hK2
  refine good_ret ?_
  repeat first|refine thenQ_ret ?_|refine blockQ_ret ?_
  refine ret_tmp (st := _) rfl (by conv=>lhs;whnf) rfl ?_
  first | rfl | exact fI (by first | omega | grind) | (exfalso; first | omega | grind)

-- impl.divRound
theorem D_impl_divRound (a b : Int) (ha : -4000000000000000000 ≤ a ∧ a ≤ 4000000000000000000) (hb : b ≠ 0 ∧ -1000000000000000000 ≤ b ∧ b ≤ 1000000000000000000) : Den Try.prog 71 [.s (.int .i64 a), .s (.int .i64 b)] (.s (.int .i64 (dr a b))) := by
  refine den_of_good Try.func71 (by decide) rfl (Nat.le_of_ble_eq_true rfl) (Nat.le_of_ble_eq_true rfl) ?_
  refine good_seq fun K1 hK1 => ?_
  refine gr rfl ?_
  refine ea rfl (by conv=>lhs;whnf) ?_
  refine ev_nil (hK1 _ ?_); clear hK1
  refine good_seq fun K2 hK2 => ?_
  refine good_draw 9 hmix (by kernel_rfl) rfl ?_
  refine qm rfl (by conv=>lhs;whnf) ?_
  refine qm rfl (by conv=>lhs;whnf) ?_
  refine qo_q rfl (q_int rfl rfl ⟨by omega, ?_⟩)
  intro n3 hn3
  replace hn3 := quoT hn3 (by omega) (by omega)
  have ht := tdiv_le (a := a) (b := b)
  rw [← hn3] at ht
  refine qm rfl (by conv=>lhs;whnf) ?_
  refine qm rfl (by conv=>lhs;whnf) ?_
  refine qo_q rfl (q_int rfl rfl ⟨by omega, ?_⟩)
  intro n4 hn4
  have hm := tmod_lt' (a := a) (b := b) (by omega)
  rw [← hn4] at hm
  refine qo_q rfl (q_callI rfl rfl (rfl) (D_impl_abs _ (by omega)) ?_)
  intro n5 hn5
  refine qa rfl (by conv=>lhs;whnf) ?_
  refine qa rfl (by conv=>lhs;whnf) ?_
  refine qo_nil ?_
  refine ev_nil (hK2 _ ?_); clear hK2
  refine good_seq fun K6 hK6 => ?_
  refine good_seq fun K7 hK7 => ?_
  refine gr rfl ?_
  refine em rfl (by conv=>lhs;whnf) ?_
  refine em rfl (by conv=>lhs;whnf) ?_
  refine ev_q rfl (q_callI rfl rfl (rfl) (D_impl_abs _ (by omega)) ?_)
  intro n8 hn8
  refine em rfl (by conv=>lhs;whnf) ?_
  refine ei rfl rfl rfl ?_
  intro n9 hn9
  replace hn9 := in64 hn9 (by omega) (by omega)
  refine ei rfl rfl rfl ?_
  intro b10 hb10; cases b10
  · replace hb10 := dF hb10
    refine ev_nil (hK7 _ ?_); clear hK7
    refine good_condF rfl ?_
    refine good_skip (hK6 _ ?_); clear hK6
    refine good_seq fun K11 hK11 => ?_
    refine gr rfl ?_
    refine em rfl (by conv=>lhs;whnf) ?_
    refine ea rfl (by conv=>lhs;whnf) ?_
    refine ev_nil (hK11 _ ?_); clear hK11
    refine good_ret ?_
    repeat first|refine thenQ_ret ?_|refine blockQ_ret ?_
    refine ret_tmp (st := _) rfl (by conv=>lhs;whnf) rfl ?_
    exact fI (by rw [dr_eq (q := n3) (r := n5) (by omega) hn3 (by rw [hn5, hn4])]; first | (rw [if_neg (by omega)]) | (rw [if_pos (by omega)]; first | (rw [if_pos (decide_eq_decide.2 (by omega))]; omega) | (rw [if_neg (fun h => by have := decide_eq_decide.1 h; omega)]; omega)))
  · replace hb10 := dT hb10
    refine ev_nil (hK7 _ ?_); clear hK7
    refine good_condT rfl ?_
    refine good_seq fun K12 hK12 => ?_
    refine good_seq fun K13 hK13 => ?_
    refine gr rfl ?_
    refine em rfl (by conv=>lhs;whnf) ?_
    refine ei rfl rfl rfl ?_
    intro b14 hb14; cases b14
    · replace hb14 := dF hb14
      refine em rfl (by conv=>lhs;whnf) ?_
      refine ei rfl rfl rfl ?_
      intro b15 hb15; cases b15
      · replace hb15 := dF hb15
        refine ev_q rfl (q_beq tB4 rfl rfl ?_)
        intro b16 hb16; replace hb16 : b16 = true := hb16; subst hb16
        refine ev_nil (hK13 _ ?_); clear hK13
        refine good_condT rfl ?_
        refine good_seq fun K17 hK17 => ?_
        refine gr rfl ?_
        refine em rfl (by conv=>lhs;whnf) ?_
        refine ei rfl rfl rfl ?_
        intro n18 hn18
        replace hn18 := in64 hn18 (by omega) (by omega)
        refine ea rfl (by conv=>lhs;whnf) ?_
        refine ev_nil (hK17 _ ?_); clear hK17
        refine good_ret ?_
        repeat first|refine thenQ_ret ?_|refine blockQ_ret ?_
        refine ret_tmp (st := _) rfl (by conv=>lhs;whnf) rfl ?_
        clear hK6 hK12
        exact fI (by rw [dr_eq (q := n3) (r := n5) (by omega) hn3 (by rw [hn5, hn4])]; first | (rw [if_neg (by omega)]) | (rw [if_pos (by omega)]; first | (rw [if_pos (decide_eq_decide.2 (by omega))]; omega) | (rw [if_neg (fun h => by have := decide_eq_decide.1 h; omega)]; omega)))
      · replace hb15 := dT hb15
        refine ev_q rfl (q_beq tB4 rfl rfl ?_)
        intro b19 hb19; replace hb19 : b19 = false := hb19; subst hb19
        refine ev_nil (hK13 _ ?_); clear hK13
        refine good_condF rfl ?_
        refine good_skip (hK12 _ ?_); clear hK12
        refine good_seq fun K20 hK20 => ?_
        refine gr rfl ?_
        refine em rfl (by conv=>lhs;whnf) ?_
        refine ei rfl rfl rfl ?_
        intro n21 hn21
        replace hn21 := in64 hn21 (by omega) (by omega)
        refine ea rfl (by conv=>lhs;whnf) ?_
        refine ev_nil (hK20 _ ?_); clear hK20
        refine good_ret ?_
        repeat first|refine thenQ_ret ?_|refine blockQ_ret ?_
        refine ret_tmp (st := _) rfl (by conv=>lhs;whnf) rfl ?_
        clear hK6
        exact fI (by rw [dr_eq (q := n3) (r := n5) (by omega) hn3 (by rw [hn5, hn4])]; first | (rw [if_neg (by omega)]) | (rw [if_pos (by omega)]; first | (rw [if_pos (decide_eq_decide.2 (by omega))]; omega) | (rw [if_neg (fun h => by have := decide_eq_decide.1 h; omega)]; omega)))
    · replace hb14 := dT hb14
      refine em rfl (by conv=>lhs;whnf) ?_
      refine ei rfl rfl rfl ?_
      intro b22 hb22; cases b22
      · replace hb22 := dF hb22
        refine ev_q rfl (q_beq tB4 rfl rfl ?_)
        intro b23 hb23; replace hb23 : b23 = false := hb23; subst hb23
        refine ev_nil (hK13 _ ?_); clear hK13
        refine good_condF rfl ?_
        refine good_skip (hK12 _ ?_); clear hK12
        refine good_seq fun K24 hK24 => ?_
        refine gr rfl ?_
        refine em rfl (by conv=>lhs;whnf) ?_
        refine ei rfl rfl rfl ?_
        intro n25 hn25
        replace hn25 := in64 hn25 (by omega) (by omega)
        refine ea rfl (by conv=>lhs;whnf) ?_
        refine ev_nil (hK24 _ ?_); clear hK24
        refine good_ret ?_
        repeat first|refine thenQ_ret ?_|refine blockQ_ret ?_
        refine ret_tmp (st := _) rfl (by conv=>lhs;whnf) rfl ?_
        clear hK6
        exact fI (by rw [dr_eq (q := n3) (r := n5) (by omega) hn3 (by rw [hn5, hn4])]; first | (rw [if_neg (by omega)]) | (rw [if_pos (by omega)]; first | (rw [if_pos (decide_eq_decide.2 (by omega))]; omega) | (rw [if_neg (fun h => by have := decide_eq_decide.1 h; omega)]; omega)))
      · replace hb22 := dT hb22
        refine ev_q rfl (q_beq tB4 rfl rfl ?_)
        intro b26 hb26; replace hb26 : b26 = true := hb26; subst hb26
        refine ev_nil (hK13 _ ?_); clear hK13
        refine good_condT rfl ?_
        refine good_seq fun K27 hK27 => ?_
        refine gr rfl ?_
        refine em rfl (by conv=>lhs;whnf) ?_
        refine ei rfl rfl rfl ?_
        intro n28 hn28
        replace hn28 := in64 hn28 (by omega) (by omega)
        refine ea rfl (by conv=>lhs;whnf) ?_
        refine ev_nil (hK27 _ ?_); clear hK27
        refine good_ret ?_
        repeat first|refine thenQ_ret ?_|refine blockQ_ret ?_
        refine ret_tmp (st := _) rfl (by conv=>lhs;whnf) rfl ?_
        clear hK6 hK12
        exact fI (by rw [dr_eq (q := n3) (r := n5) (by omega) hn3 (by rw [hn5, hn4])]; first | (rw [if_neg (by omega)]) | (rw [if_pos (by omega)]; first | (rw [if_pos (decide_eq_decide.2 (by omega))]; omega) | (rw [if_neg (fun h => by have := decide_eq_decide.1 h; omega)]; omega)))

-- (impl.Network).ways
theorem D_impl_Network_ways (ns : List Int) (ps : List Pi) (s : Int) (hn : ns.length ≤ 17592186044416) (hp : ps.length ≤ 2513169434843) (hz : idSz ps) (ok : netOk ns ps) (hs : 0 ≤ s ∧ s < ns.length) : DenX Try.prog 82 [] [.agg [.lst 1 (ns.map ci), .lst 6 (ps.map piA)], .s (.int .i64 s)] [(900001, .row 112 3 ((waysF (ps.map pe) ns.length s.toNat).2.map wyA))] (.own 900001 (waysF (ps.map pe) ns.length s.toNat).2.length) := by
  have h16 := ok.1.1
  have h20 := ok.1.2.2
  have hlt := esF_lt ok
  refine denX_of_good Try.func82 (by decide) rfl (Nat.le_of_ble_eq_true rfl) (Nat.le_of_ble_eq_true rfl) rfl ?_
  refine good_seq fun K1 hK1 => ?_
  refine gr rfl ?_
  refine ev_k rfl (k_box (by conv=>lhs;whnf) rfl rfl rfl ?_)
  refine ea rfl (by conv=>lhs;whnf) ?_
  refine ev_nil (hK1 _ ?_); clear hK1
  refine good_seq fun K2 hK2 => ?_
  refine gr rfl ?_
  refine ea rfl (by conv=>lhs;whnf) ?_
  refine ev_nil (hK2 _ ?_); clear hK2
  refine good_seq fun K3 hK3 => ?_
  refine gr rfl ?_
  refine em rfl (by conv=>lhs;whnf) ?_
  refine ev_k rfl (k_lit tE24 zA2 rfl rfl (by decide) (by decide) rfl rfl rfl ?_)
  refine ea rfl (by conv=>lhs;whnf) ?_
  refine ev_nil (hK3 _ ?_); clear hK3
  refine good_seq fun K4 hK4 => ?_
  refine good_seq fun K5 hK5 => ?_
  refine gr rfl ?_
  refine ea rfl (by conv=>lhs;whnf) ?_
  refine ev_nil (hK5 _ ?_); clear hK5
  refine good_block ?_
  refine good_loop (α := Nat × (List Nat × List (Nat × Nat × Nat))) (fun (k, y) => { env := upd (upd (upd (upd ((fun _ => .junk)) 2 (.ptr 2 0)) 5 (.own 57 y.2.length)) 6 (.own 47 (toI y.1).length)) 7 (.s (.int .i64 ((k : Int)))), H := upd (upd (upd ((fun _ => none)) 57 (some (.row 112 3 (y.2.map wyA)))) 47 (some (.row 2 1 ((toI y.1).map ci)))) 2 (some (.box 27 [.lst 1 (ns.map ci), .lst 6 (ps.map piA)])) }) (fun (k, y) => (k ≤ y.1.length ∧ y.2.length ≤ y.1.length) ∧ Inv (ps.map pe) ns.length s.toNat y.1 ∧ wyO (ps.map pe) (ns.length - k) k y = (waysF (ps.map pe) ns.length s.toNat)) (fun (k, y) => ns.length - k) (0, ([s.toNat], [])) ?_ ?_ ?_
  · exact ⟨⟨by simp, by simp⟩, ⟨by simp, fun v hv => by have e : v = s.toNat := (by simpa using hv); rw [e]; omega, fun v hv => by have e : v = s.toNat := (by simpa using hv); rw [e]; exact .rfl _, by simp⟩, rfl⟩
  · refine Sub.trans (sub_move 6 13 47 rfl rfl rfl (by decide)) ?_
    refine Sub.trans (sub_nil 5 57 112 3 rfl rfl (by decide)) ?_
    refine sub_weak ?_ ?_
    · exact weakH_box (boxEq (rfl)) rfl (weakH_row (rowEq (by show [ci s] = [ci ((s.toNat : Nat) : Int)]; rw [show ((s.toNat : Nat) : Int) = s by omega])) (weakH_row (rowEq (rfl)) (weakH_none _)))
    · refine weakE_upd ?e7 ?r7 (weakE_upd ?e6 ?r6 (weakE_upd ?e5 ?r5 (weakE_upd ?e2 ?r2 (weakE_junk _ _))))
      case e2 => first | rfl | exact fI (by omega) | (simp_all)
      case r2 => intro h hh; simp [refs] at hh; subst hh; rfl
      case e5 => first | rfl | exact fI (by omega) | (simp_all)
      case r5 => intro h hh; simp [refs] at hh; subst hh; rfl
      case e6 => first | rfl | exact fI (by omega) | (simp_all)
      case r6 => intro h hh; simp [refs] at hh; subst hh; rfl
      case e7 => first | rfl | exact fI (by omega) | (simp_all)
      case r7 => intro h hh; cases hh
  · rintro ⟨k, y⟩ ⟨⟨hK, hK2⟩, hV, hF⟩
    refine good_seq fun K6 hK6 => ?_
    refine good_seq fun K7 hK7 => ?_
    refine gr rfl ?_
    refine em rfl (by conv=>lhs;whnf) ?_
    refine em rfl (by conv=>lhs;whnf) ?_
    refine ev_q rfl (q_len tEs24 rfl ?_)
    intro n8 hn8
    try simp only [List.length_map] at hn8
    refine ei rfl rfl rfl ?_
    intro b9 hb9; cases b9
    · replace hb9 := dF hb9
      have hkl : y.1.length ≤ k := by rw [toI_len] at *; omega
      have hln := len_le y.1 hV.nd hV.lt
      refine ev_nil (hK7 _ ?_); clear hK7
      refine good_condF rfl ?_
      refine good_exit ?_
      repeat first|refine thenQ_exit ?_|refine blockQ_pass rfl ?_
      refine blockQ_exit (hK4 _ ?_); clear hK4
      refine good_seq fun K10 hK10 => ?_
      refine gr rfl ?_
      refine em rfl (by conv=>lhs;whnf) ?_
      refine ea rfl (by conv=>lhs;whnf) ?_
      refine ev_nil (hK10 _ ?_); clear hK10
      refine good_weak (sub_move 4 57 900001 rfl rfl rfl (by decide)) ?_
      refine good_ret ?_
      repeat first|refine thenQ_ret ?_|refine blockQ_ret ?_
      refine fx_tmp rfl (by conv=>lhs;whnf) ?_
      clear hK6
      have e : (waysF (ps.map pe) ns.length s.toNat) = y := by rw [← hF]; exact wyO_e hkl
      exact ⟨_, conv_eq (by first | rfl | (rw [e]; done) | (rw [e]; rfl) | exact ownEq (by first | omega | simp_all)), weakH_row (rowEq (by first | (rw [e]; done) | (rw [e]; rfl))) (weakH_none _), refsIn_ok rfl⟩
    · replace hb9 := dT hb9
      have hkl : k < y.1.length := by rw [toI_len] at *; omega
      obtain ⟨u, hu⟩ : ∃ u, y.1[k]? = some u := ⟨_, List.getElem?_eq_getElem hkl⟩
      have hln := len_le y.1 hV.nd hV.lt
      refine ev_nil (hK7 _ ?_); clear hK7
      refine good_condT rfl ?_
      refine good_skip (hK6 _ ?_); clear hK6
      refine good_seq fun K11 hK11 => ?_
      refine good_block ?_
      refine good_seq fun K12 hK12 => ?_
      refine gr rfl ?_
      refine ev_q rfl (q_fieldAddrP fO27_1 rfl rfl ?_)
      refine ev_q rfl (q_load tA25 rfl ?_)
      refine ev_q rfl (q_len tEs25 rfl ?_)
      intro n13 hn13
      try simp only [List.length_map] at hn13
      refine em rfl (by conv=>lhs;whnf) ?_
      refine ev_nil (hK12 _ ?_); clear hK12
      refine good_block ?_
      refine good_loop (α := Nat × (List Nat × List (Nat × Nat × Nat))) (fun (i, z) => { env := upd (upd (upd (upd (upd (upd (upd ((fun _ => .junk)) 2 (.ptr 2 0)) 5 (.own 57 z.2.length)) 6 (.own 47 (toI z.1).length)) 7 (.s (.int .i64 ((k : Int))))) 21 (.lst 6 (ps.map piA))) 22 (.s (.int .i64 ((ps.length : Int))))) 23 (.s (.int .i64 ((i : Int)))), H := upd (upd (upd ((fun _ => none)) 57 (some (.row 112 3 (z.2.map wyA)))) 47 (some (.row 2 1 ((toI z.1).map ci)))) 2 (some (.box 27 [.lst 1 (ns.map ci), .lst 6 (ps.map piA)])) }) (fun (i, z) => i ≤ ps.length ∧ Inv (ps.map pe) ns.length s.toNat z.1 ∧ (∃ t, z.1 = y.1 ++ t) ∧ wyI u ((ps.map pe).drop i) i z = wyI u (ps.map pe) 0 y ∧ z.2.length ≤ z.1.length) (fun (i, z) => ps.length - i) (0, y) ?_ ?_ ?_
      · exact ⟨Nat.zero_le _, hV, ⟨[], by simp⟩, rfl, hK2⟩
      · refine sub_weak ?_ ?_
        · exact weakH_box (boxEq (rfl)) rfl (weakH_row (rowEq (rfl)) (weakH_row (rowEq (rfl)) (weakH_none _)))
        · refine weakE_upd ?e23 ?r23 (weakE_upd ?e22 ?r22 (weakE_upd ?e21 ?r21 (weakE_upd ?e7 ?r7 (weakE_upd ?e6 ?r6 (weakE_upd ?e5 ?r5 (weakE_upd ?e2 ?r2 (weakE_junk _ _)))))))
          case e2 => first | rfl | exact fI (by omega) | (simp_all)
          case r2 => intro h hh; simp [refs] at hh; subst hh; rfl
          case e5 => first | rfl | exact fI (by omega) | (first | rfl | exact ownEq (by simp))
          case r5 => intro h hh; simp [refs] at hh; subst hh; rfl
          case e6 => first | rfl | exact fI (by omega) | (first | rfl | exact ownEq (by simp [toI_len]))
          case r6 => intro h hh; simp [refs] at hh; subst hh; rfl
          case e7 => first | rfl | exact fI (by omega) | (simp_all)
          case r7 => intro h hh; cases hh
          case e21 => first | rfl | exact fI (by omega) | (simp_all)
          case r21 => intro h hh; cases hh
          case e22 => first | rfl | exact fI (by omega) | (simp_all)
          case r22 => intro h hh; cases hh
          case e23 => first | rfl | exact fI (by omega) | (simp_all)
          case r23 => intro h hh; cases hh
      · rintro ⟨i, z⟩ ⟨hI, hW, hP, hB, hZ⟩
        refine good_seq fun K14 hK14 => ?_
        refine gr rfl ?_
        refine ei rfl rfl rfl ?_
        intro b15 hb15; cases b15
        · replace hb15 := dF hb15
          refine ev_nil (hK14 _ ?_); clear hK14
          refine good_seq fun K16 hK16 => ?_
          refine good_condF rfl ?_
          refine good_exit ?_
          repeat first|refine thenQ_exit ?_|refine blockQ_pass rfl ?_
          refine blockQ_exit (hK11 _ ?_); clear hK11
          refine gr rfl ?_
          refine em rfl (by conv=>lhs;whnf) ?_
          refine ei rfl rfl rfl ?_
          intro n17 hn17
          replace hn17 := in64 hn17 (by omega) (by omega)
          refine ea rfl (by conv=>lhs;whnf) ?_
          refine ev_nil ?_
          clear hK4 hK16
          refine ⟨(k + 1, z), ?_, ?_, ?_⟩
          · refine ⟨⟨?_, hZ⟩, hW, ?_⟩
            · obtain ⟨t, ht⟩ := hP
              have := congrArg List.length ht
              rw [List.length_append] at this
              show k + 1 ≤ z.1.length; omega
            · show wyO _ _ (k + 1) z = _
              rw [wyI_end (by omega)] at hB
              rw [← hF, wyO_s hu (by omega), hB]
          · first | omega | (dsimp only; omega)
          · refine sub_weak ?_ ?_
            · exact weakH_box (boxEq (rfl)) rfl (weakH_row (rowEq (rfl)) (weakH_row (rowEq (rfl)) (weakH_none _)))
            · refine weakE_upd ?e7 ?r7 (weakE_upd ?e6 ?r6 (weakE_upd ?e5 ?r5 (weakE_upd ?e2 ?r2 (weakE_junk _ _))))
              case e2 => first | rfl | exact fI (by omega) | (simp_all)
              case r2 => intro h hh; simp [refs] at hh; subst hh; rfl
              case e5 => first | rfl | exact fI (by omega) | (simp_all)
              case r5 => intro h hh; simp [refs] at hh; subst hh; rfl
              case e6 => first | rfl | exact fI (by omega) | (simp_all)
              case r6 => intro h hh; simp [refs] at hh; subst hh; rfl
              case e7 => first | rfl | exact fI (by omega) | (simp_all)
              case r7 => intro h hh; cases hh
        · replace hb15 := dT hb15
          obtain ⟨p, hpp⟩ := getL (xs := ps) (n := (i : Int)) (by omega) (by omega)
          replace hpp : ps[i]? = some p := hpp
          have hpo := (ok.2 i p hpp).1
          have hp1 := hpo.1.2.1
          have hp2 := hpo.1.2.2.1
          have hlv := len_le z.1 hW.nd hW.lt
          have hP0 := hP
          obtain ⟨t, ht⟩ := hP
          have hv : z.1[k]? = some u := by rw [ht, List.getElem?_append_left hkl]; exact hu
          have hbd := wyI_d (u := u) (y := z) hpp
          refine ev_nil (hK14 _ ?_); clear hK14
          refine good_seq fun K18 hK18 => ?_
          refine good_condT rfl ?_
          refine good_skip (hK18 _ ?_); clear hK18
          refine good_seq fun K19 hK19 => ?_
          refine good_block ?_
          refine good_seq fun K20 hK20 => ?_
          refine gr rfl ?_
          refine em rfl (by conv=>lhs;whnf) ?_
          refine ev_q rfl (q_idx tE25 rfl rfl (by exact Int.natCast_nonneg _) (by exact map_get hpp) rfl ?_)
          refine ev_q rfl (q_loadA tA73 rfl rfl rfl ?_)
          refine ev_k rfl (k_alloc zA73 rfl ?_)
          refine ea rfl (by conv=>lhs;whnf) ?_
          refine ev_k rfl (k_store sz73 rfl (by conv=>lhs;whnf) rfl rfl rfl (Nat.le_of_ble_eq_true rfl) rfl ?_)
          refine ev_nil (hK20 _ ?_); clear hK20
          refine good_seq fun K21 hK21 => ?_
          refine good_draw 11 hmix (by kernel_rfl) rfl ?_
          refine qo_q rfl (q_loadA tA73 rfl rfl rfl ?_)
          refine qm rfl (by conv=>lhs;whnf) ?_
          refine qm rfl (by conv=>lhs;whnf) ?_
          refine qo_q rfl (q_idxO tE24 rfl rfl rfl (by exact Int.natCast_nonneg _) (by have := congrArg List.length ht; rw [List.length_append] at this; first | omega | (rw [toI_len]; omega) | (simp [toI_len]; omega)) rfl ?_)
          refine qo_q rfl (q_loadE tA2 rfl rfl (by exact toI_get hv) rfl ?_)
          refine qo_q rfl (q_call rfl rfl (rfl) (D_impl_Pipe_other ..) rfl ?_)
          refine qm rfl (by conv=>lhs;whnf) ?_
          refine qo_q rfl (q_extractI rfl rfl ?_)
          intro n22 hn22
          refine qo_q rfl (q_extractB rfl rfl ?_)
          intro b23 hb23; cases b23
          · first | replace hb23 := dF hb23 | skip
            refine qa rfl (by conv=>lhs;whnf) ?_
            refine qa rfl (by conv=>lhs;whnf) ?_
            refine qo_nil ?_
            refine ev_nil (hK21 _ ?_); clear hK21
            refine good_seq fun K24 hK24 => ?_
            refine gr rfl ?_
            refine em rfl (by conv=>lhs;whnf) ?_
            refine em rfl (by conv=>lhs;whnf) ?_
            refine ev_skip rfl ?_
            refine ev_skip rfl ?_
            refine ev_skip rfl ?_
            refine ev_skip rfl ?_
            refine ev_q rfl (q_pickF rfl (by conv=>lhs;whnf) ?_)
            refine ev_nil (hK24 _ ?_); clear hK24
            refine good_condF rfl ?_
            refine good_skip (hK19 _ ?_); clear hK19
            refine gr rfl ?_
            refine ei rfl rfl rfl ?_
            intro n25 hn25
            replace hn25 := in64 hn25 (by omega) (by omega)
            refine em rfl (by conv=>lhs;whnf) ?_
            refine ev_nil ?_
            clear hK4 hK11
            refine ⟨(i + 1, z), ?_, ?_, ?_⟩
            · refine ⟨by first | omega | (dsimp only; omega), hW, hP0, ?_, hZ⟩
              show wyI u _ _ z = _
              first | (have hE := wyE_F (i := i) (y := z) (oth_n (p := p) (u := u) (by omega) (by omega) (by assumption)); rw [hE] at hbd; exact hbd.symm.trans hB) | (have hox := oth_y (p := p) (u := u) (by omega) (by omega) (by assumption); rw [← hn22] at hox; have hE := wyE_M (i := i) (y := z) hox.1 ((toI_mem hox.2).1 (by assumption)); rw [hE] at hbd; exact hbd.symm.trans hB) | (exfalso; contradiction) | (exfalso; simp_all; done)
            · first | omega | (dsimp only; omega)
            · refine sub_weak ?_ ?_
              · exact weakH_box (boxEq (rfl)) rfl (weakH_row (rowEq (by first | rfl | exact toI_app hox.2)) (weakH_row (rowEq (by first | rfl | exact wyA_app hox.2)) (weakH_none _)))
              · refine weakE_upd ?e23 ?r23 (weakE_upd ?e22 ?r22 (weakE_upd ?e21 ?r21 (weakE_upd ?e7 ?r7 (weakE_upd ?e6 ?r6 (weakE_upd ?e5 ?r5 (weakE_upd ?e2 ?r2 (weakE_junk _ _)))))))
                case e2 => first | rfl | exact fI (by omega) | (simp_all)
                case r2 => intro h hh; simp [refs] at hh; subst hh; rfl
                case e5 => first | rfl | exact fI (by omega) | (first | rfl | exact ownEq (by simp))
                case r5 => intro h hh; simp [refs] at hh; subst hh; rfl
                case e6 => first | rfl | exact fI (by omega) | (first | rfl | exact ownEq (by simp [toI_len]))
                case r6 => intro h hh; simp [refs] at hh; subst hh; rfl
                case e7 => first | rfl | exact fI (by omega) | (simp_all)
                case r7 => intro h hh; cases hh
                case e21 => first | rfl | exact fI (by omega) | (simp_all)
                case r21 => intro h hh; cases hh
                case e22 => first | rfl | exact fI (by omega) | (simp_all)
                case r22 => intro h hh; cases hh
                case e23 => first | rfl | exact fI (by omega) | (simp_all)
                case r23 => intro h hh; cases hh
          · first | replace hb23 := dT hb23 | skip
            refine qa rfl (by conv=>lhs;whnf) ?_
            refine qa rfl (by conv=>lhs;whnf) ?_
            refine qo_nil ?_
            refine ev_nil (hK21 _ ?_); clear hK21
            refine good_seq fun K26 hK26 => ?_
            refine gr rfl ?_
            refine em rfl (by conv=>lhs;whnf) ?_
            refine em rfl (by conv=>lhs;whnf) ?_
            refine em rfl (by conv=>lhs;whnf) ?_
            refine em rfl (by conv=>lhs;whnf) ?_
            refine ev_q rfl (q_callB rfl rfl (by change ([.lst 1 (List.take (toI z.1).length ((toI z.1).map ci)), .s (.int .i64 (n22))] : List AV) = _; rw [takeMap]) (D_slices_Contains_int64_int64 _ (toI z.1) (by rw [toI_len]; omega)) ?_)
            intro b27 hb27; cases b27
            · first | replace hb27 := dF hb27 | skip
              refine ev_q rfl (q_not rfl rfl ?_)
              refine ev_q rfl (q_pickT rfl (by conv=>lhs;whnf) ?_)
              refine ev_nil (hK26 _ ?_); clear hK26
              refine good_condT rfl ?_
              refine good_seq fun K28 hK28 => ?_
              refine gr rfl ?_
              refine em rfl (by conv=>lhs;whnf) ?_
              refine em rfl (by conv=>lhs;whnf) ?_
              have hox := oth_y (p := p) (u := u) (by omega) (by omega) (by assumption)
              rw [← hn22] at hox
              have hnm : ¬ n22.toNat ∈ z.1 := fun h => absurd ((toI_mem hox.2).2 h) (by assumption)
              have hE := wyE_T (i := i) hox.1 hnm
              have hiN := bfE_inv (hlt (pe p) (List.mem_map_of_mem (List.mem_of_getElem? hpp))) (List.mem_map_of_mem (List.mem_of_getElem? hpp)) (List.mem_of_getElem? hv) hW
              rw [bfE_T hox.1 hnm] at hiN
              rw [hE] at hbd
              have hpN : ∃ t, z.1 ++ [n22.toNat] = y.1 ++ t := ⟨t ++ [n22.toNat], by rw [ht, List.append_assoc]⟩
              have hbN := hbd.symm.trans hB
              have hla := congrArg List.length ht
              rw [List.length_append] at hla
              refine ev_k rfl (k_lit tE24 zA2 rfl rfl (by decide) (by decide) rfl rfl rfl ?_)
              refine ev_k rfl (k_app tApp24 rfl rfl (by first | (simp; done) | (simp [toI_len]; done)) rfl (.inr rfl) (by first | (simp [maxLen]; omega) | (simp [maxLen, toI_len]; omega)) (by first | (simp; omega) | (simp [toI_len]; omega)) ?_)
              refine ea rfl (by conv=>lhs;whnf) ?_
              refine ev_nil (hK28 _ ?_); clear hK28
              refine gr rfl ?_
              refine em rfl (by conv=>lhs;whnf) ?_
              refine em rfl (by conv=>lhs;whnf) ?_
              refine em rfl (by conv=>lhs;whnf) ?_
              refine em rfl (by conv=>lhs;whnf) ?_
              refine ev_q rfl (q_idxO tE24 rfl rfl rfl (by exact Int.natCast_nonneg _) (by have := congrArg List.length ht; rw [List.length_append] at this; first | omega | (rw [toI_len]; omega) | (simp [toI_len]; omega)) rfl ?_)
              refine ev_q rfl (q_loadE tA2 rfl rfl (by exact wk_get hv) rfl ?_)
              refine em rfl (by conv=>lhs;whnf) ?_
              refine ev_k rfl (k_build zA112 pl112 (rfl) ?_)
              refine ev_k rfl (k_lit tE110 zA112 rfl rfl (by decide) (by decide) rfl rfl rfl ?_)
              refine ev_k rfl (k_app tApp110 rfl rfl (by first | (simp; done) | (simp [toI_len]; done)) rfl (.inr rfl) (by first | (simp [maxLen]; omega) | (simp [maxLen, toI_len]; omega)) (by first | (simp; omega) | (simp [toI_len]; omega)) ?_)
              refine ea rfl (by conv=>lhs;whnf) ?_
              refine ev_nil (hK19 _ ?_); clear hK19
              refine gr rfl ?_
              refine ei rfl rfl rfl ?_
              intro n29 hn29
              replace hn29 := in64 hn29 (by omega) (by omega)
              refine em rfl (by conv=>lhs;whnf) ?_
              refine ev_nil ?_
              clear hK4 hK11
              refine ⟨(i + 1, (z.1 ++ [n22.toNat], z.2 ++ [(n22.toNat, u, i)])), ?_, ?_, ?_⟩
              · exact ⟨by first | omega | (dsimp only; omega), hiN, hpN, hbN, by simp; omega⟩
              · first | omega | (dsimp only; omega)
              · refine sub_weak ?_ ?_
                · exact weakH_box (boxEq (rfl)) rfl (weakH_row (rowEq (by first | rfl | exact toI_app hox.2)) (weakH_row (rowEq (by first | rfl | exact wyA_app hox.2)) (weakH_none _)))
                · refine weakE_upd ?e23 ?r23 (weakE_upd ?e22 ?r22 (weakE_upd ?e21 ?r21 (weakE_upd ?e7 ?r7 (weakE_upd ?e6 ?r6 (weakE_upd ?e5 ?r5 (weakE_upd ?e2 ?r2 (weakE_junk _ _)))))))
                  case e2 => first | rfl | exact fI (by omega) | (simp_all)
                  case r2 => intro h hh; simp [refs] at hh; subst hh; rfl
                  case e5 => first | rfl | exact fI (by omega) | (first | rfl | exact ownEq (by simp))
                  case r5 => intro h hh; simp [refs] at hh; subst hh; rfl
                  case e6 => first | rfl | exact fI (by omega) | (first | rfl | exact ownEq (by simp [toI_len]))
                  case r6 => intro h hh; simp [refs] at hh; subst hh; rfl
                  case e7 => first | rfl | exact fI (by omega) | (simp_all)
                  case r7 => intro h hh; cases hh
                  case e21 => first | rfl | exact fI (by omega) | (simp_all)
                  case r21 => intro h hh; cases hh
                  case e22 => first | rfl | exact fI (by omega) | (simp_all)
                  case r22 => intro h hh; cases hh
                  case e23 => first | rfl | exact fI (by omega) | (simp_all)
                  case r23 => intro h hh; cases hh
            · first | replace hb27 := dT hb27 | skip
              refine ev_q rfl (q_not rfl rfl ?_)
              refine ev_q rfl (q_pickT rfl (by conv=>lhs;whnf) ?_)
              refine ev_nil (hK26 _ ?_); clear hK26
              refine good_condF rfl ?_
              refine good_skip (hK19 _ ?_); clear hK19
              refine gr rfl ?_
              refine ei rfl rfl rfl ?_
              intro n30 hn30
              replace hn30 := in64 hn30 (by omega) (by omega)
              refine em rfl (by conv=>lhs;whnf) ?_
              refine ev_nil ?_
              clear hK4 hK11
              refine ⟨(i + 1, z), ?_, ?_, ?_⟩
              · refine ⟨by first | omega | (dsimp only; omega), hW, hP0, ?_, hZ⟩
                show wyI u _ _ z = _
                first | (have hE := wyE_F (i := i) (y := z) (oth_n (p := p) (u := u) (by omega) (by omega) (by assumption)); rw [hE] at hbd; exact hbd.symm.trans hB) | (have hox := oth_y (p := p) (u := u) (by omega) (by omega) (by assumption); rw [← hn22] at hox; have hE := wyE_M (i := i) (y := z) hox.1 ((toI_mem hox.2).1 (by assumption)); rw [hE] at hbd; exact hbd.symm.trans hB) | (exfalso; contradiction) | (exfalso; simp_all; done)
              · first | omega | (dsimp only; omega)
              · refine sub_weak ?_ ?_
                · exact weakH_box (boxEq (rfl)) rfl (weakH_row (rowEq (by first | rfl | exact toI_app hox.2)) (weakH_row (rowEq (by first | rfl | exact wyA_app hox.2)) (weakH_none _)))
                · refine weakE_upd ?e23 ?r23 (weakE_upd ?e22 ?r22 (weakE_upd ?e21 ?r21 (weakE_upd ?e7 ?r7 (weakE_upd ?e6 ?r6 (weakE_upd ?e5 ?r5 (weakE_upd ?e2 ?r2 (weakE_junk _ _)))))))
                  case e2 => first | rfl | exact fI (by omega) | (simp_all)
                  case r2 => intro h hh; simp [refs] at hh; subst hh; rfl
                  case e5 => first | rfl | exact fI (by omega) | (first | rfl | exact ownEq (by simp))
                  case r5 => intro h hh; simp [refs] at hh; subst hh; rfl
                  case e6 => first | rfl | exact fI (by omega) | (first | rfl | exact ownEq (by simp [toI_len]))
                  case r6 => intro h hh; simp [refs] at hh; subst hh; rfl
                  case e7 => first | rfl | exact fI (by omega) | (simp_all)
                  case r7 => intro h hh; cases hh
                  case e21 => first | rfl | exact fI (by omega) | (simp_all)
                  case r21 => intro h hh; cases hh
                  case e22 => first | rfl | exact fI (by omega) | (simp_all)
                  case r22 => intro h hh; cases hh
                  case e23 => first | rfl | exact fI (by omega) | (simp_all)
                  case r23 => intro h hh; cases hh

-- (impl.way).along
theorem D_impl_way_along (ns : List Int) (ps : List Pi) (fl : List Int) (w : Nat × Nat × Nat) (p : Pi) (l : Int) (h2 : 0 ≤ p.tt) (hp : ps[w.2.2]? = some p) (hl : fl[w.2.2]? = some l) (hb : -100000 ≤ l ∧ l ≤ 100000) : Den Try.prog 90 [(wyA w), .agg [.lst 1 (ns.map ci), .lst 6 (ps.map piA)], .lst 1 (fl.map ci)] (.s (.int .i64 (flS (ps.map pe) fl w))) := by
  have hlp := (List.getElem?_eq_some_iff.1 hp).1
  have hll := (List.getElem?_eq_some_iff.1 hl).1
  have hfs := flS_y hp hl
  refine den_of_good Try.func90 (by decide) rfl (Nat.le_of_ble_eq_true rfl) (Nat.le_of_ble_eq_true rfl) ?_
  refine good_seq fun K1 hK1 => ?_
  refine gr rfl ?_
  refine ev_k rfl (k_box (by conv=>lhs;whnf) rfl rfl rfl ?_)
  refine ev_k rfl (k_box (by conv=>lhs;whnf) rfl rfl rfl ?_)
  refine ea rfl (by conv=>lhs;whnf) ?_
  refine ev_nil (hK1 _ ?_); clear hK1
  refine good_seq fun K2 hK2 => ?_
  refine good_seq fun K3 hK3 => ?_
  refine good_draw 10 hmix (by kernel_rfl) rfl ?_
  refine qo_q rfl (q_fieldAddrP fO27_1 rfl rfl ?_)
  refine qo_q rfl (q_load tA25 rfl ?_)
  refine qo_q rfl (q_fieldAddrP fO112_2 rfl rfl ?_)
  refine qo_q rfl (q_load tA3 rfl ?_)
  refine qo_q rfl (q_idx tE25 rfl rfl (by exact Int.natCast_nonneg _) (by exact map_get hp) rfl ?_)
  refine qo_q rfl (q_fieldAddr fO73_2 rfl rfl ?_)
  refine qo_q rfl (q_load tA2 rfl ?_)
  refine qo_q rfl (q_fieldAddrP fO112_0 rfl rfl ?_)
  refine qo_q rfl (q_load tA2 rfl ?_)
  refine qo_q rfl (q_int rfl rfl ?_)
  intro b4 hb4; cases b4
  · replace hb4 := eqF hb4
    refine qo_nil ?_
    refine ev_nil (hK3 _ ?_); clear hK3
    refine good_condF rfl ?_
    refine good_skip (hK2 _ ?_); clear hK2
    refine good_seq fun K5 hK5 => ?_
    refine gr rfl ?_
    refine em rfl (by conv=>lhs;whnf) ?_
    refine ev_q rfl (q_fieldAddrP fO112_2 rfl rfl ?_)
    refine ev_q rfl (q_load tA3 rfl ?_)
    refine ev_q rfl (q_idx tE24 rfl rfl (by exact Int.natCast_nonneg _) (by exact map_get hl) rfl ?_)
    refine ev_q rfl (q_load tA2 rfl ?_)
    refine ev_q rfl (q_neg rfl ?_)
    intro n6 hn6
    replace hn6 := neg64 hn6 (by omega) (by omega)
    refine ea rfl (by conv=>lhs;whnf) ?_
    refine ev_nil (hK5 _ ?_); clear hK5
    refine good_ret ?_
    repeat first|refine thenQ_ret ?_|refine blockQ_ret ?_
    refine ret_tmp (st := _) rfl (by conv=>lhs;whnf) rfl ?_
    first | exact fI (by rw [hfs, if_pos (by omega)]) | exact fI (by rw [hfs, if_neg (by omega)]; omega)
  · replace hb4 := eqT hb4
    refine qo_nil ?_
    refine ev_nil (hK3 _ ?_); clear hK3
    refine good_condT rfl ?_
    refine good_seq fun K7 hK7 => ?_
    refine gr rfl ?_
    refine em rfl (by conv=>lhs;whnf) ?_
    refine ev_q rfl (q_fieldAddrP fO112_2 rfl rfl ?_)
    refine ev_q rfl (q_load tA3 rfl ?_)
    refine ev_q rfl (q_idx tE24 rfl rfl (by exact Int.natCast_nonneg _) (by exact map_get hl) rfl ?_)
    refine ev_q rfl (q_load tA2 rfl ?_)
    refine ea rfl (by conv=>lhs;whnf) ?_
    refine ev_nil (hK7 _ ?_); clear hK7
    refine good_ret ?_
    repeat first|refine thenQ_ret ?_|refine blockQ_ret ?_
    refine ret_tmp (st := _) rfl (by conv=>lhs;whnf) rfl ?_
    clear hK2
    first | exact fI (by rw [hfs, if_pos (by omega)]) | exact fI (by rw [hfs, if_neg (by omega)]; omega)

-- (impl.Pipe).drop
theorem D_impl_Pipe_drop (s : ByteArray) (fm tt le di lo : Int) (q : Int) (h2 : 1 ≤ le ∧ le ≤ 10000) (h : 20 ≤ di ∧ di ≤ 1000) (hq : -100000 ≤ q ∧ q ≤ 100000) : Den Try.prog 89 [.agg [.s (.string s), .s (.int .i64 fm), .s (.int .i64 tt), .s (.int .i64 le), .s (.int .i64 di), .s (.int .i64 lo)], .s (.int .i64 q)] (.s (.int .i64 (drp le di q))) := by
  have hd5 := d5_bd h
  have hdn := drN_bd h2 hq
  have hdd : d5 di = di * di * di * di * di := rfl
  have hdN : drN le q = le * 16200 * q * (q.natAbs : Int) := rfl
  refine den_of_good Try.func89 (by decide) rfl (Nat.le_of_ble_eq_true rfl) (Nat.le_of_ble_eq_true rfl) ?_
  refine good_seq fun K1 hK1 => ?_
  refine gr rfl ?_
  refine ev_k rfl (k_box (by conv=>lhs;whnf) rfl rfl rfl ?_)
  refine ea rfl (by conv=>lhs;whnf) ?_
  refine ev_nil (hK1 _ ?_); clear hK1
  refine good_seq fun K2 hK2 => ?_
  refine gr rfl ?_
  refine ev_q rfl (q_fieldAddrP fO73_4 rfl rfl ?_)
  refine ev_q rfl (q_load tA2 rfl ?_)
  refine ea rfl (by conv=>lhs;whnf) ?_
  refine ev_nil (hK2 _ ?_); clear hK2
  refine good_seq fun K3 hK3 => ?_
  refine good_draw 19 hmix (by kernel_rfl) rfl ?_
  refine qo_q rfl (q_fieldAddrP fO73_3 rfl rfl ?_)
  refine qo_q rfl (q_load tA2 rfl ?_)
  refine qo_q rfl (q_int rfl rfl ?_)
  intro n4 hn4
  replace hn4 := in64 hn4 (by omega) (by omega)
  refine qm rfl (by conv=>lhs;whnf) ?_
  refine qo_q rfl (q_int rfl rfl ?_)
  intro n5 hn5
  rw [hn4] at hn5
  replace hn5 := in64 hn5 (by omega) (by omega)
  refine qm rfl (by conv=>lhs;whnf) ?_
  refine qo_q rfl (q_callI rfl rfl (rfl) (D_impl_abs _ (by omega)) ?_)
  intro n6 hn6
  refine qo_q rfl (q_int rfl rfl ?_)
  intro n7 hn7
  rw [hn5, hn6] at hn7
  replace hn7 := in64 hn7 (by omega) (by omega)
  rw [← hdN] at hn7
  refine qm rfl (by conv=>lhs;whnf) ?_
  refine qm rfl (by conv=>lhs;whnf) ?_
  refine qo_q rfl (q_int rfl rfl ?_)
  intro n8 hn8
  replace hn8 := in64 hn8 (by omega) (by omega)
  refine qm rfl (by conv=>lhs;whnf) ?_
  refine qo_q rfl (q_int rfl rfl ?_)
  intro n9 hn9
  rw [hn8] at hn9
  replace hn9 := in64 hn9 (by omega) (by omega)
  refine qm rfl (by conv=>lhs;whnf) ?_
  refine qo_q rfl (q_int rfl rfl ?_)
  intro n10 hn10
  rw [hn9] at hn10
  replace hn10 := in64 hn10 (by omega) (by omega)
  refine qm rfl (by conv=>lhs;whnf) ?_
  refine qo_q rfl (q_int rfl rfl ?_)
  intro n11 hn11
  rw [hn10] at hn11
  replace hn11 := in64 hn11 (by omega) (by omega)
  rw [← hdd] at hn11
  refine qo_q rfl (q_callI rfl rfl (rfl) (D_impl_divRound _ _ (by omega) (by omega)) ?_)
  intro n12 hn12
  refine qa rfl (by conv=>lhs;whnf) ?_
  refine qo_nil ?_
  refine ev_nil (hK3 _ ?_); clear hK3
  refine good_ret ?_
  repeat first|refine thenQ_ret ?_|refine blockQ_ret ?_
  refine ret_tmp (st := _) rfl (by conv=>lhs;whnf) rfl ?_
  exact fI (by rw [hn12, hn7, hn11]; rfl)

-- (impl.Network).dropsOk
theorem D_impl_Network_dropsOk (ns : List Int) (ps : List Pi) (fl : List Int) (hn : ns.length ≤ 17592186044416) (hp : ps.length ≤ 2513169434843) (hz : idSz ps) (hf : fl.length ≤ 17592186044416) (ok : netOk ns ps) (hfl : flP ps fl) : Den Try.prog 43 [.agg [.lst 1 (ns.map ci), .lst 6 (ps.map piA)], .lst 1 (fl.map ci)] (.s (.bool (decide (dropP ps fl)))) := by
  have h20 := ok.1.2.2
  refine den_of_good Try.func43 (by decide) rfl (Nat.le_of_ble_eq_true rfl) (Nat.le_of_ble_eq_true rfl) ?_
  refine good_seq fun K1 hK1 => ?_
  refine gr rfl ?_
  refine ev_k rfl (k_box (by conv=>lhs;whnf) rfl rfl rfl ?_)
  refine ea rfl (by conv=>lhs;whnf) ?_
  refine ev_nil (hK1 _ ?_); clear hK1
  refine good_seq fun K2 hK2 => ?_
  refine good_seq fun K3 hK3 => ?_
  refine gr rfl ?_
  refine ev_q rfl (q_fieldAddrP fO27_1 rfl rfl ?_)
  refine ev_q rfl (q_load tA25 rfl ?_)
  refine ev_q rfl (q_len tEs25 rfl ?_)
  intro n4 hn4
  try simp only [List.length_map] at hn4
  refine em rfl (by conv=>lhs;whnf) ?_
  refine ev_nil (hK3 _ ?_); clear hK3
  refine good_block ?_
  refine good_loop (α := Nat) (fun i => { env := upd (upd (upd (upd (upd ((fun _ => .junk)) 1 (.lst 1 (fl.map ci))) 2 (.ptr 2 0)) 8 (.lst 6 (ps.map piA))) 9 (.s (.int .i64 ((ps.length : Int))))) 10 (.s (.int .i64 i)), H := upd ((fun _ => none)) 2 (some (.box 27 [.lst 1 (ns.map ci), .lst 6 (ps.map piA)])) }) (fun i => i ≤ ps.length ∧ ∀ (j : Nat) (p : Pi) (l : Int), j < i → ps[j]? = some p → fl[j]? = some l → (drp p.le p.di l).natAbs ≤ 100000000) (fun i => ps.length - i) 0 ?_ ?_ ?_
  · exact ⟨by omega, fun j p l hj => by omega⟩
  · refine sub_weak ?_ ?_
    · exact weakH_box (boxEq (rfl)) rfl (weakH_none _)
    · refine weakE_upd ?e10 ?r10 (weakE_upd ?e9 ?r9 (weakE_upd ?e8 ?r8 (weakE_upd ?e2 ?r2 (weakE_upd ?e1 ?r1 (weakE_junk _ _)))))
      case e1 => first | rfl | exact fI (by omega) | (simp_all)
      case r1 => intro h hh; cases hh
      case e2 => first | rfl | exact fI (by omega) | (simp_all)
      case r2 => intro h hh; simp [refs] at hh; subst hh; rfl
      case e8 => first | rfl | exact fI (by omega) | (simp_all)
      case r8 => intro h hh; cases hh
      case e9 => first | rfl | exact fI (by omega) | (simp_all)
      case r9 => intro h hh; cases hh
      case e10 => first | rfl | exact fI (by omega) | (simp_all)
      case r10 => intro h hh; cases hh
  · rintro i ⟨hI, hJ⟩
    refine good_seq fun K5 hK5 => ?_
    refine gr rfl ?_
    refine ei rfl rfl rfl ?_
    intro b6 hb6; cases b6
    · replace hb6 := dF hb6
      refine ev_nil (hK5 _ ?_); clear hK5
      refine good_seq fun K7 hK7 => ?_
      refine good_condF rfl ?_
      refine good_exit ?_
      repeat first|refine thenQ_exit ?_|refine blockQ_pass rfl ?_
      refine blockQ_exit (hK2 _ ?_); clear hK2
      refine good_seq fun K8 hK8 => ?_
      refine gr rfl ?_
      refine ea rfl (by conv=>lhs;whnf) ?_
      refine ev_nil (hK8 _ ?_); clear hK8
      refine good_ret ?_
      repeat first|refine thenQ_ret ?_|refine blockQ_ret ?_
      refine ret_tmp (st := _) rfl (by conv=>lhs;whnf) rfl ?_
      clear hK7
      first | exact fT (fun j p l h1 h2 => hJ j p l (by have := (List.getElem?_eq_some_iff.1 h1).1; omega) h1 h2) | exact fF (fun k => by have := k i p l hpp hl; omega)
    · replace hb6 := dT hb6
      obtain ⟨p, hpp⟩ := getL (xs := ps) (n := (i : Int)) (by omega) (by omega)
      replace hpp : ps[i]? = some p := hpp
      have hpl := (List.getElem?_eq_some_iff.1 hpp).1
      have hpo := (ok.2 _ p hpp).1
      have hp4 := hpo.1.2.2.2.2.1
      have hp5 := hpo.1.2.2.2.2.2.1
      obtain ⟨l, hl⟩ : ∃ l, fl[i]? = some l := ⟨_, List.getElem?_eq_getElem (by have := hfl.1; omega)⟩
      have hlb := hfl.2 _ _ hl
      have hdb := drp_bd hp4 hp5 hlb
      refine ev_nil (hK5 _ ?_); clear hK5
      refine good_seq fun K9 hK9 => ?_
      refine good_condT rfl ?_
      refine good_skip (hK9 _ ?_); clear hK9
      refine good_seq fun K10 hK10 => ?_
      refine good_block ?_
      refine good_seq fun K11 hK11 => ?_
      refine gr rfl ?_
      refine em rfl (by conv=>lhs;whnf) ?_
      refine ev_q rfl (q_idx tE25 rfl rfl (by exact Int.natCast_nonneg _) (by exact map_get hpp) rfl ?_)
      refine ev_q rfl (q_loadA tA73 rfl rfl rfl ?_)
      refine ev_k rfl (k_alloc zA73 rfl ?_)
      refine ea rfl (by conv=>lhs;whnf) ?_
      refine ev_k rfl (k_store sz73 rfl (by conv=>lhs;whnf) rfl rfl rfl (Nat.le_of_ble_eq_true rfl) rfl ?_)
      refine ev_nil (hK11 _ ?_); clear hK11
      refine good_seq fun K12 hK12 => ?_
      refine good_draw 8 hmix (by kernel_rfl) rfl ?_
      refine qo_q rfl (q_loadA tA73 rfl rfl rfl ?_)
      refine qm rfl (by conv=>lhs;whnf) ?_
      refine qm rfl (by conv=>lhs;whnf) ?_
      refine qo_q rfl (q_idx tE24 rfl rfl (by exact Int.natCast_nonneg _) (by exact map_get hl) rfl ?_)
      refine qo_q rfl (q_load tA2 rfl ?_)
      refine qo_q rfl (q_callI rfl rfl (rfl) (D_impl_Pipe_drop _ _ _ _ _ _ _ hp4 hp5 hlb) ?_)
      intro n13 hn13
      refine qo_q rfl (q_callI rfl rfl (rfl) (D_impl_abs _ (by omega)) ?_)
      intro n14 hn14
      refine qo_q rfl (q_int rfl rfl ?_)
      intro b15 hb15; cases b15
      · replace hb15 := dF hb15
        refine qo_nil ?_
        refine ev_nil (hK12 _ ?_); clear hK12
        refine good_condF rfl ?_
        refine good_skip (hK10 _ ?_); clear hK10
        refine gr rfl ?_
        refine ei rfl rfl rfl ?_
        intro n16 hn16
        replace hn16 := in64 hn16 (by omega) (by omega)
        refine em rfl (by conv=>lhs;whnf) ?_
        refine ev_nil ?_
        clear hK2
        refine ⟨i + 1, ?_, ?_, ?_⟩
        · refine ⟨by omega, fun j p2 l2 hj h1 h2 => ?_⟩
          by_cases c : j = i
          · subst c; rw [hpp] at h1; cases h1; rw [hl] at h2; cases h2; omega
          · exact hJ j p2 l2 (by omega) h1 h2
        · first | omega | (simp only []; omega) | (dsimp only; omega)
        · refine sub_weak ?_ ?_
          · exact weakH_box (boxEq (rfl)) rfl (weakH_none _)
          · refine weakE_upd ?e10 ?r10 (weakE_upd ?e9 ?r9 (weakE_upd ?e8 ?r8 (weakE_upd ?e2 ?r2 (weakE_upd ?e1 ?r1 (weakE_junk _ _)))))
            case e1 => first | rfl | exact fI (by omega) | (simp_all)
            case r1 => intro h hh; cases hh
            case e2 => first | rfl | exact fI (by omega) | (simp_all)
            case r2 => intro h hh; simp [refs] at hh; subst hh; rfl
            case e8 => first | rfl | exact fI (by omega) | (simp_all)
            case r8 => intro h hh; cases hh
            case e9 => first | rfl | exact fI (by omega) | (simp_all)
            case r9 => intro h hh; cases hh
            case e10 => first | rfl | exact fI (by omega) | (simp_all)
            case r10 => intro h hh; cases hh
      · replace hb15 := dT hb15
        refine qo_nil ?_
        refine ev_nil (hK12 _ ?_); clear hK12
        refine good_condT rfl ?_
        refine good_seq fun K17 hK17 => ?_
        refine gr rfl ?_
        refine ea rfl (by conv=>lhs;whnf) ?_
        refine ev_nil (hK17 _ ?_); clear hK17
        refine good_ret ?_
        repeat first|refine thenQ_ret ?_|refine blockQ_ret ?_
        refine ret_tmp (st := _) rfl (by conv=>lhs;whnf) rfl ?_
        clear hK2 hK10
        first | exact fT (fun j p l h1 h2 => hJ j p l (by have := (List.getElem?_eq_some_iff.1 h1).1; omega) h1 h2) | exact fF (fun k => by have := k i p l hpp hl; omega)

-- (impl.Network).pressures
theorem D_impl_Network_pressures (ns : List Int) (ps : List Pi) (s : Int) (fl : List Int) (pr : Int) (hn : ns.length ≤ 17592186044416) (hp : ps.length ≤ 2513169434843) (hz : idSz ps) (hf : fl.length ≤ 17592186044416) (ok : netOk ns ps) (hs : 0 ≤ s ∧ s < ns.length) (hfl : flP ps fl) (hpr : 0 ≤ pr ∧ pr ≤ 100000000) : DenX Try.prog 44 [] [.agg [.lst 1 (ns.map ci), .lst 6 (ps.map piA)], .s (.int .i64 s), .lst 1 (fl.map ci), .s (.int .i64 pr)] [(900003, .row 2 1 ((wyR (prF ns ps fl) (ps.map pe) ns.length s.toNat pr (waysF (ps.map pe) ns.length s.toNat).2.length).map ci))] (.own 900003 ns.length) := by
  have h16 := ok.1.1
  have h20 := ok.1.2.2
  have hwl := ways_le (s := s.toNat) (esF_lt ok) (by omega)
  refine denX_of_good Try.func44 (by decide) rfl (Nat.le_of_ble_eq_true rfl) (Nat.le_of_ble_eq_true rfl) rfl ?_
  refine good_seq fun K1 hK1 => ?_
  refine gr rfl ?_
  refine ev_k rfl (k_box (by conv=>lhs;whnf) rfl rfl rfl ?_)
  refine ea rfl (by conv=>lhs;whnf) ?_
  refine ev_nil (hK1 _ ?_); clear hK1
  refine good_seq fun K2 hK2 => ?_
  refine gr rfl ?_
  refine ev_q rfl (q_fieldAddrP fO27_0 rfl rfl ?_)
  refine ev_q rfl (q_load tA24 rfl ?_)
  refine ev_q rfl (q_len tEs24 rfl ?_)
  intro n3 hn3
  try simp only [List.length_map] at hn3
  refine ev_k rfl (k_make tE24 rfl rfl zA2 tBy2 rfl (by omega) (by omega) (by omega) rfl (by show _ = ns.length; omega) ?_)
  refine ea rfl (by conv=>lhs;whnf) ?_
  refine ev_nil (hK2 _ ?_); clear hK2
  refine good_seq fun K4 hK4 => ?_
  refine gr rfl ?_
  refine em rfl (by conv=>lhs;whnf) ?_
  refine em rfl (by conv=>lhs;whnf) ?_
  refine em rfl (by conv=>lhs;whnf) ?_
  refine ev_q rfl (q_idxO tE24 rfl rfl rfl (by omega) (by first | omega | (simp; omega)) rfl ?_)
  refine ev_k rfl (k_storeE sz2 rfl (by conv=>lhs;whnf) rfl rfl rfl (Nat.le_of_ble_eq_true rfl) rfl (by exact repG (by omega)) (Nat.le_of_ble_eq_true rfl) rfl ?_)
  refine ev_nil (hK4 _ ?_); clear hK4
  refine good_seq fun K5 hK5 => ?_
  refine good_seq fun K6 hK6 => ?_
  refine gr rfl ?_
  refine ev_q rfl (q_loadA tA27 rfl rfl rfl ?_)
  refine em rfl (by conv=>lhs;whnf) ?_
  refine ev_k rfl (k_callX [(900001, 900001)] (D_impl_Network_ways ns ps s hn hp hz ok hs) rfl (rfl) (rfl) trivial ⟨⟨rfl, show (900001 : Nat) < 1000000 by decide⟩, trivial⟩ rfl rfl rfl ?_)
  refine ev_q rfl (q_len tEs110 rfl ?_)
  intro n7 hn7
  try simp only [List.length_map] at hn7
  refine em rfl (by conv=>lhs;whnf) ?_
  refine ev_nil (hK6 _ ?_); clear hK6
  refine good_block ?_
  refine good_loop (α := Nat) (fun m => { env := upd (upd (upd (upd (upd (upd ((fun _ => .junk)) 2 (.lst 1 (fl.map ci))) 4 (.ptr 4 0)) 9 (.own 16 ns.length)) 23 (.own 900001 (waysF (ps.map pe) ns.length s.toNat).2.length)) 24 (.s (.int .i64 (((waysF (ps.map pe) ns.length s.toNat).2.length : Int))))) 25 (.s (.int .i64 ((m : Int)))), H := upd (upd (upd ((fun _ => none)) 16 (some (.row 2 1 ((wyR (prF ns ps fl) (ps.map pe) ns.length s.toNat pr m).map ci)))) 900001 (some (.row 112 3 ((waysF (ps.map pe) ns.length s.toNat).2.map wyA)))) 4 (some (.box 27 [.lst 1 (ns.map ci), .lst 6 (ps.map piA)])) }) (fun m => m ≤ (waysF (ps.map pe) ns.length s.toNat).2.length) (fun m => (waysF (ps.map pe) ns.length s.toNat).2.length - m) 0 ?_ ?_ ?_
  · exact Nat.zero_le _
  · refine sub_weak ?_ ?_
    · exact weakH_box (boxEq (rfl)) rfl (weakH_row (rowEq (rfl)) (weakH_row (rowEq (by first | exact wyR_0)) (weakH_none _)))
    · refine weakE_upd ?e25 ?r25 (weakE_upd ?e24 ?r24 (weakE_upd ?e23 ?r23 (weakE_upd ?e9 ?r9 (weakE_upd ?e4 ?r4 (weakE_upd ?e2 ?r2 (weakE_junk _ _))))))
      case e2 => first | rfl | exact fI (by omega) | (simp_all)
      case r2 => intro h hh; cases hh
      case e4 => first | rfl | exact fI (by omega) | (simp_all)
      case r4 => intro h hh; simp [refs] at hh; subst hh; rfl
      case e9 => first | rfl | exact fI (by omega) | (simp_all)
      case r9 => intro h hh; simp [refs] at hh; subst hh; rfl
      case e23 => first | rfl | exact fI (by omega) | (simp_all)
      case r23 => intro h hh; simp [refs] at hh; subst hh; rfl
      case e24 => first | rfl | exact fI (by omega) | (simp_all)
      case r24 => intro h hh; cases hh
      case e25 => first | rfl | exact fI (by omega) | (simp_all)
      case r25 => intro h hh; cases hh
  · rintro m hI
    refine good_seq fun K8 hK8 => ?_
    refine gr rfl ?_
    refine ei rfl rfl rfl ?_
    intro b9 hb9; cases b9
    · replace hb9 := dF hb9
      refine ev_nil (hK8 _ ?_); clear hK8
      refine good_seq fun K10 hK10 => ?_
      refine good_condF rfl ?_
      refine good_exit ?_
      repeat first|refine thenQ_exit ?_|refine blockQ_pass rfl ?_
      refine blockQ_exit (hK5 _ ?_); clear hK5
      refine good_seq fun K11 hK11 => ?_
      refine gr rfl ?_
      refine em rfl (by conv=>lhs;whnf) ?_
      refine ea rfl (by conv=>lhs;whnf) ?_
      refine ev_nil (hK11 _ ?_); clear hK11
      refine good_weak (sub_move 8 16 900003 rfl rfl rfl (by decide)) ?_
      refine good_ret ?_
      repeat first|refine thenQ_ret ?_|refine blockQ_ret ?_
      refine fx_tmp rfl (by conv=>lhs;whnf) ?_
      clear hK10
      exact ⟨_, conv_eq (by first | rfl | (rw [e]; done) | (rw [e]; rfl) | exact ownEq (by first | omega | simp_all)), weakH_row (rowEq (by rw [show (waysF (ps.map pe) ns.length s.toNat).2.length = m by omega])) (weakH_none _), refsIn_ok rfl⟩
    · replace hb9 := dT hb9
      obtain ⟨w, hw⟩ : ∃ w, (waysF (ps.map pe) ns.length s.toNat).2[m]? = some w := ⟨_, List.getElem?_eq_getElem (by omega)⟩
      have hwm := List.mem_of_getElem? hw
      obtain ⟨p, hW⟩ := wayOf ok (show s.toNat < ns.length by omega) hwm
      have hpp := hW.hp
      have hw1 := hW.l1
      have hw2 := hW.l2
      have hwn := hW.ne
      have hpl := (List.getElem?_eq_some_iff.1 hpp).1
      have hpo := (ok.2 _ p hpp).1
      have hp1 := hpo.1.2.1
      have hp2 := hpo.1.2.2.1
      have hp3 := hpo.1.2.2.2.1
      have hp4 := hpo.1.2.2.2.2.1
      have hp5 := hpo.1.2.2.2.2.2.1
      have hp6 := hpo.1.2.2.2.2.2.2
      obtain ⟨l, hl⟩ : ∃ l, fl[w.2.2]? = some l := ⟨_, List.getElem?_eq_getElem (by have := hfl.1; omega)⟩
      have hlb := hfl.2 _ _ hl
      have hfs := flS_y hpp hl
      have hfb : -100000 ≤ flS (ps.map pe) fl w ∧ flS (ps.map pe) fl w ≤ 100000 := by rw [hfs]; split <;> omega
      have hst := wyR_s (f := (prF ns ps fl)) (n := ns.length) (s := s.toNat) (x := pr) hw
      have hln := wyR_len (f := (prF ns ps fl)) (es := (ps.map pe)) (n := ns.length) (s := s.toNat) (m := m) (x := pr)
      have htb := wyR_grow (f := (prF ns ps fl)) (es := (ps.map pe)) (n := ns.length) (s := s.toNat) (m := m) (x := pr) (esF_lt ok) (by omega) (by omega) (by omega) (by omega) (prF_d ok hfl (by omega)) w.2.1
      have hdw := drW_bd ok hfl (by omega) hwm
      have hdq := drW_eq (fl := fl) hpp
      have hwi := ok.1.2.1
      have hg1 := nsG hwi w.1
      have hg2 := nsG hwi w.2.1
      have hrb := riW_bd (w := w) hg1 hg2
      have hri : riW ns w = dr (981 * (ns.getD w.1 0 - ns.getD w.2.1 0)) 10 := rfl
      refine ev_nil (hK8 _ ?_); clear hK8
      refine good_seq fun K12 hK12 => ?_
      refine good_condT rfl ?_
      refine good_skip (hK12 _ ?_); clear hK12
      refine good_seq fun K13 hK13 => ?_
      refine good_block ?_
      refine good_seq fun K14 hK14 => ?_
      refine gr rfl ?_
      refine ev_q rfl (q_idxO tE110 rfl rfl rfl (by omega) (by first | omega | (simp; omega)) rfl ?_)
      refine ev_q rfl (q_loadEA tA112 rfl rfl (by exact wy_get hw) rfl rfl ?_)
      refine ev_k rfl (k_alloc zA112 rfl ?_)
      refine ev_k rfl (k_store sz112 rfl (by conv=>lhs;whnf) rfl rfl rfl (Nat.le_of_ble_eq_true rfl) rfl ?_)
      refine ev_nil (hK14 _ ?_); clear hK14
      refine good_seq fun K15 hK15 => ?_
      refine good_draw 16 hmix (by kernel_rfl) rfl ?_
      refine qo_q rfl (q_fieldAddrP fO27_0 rfl rfl ?_)
      refine qo_q rfl (q_load tA24 rfl ?_)
      refine qo_q rfl (q_fieldAddrP fO112_0 rfl rfl ?_)
      refine qo_q rfl (q_load tA2 rfl ?_)
      refine qo_q rfl (q_idx tE24 rfl rfl (by omega) (by exact getG (t := ns) (v := w.1) (by omega)) rfl ?_)
      refine qo_q rfl (q_load tA2 rfl ?_)
      refine qo_q rfl (q_fieldAddrP fO27_0 rfl rfl ?_)
      refine qo_q rfl (q_load tA24 rfl ?_)
      refine qo_q rfl (q_fieldAddrP fO112_1 rfl rfl ?_)
      refine qo_q rfl (q_load tA2 rfl ?_)
      refine qo_q rfl (q_idx tE24 rfl rfl (by omega) (by exact getG (t := ns) (v := w.2.1) (by omega)) rfl ?_)
      refine qo_q rfl (q_load tA2 rfl ?_)
      refine qo_q rfl (q_int rfl rfl ?_)
      intro n16 hn16
      replace hn16 := in64 hn16 (by omega) (by omega)
      refine qo_q rfl (q_int rfl rfl ?_)
      intro n17 hn17
      replace hn17 := in64 hn17 (by omega) (by omega)
      refine qo_q rfl (q_callI rfl rfl (rfl) (D_impl_divRound _ _ (by omega) (by omega)) ?_)
      intro n18 hn18
      rw [show n17 = 981 * (ns.getD w.1 0 - ns.getD w.2.1 0) by omega, ← hri] at hn18
      refine qa rfl (by conv=>lhs;whnf) ?_
      refine qo_nil ?_
      refine ev_nil (hK15 _ ?_); clear hK15
      refine good_draw 23 hmix (by kernel_rfl) rfl ?_
      refine qm rfl (by conv=>lhs;whnf) ?_
      refine qo_q rfl (q_fieldAddrP fO112_0 rfl rfl ?_)
      refine qo_q rfl (q_load tA2 rfl ?_)
      refine qm rfl (by conv=>lhs;whnf) ?_
      refine qo_q rfl (q_fieldAddrP fO112_1 rfl rfl ?_)
      refine qo_q rfl (q_load tA2 rfl ?_)
      refine qo_q rfl (q_idxO tE24 rfl rfl rfl (by omega) (by first | omega | (simp; omega)) rfl ?_)
      refine qo_q rfl (q_loadE tA2 rfl rfl (by exact getG (t := (wyR (prF ns ps fl) (ps.map pe) ns.length s.toNat pr m)) (v := w.2.1) (by omega)) rfl ?_)
      refine qo_q rfl (q_fieldAddrP fO27_1 rfl rfl ?_)
      refine qo_q rfl (q_load tA25 rfl ?_)
      refine qo_q rfl (q_fieldAddrP fO112_2 rfl rfl ?_)
      refine qo_q rfl (q_load tA3 rfl ?_)
      refine qo_q rfl (q_idx tE25 rfl rfl (by omega) (by exact map_get hpp) rfl ?_)
      refine qo_q rfl (q_loadA tA73 rfl rfl rfl ?_)
      refine qo_q rfl (q_loadA tA112 rfl rfl rfl ?_)
      refine qo_q rfl (q_loadA tA27 rfl rfl rfl ?_)
      refine qm rfl (by conv=>lhs;whnf) ?_
      refine qo_q rfl (q_callI rfl rfl (rfl) (D_impl_way_along ns ps fl w p l (by omega) hpp hl hlb) ?_)
      intro n19 hn19
      refine qo_q rfl (q_callI rfl rfl (rfl) (D_impl_Pipe_drop _ _ _ _ _ _ _ hp4 hp5 (by omega)) ?_)
      intro n20 hn20
      rw [hn19, ← hdq] at hn20
      refine qo_q rfl (q_int rfl rfl ?_)
      intro n21 hn21
      replace hn21 := in64 hn21 (by omega) (by omega)
      refine qm rfl (by conv=>lhs;whnf) ?_
      refine qo_q rfl (q_int rfl rfl ?_)
      intro n22 hn22
      replace hn22 := in64 hn22 (by omega) (by omega)
      have hS : ((wyR (prF ns ps fl) (ps.map pe) ns.length s.toNat pr m).map ci).set w.1 (ci n22) = (wyR (prF ns ps fl) (ps.map pe) ns.length s.toNat pr (m + 1)).map ci := by rw [mapSet, hst, show n22 = prF ns ps fl w ((wyR (prF ns ps fl) (ps.map pe) ns.length s.toNat pr m).getD w.2.1 0) by have := prF_eq (ns := ns) (ps := ps) (fl := fl) (w := w) (a := (wyR (prF ns ps fl) (ps.map pe) ns.length s.toNat pr m).getD w.2.1 0); omega]
      refine qo_q rfl (q_idxO tE24 rfl rfl rfl (by omega) (by first | omega | (simp; omega)) rfl ?_)
      refine qo_nil ?_
      refine ev_k rfl (k_storeE sz2 rfl (by conv=>lhs;whnf) rfl rfl rfl (Nat.le_of_ble_eq_true rfl) rfl (by exact getG (by omega)) (Nat.le_of_ble_eq_true rfl) rfl ?_)
      refine ev_nil (hK13 _ ?_); clear hK13
      refine gr rfl ?_
      refine ei rfl rfl rfl ?_
      intro n23 hn23
      replace hn23 := in64 hn23 (by omega) (by omega)
      refine em rfl (by conv=>lhs;whnf) ?_
      refine ev_nil ?_
      clear hK5
      refine ⟨m + 1, ?_, ?_, ?_⟩
      · show _ ≤ _; omega
      · first | omega | (simp only []; omega) | (dsimp only; omega)
      · refine sub_weak ?_ ?_
        · exact weakH_box (boxEq (rfl)) rfl (weakH_row (rowEq (rfl)) (weakH_row (rowEq (by exact hS)) (weakH_none _)))
        · refine weakE_upd ?e25 ?r25 (weakE_upd ?e24 ?r24 (weakE_upd ?e23 ?r23 (weakE_upd ?e9 ?r9 (weakE_upd ?e4 ?r4 (weakE_upd ?e2 ?r2 (weakE_junk _ _))))))
          case e2 => first | rfl | exact fI (by omega) | (simp_all)
          case r2 => intro h hh; cases hh
          case e4 => first | rfl | exact fI (by omega) | (simp_all)
          case r4 => intro h hh; simp [refs] at hh; subst hh; rfl
          case e9 => first | rfl | exact fI (by omega) | (simp_all)
          case r9 => intro h hh; simp [refs] at hh; subst hh; rfl
          case e23 => first | rfl | exact fI (by omega) | (simp_all)
          case r23 => intro h hh; simp [refs] at hh; subst hh; rfl
          case e24 => first | rfl | exact fI (by omega) | (simp_all)
          case r24 => intro h hh; cases hh
          case e25 => first | rfl | exact fI (by omega) | (simp_all)
          case r25 => intro h hh; cases hh

-- (impl.Network).differences
theorem D_impl_Network_differences (ns : List Int) (ps : List Pi) (s : Int) (fl : List Int) (pr : Int) (hn : ns.length ≤ 17592186044416) (hp : ps.length ≤ 2513169434843) (hz : idSz ps) (hf : fl.length ≤ 17592186044416) (ok : netOk ns ps) (hs : 0 ≤ s ∧ s < ns.length) (hfl : flP ps fl) (hpr : 0 ≤ pr ∧ pr ≤ 100000000) : DenX Try.prog 45 [] [.agg [.lst 1 (ns.map ci), .lst 6 (ps.map piA)], .s (.int .i64 s), .lst 1 (fl.map ci), .s (.int .i64 pr)] [(900003, .row 2 1 ((wyR (dfF ps fl) (ps.map pe) ns.length s.toNat pr (waysF (ps.map pe) ns.length s.toNat).2.length).map ci))] (.own 900003 ns.length) := by
  have h16 := ok.1.1
  have h20 := ok.1.2.2
  have hwl := ways_le (s := s.toNat) (esF_lt ok) (by omega)
  refine denX_of_good Try.func45 (by decide) rfl (Nat.le_of_ble_eq_true rfl) (Nat.le_of_ble_eq_true rfl) rfl ?_
  refine good_seq fun K1 hK1 => ?_
  refine gr rfl ?_
  refine ev_k rfl (k_box (by conv=>lhs;whnf) rfl rfl rfl ?_)
  refine ea rfl (by conv=>lhs;whnf) ?_
  refine ev_nil (hK1 _ ?_); clear hK1
  refine good_seq fun K2 hK2 => ?_
  refine gr rfl ?_
  refine ev_q rfl (q_fieldAddrP fO27_0 rfl rfl ?_)
  refine ev_q rfl (q_load tA24 rfl ?_)
  refine ev_q rfl (q_len tEs24 rfl ?_)
  intro n3 hn3
  try simp only [List.length_map] at hn3
  refine ev_k rfl (k_make tE24 rfl rfl zA2 tBy2 rfl (by omega) (by omega) (by omega) rfl (by show _ = ns.length; omega) ?_)
  refine ea rfl (by conv=>lhs;whnf) ?_
  refine ev_nil (hK2 _ ?_); clear hK2
  refine good_seq fun K4 hK4 => ?_
  refine gr rfl ?_
  refine em rfl (by conv=>lhs;whnf) ?_
  refine em rfl (by conv=>lhs;whnf) ?_
  refine em rfl (by conv=>lhs;whnf) ?_
  refine ev_q rfl (q_idxO tE24 rfl rfl rfl (by omega) (by first | omega | (simp; omega)) rfl ?_)
  refine ev_k rfl (k_storeE sz2 rfl (by conv=>lhs;whnf) rfl rfl rfl (Nat.le_of_ble_eq_true rfl) rfl (by exact repG (by omega)) (Nat.le_of_ble_eq_true rfl) rfl ?_)
  refine ev_nil (hK4 _ ?_); clear hK4
  refine good_seq fun K5 hK5 => ?_
  refine good_seq fun K6 hK6 => ?_
  refine gr rfl ?_
  refine ev_q rfl (q_loadA tA27 rfl rfl rfl ?_)
  refine em rfl (by conv=>lhs;whnf) ?_
  refine ev_k rfl (k_callX [(900001, 900001)] (D_impl_Network_ways ns ps s hn hp hz ok hs) rfl (rfl) (rfl) trivial ⟨⟨rfl, show (900001 : Nat) < 1000000 by decide⟩, trivial⟩ rfl rfl rfl ?_)
  refine ev_q rfl (q_len tEs110 rfl ?_)
  intro n7 hn7
  try simp only [List.length_map] at hn7
  refine em rfl (by conv=>lhs;whnf) ?_
  refine ev_nil (hK6 _ ?_); clear hK6
  refine good_block ?_
  refine good_loop (α := Nat) (fun m => { env := upd (upd (upd (upd (upd (upd ((fun _ => .junk)) 2 (.lst 1 (fl.map ci))) 4 (.ptr 4 0)) 9 (.own 15 ns.length)) 22 (.own 900001 (waysF (ps.map pe) ns.length s.toNat).2.length)) 23 (.s (.int .i64 (((waysF (ps.map pe) ns.length s.toNat).2.length : Int))))) 24 (.s (.int .i64 ((m : Int)))), H := upd (upd (upd ((fun _ => none)) 15 (some (.row 2 1 ((wyR (dfF ps fl) (ps.map pe) ns.length s.toNat pr m).map ci)))) 900001 (some (.row 112 3 ((waysF (ps.map pe) ns.length s.toNat).2.map wyA)))) 4 (some (.box 27 [.lst 1 (ns.map ci), .lst 6 (ps.map piA)])) }) (fun m => m ≤ (waysF (ps.map pe) ns.length s.toNat).2.length) (fun m => (waysF (ps.map pe) ns.length s.toNat).2.length - m) 0 ?_ ?_ ?_
  · exact Nat.zero_le _
  · refine sub_weak ?_ ?_
    · exact weakH_box (boxEq (rfl)) rfl (weakH_row (rowEq (rfl)) (weakH_row (rowEq (by first | exact wyR_0)) (weakH_none _)))
    · refine weakE_upd ?e24 ?r24 (weakE_upd ?e23 ?r23 (weakE_upd ?e22 ?r22 (weakE_upd ?e9 ?r9 (weakE_upd ?e4 ?r4 (weakE_upd ?e2 ?r2 (weakE_junk _ _))))))
      case e2 => first | rfl | exact fI (by omega) | (simp_all)
      case r2 => intro h hh; cases hh
      case e4 => first | rfl | exact fI (by omega) | (simp_all)
      case r4 => intro h hh; simp [refs] at hh; subst hh; rfl
      case e9 => first | rfl | exact fI (by omega) | (simp_all)
      case r9 => intro h hh; simp [refs] at hh; subst hh; rfl
      case e22 => first | rfl | exact fI (by omega) | (simp_all)
      case r22 => intro h hh; simp [refs] at hh; subst hh; rfl
      case e23 => first | rfl | exact fI (by omega) | (simp_all)
      case r23 => intro h hh; cases hh
      case e24 => first | rfl | exact fI (by omega) | (simp_all)
      case r24 => intro h hh; cases hh
  · rintro m hI
    refine good_seq fun K8 hK8 => ?_
    refine gr rfl ?_
    refine ei rfl rfl rfl ?_
    intro b9 hb9; cases b9
    · replace hb9 := dF hb9
      refine ev_nil (hK8 _ ?_); clear hK8
      refine good_seq fun K10 hK10 => ?_
      refine good_condF rfl ?_
      refine good_exit ?_
      repeat first|refine thenQ_exit ?_|refine blockQ_pass rfl ?_
      refine blockQ_exit (hK5 _ ?_); clear hK5
      refine good_seq fun K11 hK11 => ?_
      refine gr rfl ?_
      refine em rfl (by conv=>lhs;whnf) ?_
      refine ea rfl (by conv=>lhs;whnf) ?_
      refine ev_nil (hK11 _ ?_); clear hK11
      refine good_weak (sub_move 8 15 900003 rfl rfl rfl (by decide)) ?_
      refine good_ret ?_
      repeat first|refine thenQ_ret ?_|refine blockQ_ret ?_
      refine fx_tmp rfl (by conv=>lhs;whnf) ?_
      clear hK10
      exact ⟨_, conv_eq (by first | rfl | (rw [e]; done) | (rw [e]; rfl) | exact ownEq (by first | omega | simp_all)), weakH_row (rowEq (by rw [show (waysF (ps.map pe) ns.length s.toNat).2.length = m by omega])) (weakH_none _), refsIn_ok rfl⟩
    · replace hb9 := dT hb9
      obtain ⟨w, hw⟩ : ∃ w, (waysF (ps.map pe) ns.length s.toNat).2[m]? = some w := ⟨_, List.getElem?_eq_getElem (by omega)⟩
      have hwm := List.mem_of_getElem? hw
      obtain ⟨p, hW⟩ := wayOf ok (show s.toNat < ns.length by omega) hwm
      have hpp := hW.hp
      have hw1 := hW.l1
      have hw2 := hW.l2
      have hwn := hW.ne
      have hpl := (List.getElem?_eq_some_iff.1 hpp).1
      have hpo := (ok.2 _ p hpp).1
      have hp1 := hpo.1.2.1
      have hp2 := hpo.1.2.2.1
      have hp3 := hpo.1.2.2.2.1
      have hp4 := hpo.1.2.2.2.2.1
      have hp5 := hpo.1.2.2.2.2.2.1
      have hp6 := hpo.1.2.2.2.2.2.2
      obtain ⟨l, hl⟩ : ∃ l, fl[w.2.2]? = some l := ⟨_, List.getElem?_eq_getElem (by have := hfl.1; omega)⟩
      have hlb := hfl.2 _ _ hl
      have hfs := flS_y hpp hl
      have hfb : -100000 ≤ flS (ps.map pe) fl w ∧ flS (ps.map pe) fl w ≤ 100000 := by rw [hfs]; split <;> omega
      have hst := wyR_s (f := (dfF ps fl)) (n := ns.length) (s := s.toNat) (x := pr) hw
      have hln := wyR_len (f := (dfF ps fl)) (es := (ps.map pe)) (n := ns.length) (s := s.toNat) (m := m) (x := pr)
      have htb := wyR_grow (f := (dfF ps fl)) (es := (ps.map pe)) (n := ns.length) (s := s.toNat) (m := m) (x := pr) (esF_lt ok) (by omega) (by omega) (by omega) (by omega) (dfF_d ok hfl (by omega)) w.2.1
      have hdw := drW_bd ok hfl (by omega) hwm
      have hdq := drW_eq (fl := fl) hpp
      refine ev_nil (hK8 _ ?_); clear hK8
      refine good_seq fun K12 hK12 => ?_
      refine good_condT rfl ?_
      refine good_skip (hK12 _ ?_); clear hK12
      refine good_seq fun K13 hK13 => ?_
      refine good_block ?_
      refine good_seq fun K14 hK14 => ?_
      refine gr rfl ?_
      refine ev_q rfl (q_idxO tE110 rfl rfl rfl (by omega) (by first | omega | (simp; omega)) rfl ?_)
      refine ev_q rfl (q_loadEA tA112 rfl rfl (by exact wy_get hw) rfl rfl ?_)
      refine ev_k rfl (k_alloc zA112 rfl ?_)
      refine ev_k rfl (k_store sz112 rfl (by conv=>lhs;whnf) rfl rfl rfl (Nat.le_of_ble_eq_true rfl) rfl ?_)
      refine ev_nil (hK14 _ ?_); clear hK14
      refine good_draw 22 hmix (by kernel_rfl) rfl ?_
      refine qm rfl (by conv=>lhs;whnf) ?_
      refine qo_q rfl (q_fieldAddrP fO112_0 rfl rfl ?_)
      refine qo_q rfl (q_load tA2 rfl ?_)
      refine qm rfl (by conv=>lhs;whnf) ?_
      refine qo_q rfl (q_fieldAddrP fO112_1 rfl rfl ?_)
      refine qo_q rfl (q_load tA2 rfl ?_)
      refine qo_q rfl (q_idxO tE24 rfl rfl rfl (by omega) (by first | omega | (simp; omega)) rfl ?_)
      refine qo_q rfl (q_loadE tA2 rfl rfl (by exact getG (t := (wyR (dfF ps fl) (ps.map pe) ns.length s.toNat pr m)) (v := w.2.1) (by omega)) rfl ?_)
      refine qo_q rfl (q_fieldAddrP fO27_1 rfl rfl ?_)
      refine qo_q rfl (q_load tA25 rfl ?_)
      refine qo_q rfl (q_fieldAddrP fO112_2 rfl rfl ?_)
      refine qo_q rfl (q_load tA3 rfl ?_)
      refine qo_q rfl (q_idx tE25 rfl rfl (by omega) (by exact map_get hpp) rfl ?_)
      refine qo_q rfl (q_loadA tA73 rfl rfl rfl ?_)
      refine qo_q rfl (q_loadA tA112 rfl rfl rfl ?_)
      refine qo_q rfl (q_loadA tA27 rfl rfl rfl ?_)
      refine qm rfl (by conv=>lhs;whnf) ?_
      refine qo_q rfl (q_callI rfl rfl (rfl) (D_impl_way_along ns ps fl w p l (by omega) hpp hl hlb) ?_)
      intro n15 hn15
      refine qo_q rfl (q_callI rfl rfl (rfl) (D_impl_Pipe_drop _ _ _ _ _ _ _ hp4 hp5 (by omega)) ?_)
      intro n16 hn16
      rw [hn15, ← hdq] at hn16
      refine qo_q rfl (q_int rfl rfl ?_)
      intro n17 hn17
      replace hn17 := in64 hn17 (by omega) (by omega)
      refine qo_q rfl (q_int rfl rfl ?_)
      intro n18 hn18
      replace hn18 := in64 hn18 (by omega) (by omega)
      have hS : ((wyR (dfF ps fl) (ps.map pe) ns.length s.toNat pr m).map ci).set w.1 (ci n18) = (wyR (dfF ps fl) (ps.map pe) ns.length s.toNat pr (m + 1)).map ci := by rw [mapSet, hst, show n18 = dfF ps fl w ((wyR (dfF ps fl) (ps.map pe) ns.length s.toNat pr m).getD w.2.1 0) by have := dfF_eq (ps := ps) (fl := fl) (w := w) (a := (wyR (dfF ps fl) (ps.map pe) ns.length s.toNat pr m).getD w.2.1 0); omega]
      refine qo_q rfl (q_idxO tE24 rfl rfl rfl (by omega) (by first | omega | (simp; omega)) rfl ?_)
      refine qo_nil ?_
      refine ev_k rfl (k_storeE sz2 rfl (by conv=>lhs;whnf) rfl rfl rfl (Nat.le_of_ble_eq_true rfl) rfl (by exact getG (by omega)) (Nat.le_of_ble_eq_true rfl) rfl ?_)
      refine ev_nil (hK13 _ ?_); clear hK13
      refine gr rfl ?_
      refine ei rfl rfl rfl ?_
      intro n19 hn19
      replace hn19 := in64 hn19 (by omega) (by omega)
      refine em rfl (by conv=>lhs;whnf) ?_
      refine ev_nil ?_
      clear hK5
      refine ⟨m + 1, ?_, ?_, ?_⟩
      · show _ ≤ _; omega
      · first | omega | (simp only []; omega) | (dsimp only; omega)
      · refine sub_weak ?_ ?_
        · exact weakH_box (boxEq (rfl)) rfl (weakH_row (rowEq (rfl)) (weakH_row (rowEq (by exact hS)) (weakH_none _)))
        · refine weakE_upd ?e24 ?r24 (weakE_upd ?e23 ?r23 (weakE_upd ?e22 ?r22 (weakE_upd ?e9 ?r9 (weakE_upd ?e4 ?r4 (weakE_upd ?e2 ?r2 (weakE_junk _ _))))))
          case e2 => first | rfl | exact fI (by omega) | (simp_all)
          case r2 => intro h hh; cases hh
          case e4 => first | rfl | exact fI (by omega) | (simp_all)
          case r4 => intro h hh; simp [refs] at hh; subst hh; rfl
          case e9 => first | rfl | exact fI (by omega) | (simp_all)
          case r9 => intro h hh; simp [refs] at hh; subst hh; rfl
          case e22 => first | rfl | exact fI (by omega) | (simp_all)
          case r22 => intro h hh; simp [refs] at hh; subst hh; rfl
          case e23 => first | rfl | exact fI (by omega) | (simp_all)
          case r23 => intro h hh; cases hh
          case e24 => first | rfl | exact fI (by omega) | (simp_all)
          case r24 => intro h hh; cases hh

-- impl.PressuresOf
theorem D_impl_PressuresOf_X (ns : List Int) (ps : List Pi) (s : Int) (fl : List Int) (pr : Int) (hn : ns.length ≤ 17592186044416) (hp : ps.length ≤ 2513169434843) (hz : idSz ps) (hf : fl.length ≤ 17592186044416) (ok : netOk ns ps) (hs : 0 ≤ s ∧ s < ns.length) (hfl : flP ps fl) (hpr : 0 ≤ pr ∧ pr ≤ 100000000) (htr : treeP ns ps) (hdr : dropP ps fl) : DenX Try.prog 12 [] [.agg [.lst 1 (ns.map ci), .lst 6 (ps.map piA)], .s (.int .i64 s), .lst 1 (fl.map ci), .s (.int .i64 pr)] [(900003, .row 2 1 ((wyR (prF ns ps fl) (ps.map pe) ns.length s.toNat pr (waysF (ps.map pe) ns.length s.toNat).2.length).map ci))] (.tup [.own 900003 ns.length, .s (.int .i64 0)]) := by
  refine denX_of_good Try.func12 (by decide) rfl (Nat.le_of_ble_eq_true rfl) (Nat.le_of_ble_eq_true rfl) rfl ?_
  refine good_seq fun K1 hK1 => ?_
  refine gr rfl ?_
  refine ev_k rfl (k_box (by conv=>lhs;whnf) rfl rfl rfl ?_)
  refine ea rfl (by conv=>lhs;whnf) ?_
  refine ea rfl (by conv=>lhs;whnf) ?_
  refine ev_nil (hK1 _ ?_); clear hK1
  refine good_seq fun K2 hK2 => ?_
  refine good_seq fun K3 hK3 => ?_
  refine gr rfl ?_
  refine ev_q rfl (q_loadA tA27 rfl rfl rfl ?_)
  refine em rfl (by conv=>lhs;whnf) ?_
  refine em rfl (by conv=>lhs;whnf) ?_
  refine em rfl (by conv=>lhs;whnf) ?_
  refine ev_q rfl (q_callI rfl rfl (rfl) (D_impl_flowsCode_P ns ps s fl pr hn hp hz hf hpr) ?_)
  intro n4 hn4
  rw [fc_y ok hs hfl htr] at hn4
  refine ea rfl (by conv=>lhs;whnf) ?_
  refine ev_nil (hK3 _ ?_); clear hK3
  refine good_seq fun K5 hK5 => ?_
  refine gr rfl ?_
  refine em rfl (by conv=>lhs;whnf) ?_
  refine ei rfl rfl rfl ?_
  intro b6 hb6; cases b6
  rotate_left
  · replace hb6 := neT hb6
    exfalso; omega
  replace hb6 := neF hb6
  refine ev_nil (hK5 _ ?_); clear hK5
  refine good_condF rfl ?_
  refine good_skip (hK2 _ ?_); clear hK2
  refine good_seq fun K7 hK7 => ?_
  refine good_seq fun K8 hK8 => ?_
  refine gr rfl ?_
  refine ev_q rfl (q_loadA tA27 rfl rfl rfl ?_)
  refine em rfl (by conv=>lhs;whnf) ?_
  refine ev_q rfl (q_callB rfl rfl (rfl) (D_impl_Network_dropsOk ns ps fl hn hp hz hf ok hfl) ?_)
  intro b9 hb9; cases b9
  · first | replace hb9 := dF hb9 | skip
    exfalso; exact absurd hdr (by assumption)
  first | replace hb9 := dT hb9 | skip
  refine ev_q rfl (q_not rfl rfl ?_)
  refine ev_nil (hK8 _ ?_); clear hK8
  refine good_condF rfl ?_
  refine good_skip (hK7 _ ?_); clear hK7
  refine good_seq fun K10 hK10 => ?_
  refine gr rfl ?_
  refine ev_q rfl (q_loadA tA27 rfl rfl rfl ?_)
  refine em rfl (by conv=>lhs;whnf) ?_
  refine em rfl (by conv=>lhs;whnf) ?_
  refine em rfl (by conv=>lhs;whnf) ?_
  refine ev_k rfl (k_callX [(900003, 900003)] (D_impl_Network_pressures ns ps s fl pr hn hp hz hf ok hs hfl hpr) rfl (rfl) (rfl) trivial ⟨⟨rfl, show (900003 : Nat) < 1000000 by decide⟩, trivial⟩ rfl rfl rfl ?_)
  refine ea rfl (by conv=>lhs;whnf) ?_
  refine ea rfl (by conv=>lhs;whnf) ?_
  refine ev_nil (hK10 _ ?_); clear hK10
  refine good_ret ?_
  repeat first|refine thenQ_ret ?_|refine blockQ_ret ?_
  refine fx_many rfl ?_
  refine fxs_tmp (by conv=>lhs;whnf) ?_
  refine fxs_tmp (by conv=>lhs;whnf) ?_
  refine fx_nil ?_
  exact ⟨_, .tup (.cons (conv_eq (by first | rfl | (rw [e]; done) | (rw [e]; rfl) | exact ownEq (by first | omega | simp_all))) (.cons (conv_eq (by first | rfl | exact fI (by first | omega | grind) | (exfalso; first | omega | grind))) (.nil))), weakH_row (rowEq (by first | rfl | (rw [e]; done) | (rw [e]; rfl) | (simp_all; done))) (weakH_none _), refsIn_ok rfl⟩
theorem D_impl_PressuresOf (ns : List Int) (ps : List Pi) (s : Int) (fl : List Int) (pr : Int) (hn : ns.length ≤ 17592186044416) (hp : ps.length ≤ 2513169434843) (hz : idSz ps) (hf : fl.length ≤ 17592186044416) (ok : netOk ns ps) (hs : 0 ≤ s ∧ s < ns.length) (hfl : flP ps fl) (hpr : 0 ≤ pr ∧ pr ≤ 100000000) (htr : treeP ns ps) (hdr : dropP ps fl) : Den Try.prog 12 [.agg [.lst 1 (ns.map ci), .lst 6 (ps.map piA)], .s (.int .i64 s), .lst 1 (fl.map ci), .s (.int .i64 pr)] (.tup [.lst 1 ((wyR (prF ns ps fl) (ps.map pe) ns.length s.toNat pr (waysF (ps.map pe) ns.length s.toNat).2.length).map ci), .s (.int .i64 0)]) :=
  den_of_denX (D_impl_PressuresOf_X ns ps s fl pr hn hp hz hf ok hs hfl hpr htr hdr) (by change (some (.tup [.lst 1 (List.take ns.length ((wyR (prF ns ps fl) (ps.map pe) ns.length s.toNat pr (waysF (ps.map pe) ns.length s.toNat).2.length).map ci)), .s (.int .i64 0)]) : Option AV) = some (.tup [.lst 1 ((wyR (prF ns ps fl) (ps.map pe) ns.length s.toNat pr (waysF (ps.map pe) ns.length s.toNat).2.length).map ci), .s (.int .i64 0)]); rw [show List.take ns.length ((wyR (prF ns ps fl) (ps.map pe) ns.length s.toNat pr (waysF (ps.map pe) ns.length s.toNat).2.length).map ci) = (wyR (prF ns ps fl) (ps.map pe) ns.length s.toNat pr (waysF (ps.map pe) ns.length s.toNat).2.length).map ci from takeLen (by rw [List.length_map, wyR_len]; exact Nat.le_refl _)])

-- impl.DifferencesOf
theorem D_impl_DifferencesOf_X (ns : List Int) (ps : List Pi) (s : Int) (fl : List Int) (pr : Int) (hn : ns.length ≤ 17592186044416) (hp : ps.length ≤ 2513169434843) (hz : idSz ps) (hf : fl.length ≤ 17592186044416) (ok : netOk ns ps) (hs : 0 ≤ s ∧ s < ns.length) (hfl : flP ps fl) (hpr : 0 ≤ pr ∧ pr ≤ 100000000) (htr : treeP ns ps) (hdr : dropP ps fl) : DenX Try.prog 13 [] [.agg [.lst 1 (ns.map ci), .lst 6 (ps.map piA)], .s (.int .i64 s), .lst 1 (fl.map ci), .s (.int .i64 pr)] [(900003, .row 2 1 ((wyR (dfF ps fl) (ps.map pe) ns.length s.toNat pr (waysF (ps.map pe) ns.length s.toNat).2.length).map ci))] (.tup [.own 900003 ns.length, .s (.int .i64 0)]) := by
  refine denX_of_good Try.func13 (by decide) rfl (Nat.le_of_ble_eq_true rfl) (Nat.le_of_ble_eq_true rfl) rfl ?_
  refine good_seq fun K1 hK1 => ?_
  refine gr rfl ?_
  refine ev_k rfl (k_box (by conv=>lhs;whnf) rfl rfl rfl ?_)
  refine ea rfl (by conv=>lhs;whnf) ?_
  refine ea rfl (by conv=>lhs;whnf) ?_
  refine ev_nil (hK1 _ ?_); clear hK1
  refine good_seq fun K2 hK2 => ?_
  refine good_seq fun K3 hK3 => ?_
  refine gr rfl ?_
  refine ev_q rfl (q_loadA tA27 rfl rfl rfl ?_)
  refine em rfl (by conv=>lhs;whnf) ?_
  refine em rfl (by conv=>lhs;whnf) ?_
  refine em rfl (by conv=>lhs;whnf) ?_
  refine ev_q rfl (q_callI rfl rfl (rfl) (D_impl_flowsCode_P ns ps s fl pr hn hp hz hf hpr) ?_)
  intro n4 hn4
  rw [fc_y ok hs hfl htr] at hn4
  refine ea rfl (by conv=>lhs;whnf) ?_
  refine ev_nil (hK3 _ ?_); clear hK3
  refine good_seq fun K5 hK5 => ?_
  refine gr rfl ?_
  refine em rfl (by conv=>lhs;whnf) ?_
  refine ei rfl rfl rfl ?_
  intro b6 hb6; cases b6
  rotate_left
  · replace hb6 := neT hb6
    exfalso; omega
  replace hb6 := neF hb6
  refine ev_nil (hK5 _ ?_); clear hK5
  refine good_condF rfl ?_
  refine good_skip (hK2 _ ?_); clear hK2
  refine good_seq fun K7 hK7 => ?_
  refine good_seq fun K8 hK8 => ?_
  refine gr rfl ?_
  refine ev_q rfl (q_loadA tA27 rfl rfl rfl ?_)
  refine em rfl (by conv=>lhs;whnf) ?_
  refine ev_q rfl (q_callB rfl rfl (rfl) (D_impl_Network_dropsOk ns ps fl hn hp hz hf ok hfl) ?_)
  intro b9 hb9; cases b9
  · first | replace hb9 := dF hb9 | skip
    exfalso; exact absurd hdr (by assumption)
  first | replace hb9 := dT hb9 | skip
  refine ev_q rfl (q_not rfl rfl ?_)
  refine ev_nil (hK8 _ ?_); clear hK8
  refine good_condF rfl ?_
  refine good_skip (hK7 _ ?_); clear hK7
  refine good_seq fun K10 hK10 => ?_
  refine gr rfl ?_
  refine ev_q rfl (q_loadA tA27 rfl rfl rfl ?_)
  refine em rfl (by conv=>lhs;whnf) ?_
  refine em rfl (by conv=>lhs;whnf) ?_
  refine em rfl (by conv=>lhs;whnf) ?_
  refine ev_k rfl (k_callX [(900003, 900003)] (D_impl_Network_differences ns ps s fl pr hn hp hz hf ok hs hfl hpr) rfl (rfl) (rfl) trivial ⟨⟨rfl, show (900003 : Nat) < 1000000 by decide⟩, trivial⟩ rfl rfl rfl ?_)
  refine ea rfl (by conv=>lhs;whnf) ?_
  refine ea rfl (by conv=>lhs;whnf) ?_
  refine ev_nil (hK10 _ ?_); clear hK10
  refine good_ret ?_
  repeat first|refine thenQ_ret ?_|refine blockQ_ret ?_
  refine fx_many rfl ?_
  refine fxs_tmp (by conv=>lhs;whnf) ?_
  refine fxs_tmp (by conv=>lhs;whnf) ?_
  refine fx_nil ?_
  exact ⟨_, .tup (.cons (conv_eq (by first | rfl | (rw [e]; done) | (rw [e]; rfl) | exact ownEq (by first | omega | simp_all))) (.cons (conv_eq (by first | rfl | exact fI (by first | omega | grind) | (exfalso; first | omega | grind))) (.nil))), weakH_row (rowEq (by first | rfl | (rw [e]; done) | (rw [e]; rfl) | (simp_all; done))) (weakH_none _), refsIn_ok rfl⟩
theorem D_impl_DifferencesOf (ns : List Int) (ps : List Pi) (s : Int) (fl : List Int) (pr : Int) (hn : ns.length ≤ 17592186044416) (hp : ps.length ≤ 2513169434843) (hz : idSz ps) (hf : fl.length ≤ 17592186044416) (ok : netOk ns ps) (hs : 0 ≤ s ∧ s < ns.length) (hfl : flP ps fl) (hpr : 0 ≤ pr ∧ pr ≤ 100000000) (htr : treeP ns ps) (hdr : dropP ps fl) : Den Try.prog 13 [.agg [.lst 1 (ns.map ci), .lst 6 (ps.map piA)], .s (.int .i64 s), .lst 1 (fl.map ci), .s (.int .i64 pr)] (.tup [.lst 1 ((wyR (dfF ps fl) (ps.map pe) ns.length s.toNat pr (waysF (ps.map pe) ns.length s.toNat).2.length).map ci), .s (.int .i64 0)]) :=
  den_of_denX (D_impl_DifferencesOf_X ns ps s fl pr hn hp hz hf ok hs hfl hpr htr hdr) (by change (some (.tup [.lst 1 (List.take ns.length ((wyR (dfF ps fl) (ps.map pe) ns.length s.toNat pr (waysF (ps.map pe) ns.length s.toNat).2.length).map ci)), .s (.int .i64 0)]) : Option AV) = some (.tup [.lst 1 ((wyR (dfF ps fl) (ps.map pe) ns.length s.toNat pr (waysF (ps.map pe) ns.length s.toNat).2.length).map ci), .s (.int .i64 0)]); rw [show List.take ns.length ((wyR (dfF ps fl) (ps.map pe) ns.length s.toNat pr (waysF (ps.map pe) ns.length s.toNat).2.length).map ci) = (wyR (dfF ps fl) (ps.map pe) ns.length s.toNat pr (waysF (ps.map pe) ns.length s.toNat).2.length).map ci from takeLen (by rw [List.length_map, wyR_len]; exact Nat.le_refl _)])

-- impl.treeCode
theorem D_impl_treeCode_D (ns : List Int) (ps : List Pi) (s : Int) (dm : List Int) (hn : ns.length ≤ 17592186044416) (hp : ps.length ≤ 2513169434843) (hz : idSz ps) (ok : netOk ns ps) (hs : 0 ≤ s ∧ s < ns.length) (hdm : dmP ns dm) (htr : treeP ns ps) (hf : dm.length ≤ 17592186044416) : Den Try.prog 36 [.agg [.lst 1 (ns.map ci), .lst 6 (ps.map piA)], .s (.int .i64 s), .s (.int .i64 0), .lst 1 (dm.map ci), .nil, .s (.bool true)] (.s (.int .i64 0)) := by
  have hdl := hdm.1
  refine den_of_good Try.func36 (by decide) rfl (Nat.le_of_ble_eq_true rfl) (Nat.le_of_ble_eq_true rfl) ?_
  refine good_seq fun K1 hK1 => ?_
  refine gr rfl ?_
  refine ev_k rfl (k_box (by conv=>lhs;whnf) rfl rfl rfl ?_)
  refine ea rfl (by conv=>lhs;whnf) ?_
  refine ev_nil (hK1 _ ?_); clear hK1
  refine good_seq fun K2 hK2 => ?_
  refine good_block ?_
  refine good_seq fun K3 hK3 => ?_
  refine gr rfl ?_
  refine ev_q rfl (q_loadA tA27 rfl rfl rfl ?_)
  refine ev_q rfl (q_callB rfl rfl (rfl) (D_impl_ValidNetwork ns ps hn hp hz) ?_)
  intro b4 hb4; cases b4
  · first | replace hb4 := dF hb4 | skip
    exfalso; exact absurd ok (by assumption)
  first | replace hb4 := dT hb4 | skip
  refine ev_q rfl (q_not rfl rfl ?_)
  refine ea rfl (by conv=>lhs;whnf) ?_
  refine ev_nil (hK3 _ ?_); clear hK3
  refine good_condF rfl ?_
  refine good_seq fun K5 hK5 => ?_
  refine gr rfl ?_
  refine ev_q rfl (q_loadA tA27 rfl rfl rfl ?_)
  refine em rfl (by conv=>lhs;whnf) ?_
  refine ev_q rfl (q_callB rfl rfl (rfl) (D_impl_Network_hasNode _ _ _ hn) ?_)
  intro b6 hb6; cases b6
  · first | replace hb6 := dF hb6 | skip
    exfalso; omega
  first | replace hb6 := dT hb6 | skip
  refine ev_q rfl (q_not rfl rfl ?_)
  refine em rfl (by conv=>lhs;whnf) ?_
  refine em rfl (by conv=>lhs;whnf) ?_
  refine ev_q rfl (q_callB rfl rfl (rfl) (D_impl_pressureOk ..) ?_)
  intro b7 hb7; cases b7
  · first | replace hb7 := dF hb7 | skip
    exfalso; omega
  first | replace hb7 := dT hb7 | skip
  refine ev_q rfl (q_not rfl rfl ?_)
  refine ev_q rfl (q_pickF rfl (by conv=>lhs;whnf) ?_)
  refine ea rfl (by conv=>lhs;whnf) ?_
  refine ev_nil (hK5 _ ?_); clear hK5
  refine good_condF rfl ?_
  refine good_seq fun K8 hK8 => ?_
  refine gr rfl ?_
  refine em rfl (by conv=>lhs;whnf) ?_
  refine em rfl (by conv=>lhs;whnf) ?_
  refine em rfl (by conv=>lhs;whnf) ?_
  refine ev_q rfl (q_len tEs24 rfl ?_)
  intro n9 hn9
  try simp only [List.length_map] at hn9
  refine ev_q rfl (q_fieldAddrP fO27_0 rfl rfl ?_)
  refine ev_q rfl (q_load tA24 rfl ?_)
  refine ev_q rfl (q_len tEs24 rfl ?_)
  intro n10 hn10
  try simp only [List.length_map] at hn10
  refine ei rfl rfl rfl ?_
  intro b11 hb11; cases b11
  rotate_left
  · replace hb11 := neT hb11
    exfalso; omega
  replace hb11 := neF hb11
  refine em rfl (by conv=>lhs;whnf) ?_
  refine em rfl (by conv=>lhs;whnf) ?_
  refine ev_q rfl (q_callB rfl rfl (rfl) (D_impl_allWithin dm _ _ hf) ?_)
  intro b12 hb12; cases b12
  · first | replace hb12 := dF hb12 | skip
    exfalso; exact absurd (dmP_w hdm) (by assumption)
  first | replace hb12 := dT hb12 | skip
  refine ev_q rfl (q_not rfl rfl ?_)
  refine ev_q rfl (q_pickF rfl (by conv=>lhs;whnf) ?_)
  refine ev_q rfl (q_pickT rfl (by conv=>lhs;whnf) ?_)
  refine ea rfl (by conv=>lhs;whnf) ?_
  refine ev_nil (hK8 _ ?_); clear hK8
  refine good_condF rfl ?_
  refine good_seq fun K13 hK13 => ?_
  refine gr rfl ?_
  refine em rfl (by conv=>lhs;whnf) ?_
  refine ev_q rfl (q_not rfl rfl ?_)
  refine em rfl (by conv=>lhs;whnf) ?_
  refine ev_skip rfl ?_
  refine ev_skip rfl ?_
  refine ev_skip rfl ?_
  refine ev_skip rfl ?_
  refine ev_q rfl (q_pickF rfl (by conv=>lhs;whnf) ?_)
  refine ea rfl (by conv=>lhs;whnf) ?_
  refine ev_nil (hK13 _ ?_); clear hK13
  refine good_condF rfl ?_
  refine good_seq fun K14 hK14 => ?_
  refine gr rfl ?_
  refine ev_q rfl (q_loadA tA27 rfl rfl rfl ?_)
  refine ev_q rfl (q_callB rfl rfl (rfl) (D_impl_Network_isTree ns ps hn hp hz ok) ?_)
  intro b15 hb15; cases b15
  · first | replace hb15 := dF hb15 | skip
    exfalso; exact absurd htr (by assumption)
  first | replace hb15 := dT hb15 | skip
  refine ev_q rfl (q_not rfl rfl ?_)
  refine ea rfl (by conv=>lhs;whnf) ?_
  refine ev_nil (hK14 _ ?_); clear hK14
  refine good_condF rfl ?_
  refine good_skip (hK2 _ ?_); clear hK2
  refine good_seq fun K16 hK16 => ?_
  refine gr rfl ?_
  refine ea rfl (by conv=>lhs;whnf) ?_
  refine ev_nil (hK16 _ ?_); clear hK16
  refine good_ret ?_
  repeat first|refine thenQ_ret ?_|refine blockQ_ret ?_
  refine ret_tmp (st := _) rfl (by conv=>lhs;whnf) rfl ?_
  first | rfl | (exfalso; first | omega | contradiction)

-- slices.Clone[[]int64,int64]
theorem D_slices_Clone_int64_int64_X (xs : List Int) (hx : xs.length ≤ 17592186044416) : DenX Try.prog 80 [] [.lst 1 (xs.map ci)] [(7, .row 2 1 (xs.map ci))] (.own 7 xs.length) := by
  refine denX_of_good Try.func80 (by decide) rfl (Nat.le_of_ble_eq_true rfl) (Nat.le_of_ble_eq_true rfl) rfl ?_
  refine good_seq fun K1 hK1 => ?_
  refine gr rfl ?_
  refine ea rfl (by conv=>lhs;whnf) ?_
  refine ev_nil (hK1 _ ?_); clear hK1
  refine good_seq fun K2 hK2 => ?_
  refine good_seq fun K3 hK3 => ?_
  refine gr rfl ?_
  refine em rfl (by conv=>lhs;whnf) ?_
  refine ev_k rfl (k_nil tEs24 rfl ?_)
  intro b4 hb4; cases b4
  · refine ev_nil (hK3 _ ?_); clear hK3
    refine good_condF rfl ?_
    refine good_skip (hK2 _ ?_); clear hK2
    refine good_seq fun K5 hK5 => ?_
    refine gr rfl ?_
    refine ev_k rfl (k_lit tE24 zA2 rfl rfl (by decide) (by decide) rfl rfl rfl ?_)
    refine em rfl (by conv=>lhs;whnf) ?_
    refine ev_k rfl (k_app tApp24 rfl rfl (by rfl) rfl (.inl rfl) (by simp [maxLen]; omega) (by simp; omega) ?_)
    refine ea rfl (by conv=>lhs;whnf) ?_
    refine ev_nil (hK5 _ ?_); clear hK5
    refine good_ret ?_
    repeat first|refine thenQ_ret ?_|refine blockQ_ret ?_
    refine fx_tmp rfl (by conv=>lhs;whnf) ?_
    exact ⟨_, conv_eq (by first | rfl | (rw [e]; done) | (rw [e]; rfl) | exact ownEq (by first | omega | simp_all)), weakH_row (rowEq (by first | rfl | (rw [e]; rfl))) (weakH_none _), refsIn_ok rfl⟩
  · replace hb4 := hb4 rfl
    have e := nilMap hb4
    refine ev_nil (hK3 _ ?_); clear hK3
    refine good_condT rfl ?_
    refine good_seq fun K6 hK6 => ?_
    refine gr rfl ?_
    refine ea rfl (by conv=>lhs;whnf) ?_
    refine ev_nil (hK6 _ ?_); clear hK6
    refine good_ret ?_
    repeat first|refine thenQ_ret ?_|refine blockQ_ret ?_
    refine fx_tmp rfl (by conv=>lhs;whnf) ?_
    clear hK2
    exact ⟨_, conv_nil rfl (by decide) (by rw [e]; rfl), weakH_row (rowEq (by first | rfl | (rw [e]; rfl))) (weakH_none _), refsIn_ok rfl⟩

set_option maxRecDepth 100000 in
theorem back1 (n l Bs bo b off len cap : Nat) (A B C : Nat → Value) (K : Nat → Prop) (hK1 : K Bs) (hK2 : K b) (hreach : len * 24 ≤ 140737488351232) (J Jx : List Nat → World → Prop) (hn : 1 ≤ n)
    (hY : ∀ (pre : List Nat) (x : Nat) (W : World), J pre W → pre.length < len → YieldAt Fence.wide (n - 1) Try.prog l #[.int .i64 (x : Int), .agg #[A x, B x, C x]] W fun e W' =>
      (e = .returned (.bool true) ∧ J (pre ++ [x]) W' ∧ KeepsB K W W') ∨ (e = .returned (.bool false) ∧ Jx (pre ++ [x]) W'))
    (W : World) (hBs : W.cell? ⟨Bs, bo, none⟩ = some (.slice (some ⟨b, off, none⟩) len cap)) (hc : ∀ j, j < len → W.cell? ⟨b, off + j * 3, none⟩ = some (A j) ∧ W.cell? ⟨b, off + j * 3 + 1, none⟩ = some (B j) ∧ W.cell? ⟨b, off + j * 3 + 2, none⟩ = some (C j)) (h0 : J [] W) :
    CallsIn Fence.wide n Try.prog 118 #[.func (.yield l) #[] #[], .pointer (some ⟨Bs, bo, none⟩)] W fun e W' => (∃ v, e = .returned v) ∧
      ((∃ ys, ys = (List.range len).map (fun j => len - 1 - j) ∧ J ys W') ∨ (∃ pre, True ∧ Jx pre W')) := by
  refine callsIn_of_wp Try.func118 rfl trivial ?_ rfl
  simp only [Try.ntmps118, List.size_toArray, List.length_cons, List.length_nil, Nat.reduceAdd, Nat.reduceSub, Array.replicate_succ, Array.replicate_zero, List.push_toArray, List.append_toArray, List.nil_append, List.cons_append]
  gi_wp2
  gi_loopw [3] (fun i wr => ∃ k : Nat, k ≤ len ∧ i = .int .i64 ((len : Int) - 1 - k) ∧ J ((List.range k).map (fun j => len - 1 - j)) wr ∧ KeepsB K W wr)
    (fun i _ => (intOf i + 1).toNat)
  case atStart => exact ⟨0, Nat.zero_le _, by simp, h0, fun _ _ => rfl⟩
  case round =>
    obtain ⟨k, hk, rfl, hJs, hnx⟩ := hrel
    have hcell : ∀ k o, K k → wr.cell? ⟨k, o, none⟩ = W.cell? ⟨k, o, none⟩ := fun k o hk => by unfold World.cell?; rw [hnx k hk]
    by_cases hlt : k < len
    · obtain ⟨fn, tmps, assign, body, hy, hR⟩ := hY _ (len - 1 - k) wr hJs (by simpa using hlt)
      obtain ⟨hc0, hc1, hc2⟩ := hc (len - 1 - k) (by omega)
      rw [← hcell b _ hK2] at hc0 hc1 hc2
      have hBx : wr.cell? ⟨Bs, bo, none⟩ = some (.slice (some ⟨b, off, none⟩) len cap) := (hcell Bs _ hK1).trans hBs
      obtain ⟨q, hq⟩ : ∃ q : Nat, len - 1 - k = q := ⟨_, rfl⟩
      have hq2 : (len : Int) - 1 - k = (q : Int) := by omega
      rw [hq2]
      rw [hq] at hy hc0 hc1 hc2 hR
      have hql : q < len := by omega
      have hms : (q : Int) - 1 = (len : Int) - 1 - ((k + 1 : Nat) : Int) := by omega
      have hll : (List.range k).map (fun j => len - 1 - j) ++ [q] = (List.range (k + 1)).map (fun j => len - 1 - j) := by
        rw [List.range_succ, List.map_append, ← hq]; rfl
      rw [hll] at hR
      have HM := (show Hid _ from hms)
      clear hms
      clear hY hc hcell hll hq2
      gi_wp2
      refine hR.mono ?_
      rintro e W3 (⟨rfl, hJ3, hk3⟩ | ⟨rfl, hJx3⟩)
      · gi_wp2
        go_roundw
        case rel => exact ⟨k + 1, by omega, by rw [HM.out], hJ3, fun k hk => (hk3 k hk).trans (hnx k hk)⟩
        case measure => (simp [intOf]) <;> omega
      · gi_wp2
        refine bodyPost_ret (results_none rfl _ _ _) rfl ?_
        exact ⟨⟨_, rfl⟩, .inr ⟨_, trivial, hJx3⟩⟩
    · obtain rfl : k = len := by omega
      have hq2 : (k : Int) - 1 - k = -1 := by omega
      rw [hq2]
      clear hY hc
      gi_wp2
      go_end0
      exact ⟨⟨_, rfl⟩, .inl ⟨_, rfl, hJs⟩⟩
set_option maxRecDepth 100000 in
theorem back0 (n l Bs bo : Nat) (a : Option Addr) (c : Nat) (J : List Nat → World → Prop) (W : World) (hBs : W.cell? ⟨Bs, bo, none⟩ = some (.slice a 0 c)) (h0 : J [] W) :
    CallsIn Fence.wide n Try.prog 118 #[.func (.yield l) #[] #[], .pointer (some ⟨Bs, bo, none⟩)] W fun e W' => (∃ v, e = .returned v) ∧ J [] W' := by
  refine callsIn_of_wp Try.func118 rfl trivial ?_ rfl
  simp only [Try.ntmps118, List.size_toArray, List.length_cons, List.length_nil, Nat.reduceAdd, Nat.reduceSub, Array.replicate_succ, Array.replicate_zero, List.push_toArray, List.append_toArray, List.nil_append, List.cons_append]
  gi_wp2
  gi_loopw [3] (fun i wr => i = .int .i64 (-1) ∧ J [] wr) (fun _ _ => 0)
  case atStart => exact ⟨by simp, h0⟩
  case round =>
    obtain ⟨rfl, hJs⟩ := hrel
    gi_wp2
    go_end0
    exact ⟨⟨_, rfl⟩, hJs⟩
def vsw (ws : List (Nat × Nat × Nat)) (x : Nat) : Array Value := #[.int .i64 ((wvA ws x).1 : Int), .int .i64 ((wvA ws x).2.1 : Int), .int .i64 ((wvA ws x).2.2 : Int)]
theorem seqB {C : Ctx Try.prog} {st : St} {φ : Nat → Value} {a : Act} {w : World} (g : GamW C st φ a w) {gop : Operand} {ws : List (Nat × Nat × Nat)} (hgop : st.ev gop = .fn 118 [.rp [.lst 3 (ws.map wyA)]]) (hlen : ws.length ≤ 100) :
    ∃ lb K, a.eval gop = .func (.func 118) #[] lb ∧
      SeqStopsK Fence.wide (5 - 1) Try.prog 118 lb (fun x : Nat => #[.int .i64 (x : Int), .agg (vsw ws x)]) (KeepsB K) (fun xs => xs = dnL ws.length ws.length) (fun _ => True) ws.length w ∧ ∀ k, K k → k < w.heap.size ∧ ∀ h, (st.H h).isSome = true → ¬ Blk (φ h) k := by
  have hv := g.ev gop
  rw [hgop] at hv
  have hv2 : Rep w (okG C φ st.H) (.fn 118 [.rp [.lst 3 (ws.map wyA)]]) (a.eval gop) := hv
  generalize a.eval gop = z at hv2
  cases hv2 with
  | fn hc =>
    cases hc with
    | cons h1 t1 =>
      cases t1
      obtain ⟨Bs, bo, us, rfl, hok1, hcell, -, hr⟩ := h1.rp_inv
      cases hr with
      | cons h2 t2 =>
        cases t2
        generalize hes : ws.map wyA = es at h2
        cases h2 with
        | lst0 =>
          rename_i A c
          have hw0 : ws = [] := by simpa using hes
          subst hw0
          obtain ⟨arr0, ty0, fr0, rest0, hb0, hd0⟩ := hcell
          refine ⟨_, fun k => k = Bs, rfl, fun l J Jx W hW _ _ hY h0 => ?_, fun k hk => ?_⟩
          · have hBs : W.cell? ⟨Bs, bo, none⟩ = some (.slice A 0 c) := by
              have h3 : w.cell? ⟨Bs, bo + 0, none⟩ = some (.slice A 0 c) := CellsAt.cell (vs := [.slice A 0 c]) ⟨arr0, ty0, fr0, rest0, hb0, hd0⟩ rfl
              exact (hW.cell (p := ⟨Bs, bo, none⟩) (lt_of_heap hb0)).trans h3
            exact (back0 4 l Bs bo A c J W hBs h0).mono fun e W' ⟨he, hj⟩ => ⟨he, .inl ⟨_, rfl, hj⟩⟩
          · subst hk
            exact ⟨lt_of_heap hb0, hok1.2⟩
        | lst hsz hcp hs hk hb hd h1 hr2 =>
          rename_i ad c arr ty fr vs rest
          subst hes
          obtain ⟨b, off, sp⟩ := ad
          simp only at hs; subst hs
          rw [List.length_map] at hcell hcp
          obtain ⟨arr0, ty0, fr0, rest0, hb0, hd0⟩ := hcell
          have hcs : CellsAt w b off vs := ⟨arr, ty, fr, rest, hb, hd⟩
          have get : ∀ j o : Nat, j < ws.length → o < 3 → ∃ y, (flats (ws.map wyA))[j * 3 + o]? = some y ∧ (flat (wyA (wvA ws j)))[o]? = some y := by
            intro j o hj ho
            have hwj : ws[j]? = some ws[j] := List.getElem?_eq_getElem hj
            have e0 : wvA ws j = ws[j] := wvA_get hwj
            obtain ⟨rest, hdr⟩ := flats_get (es := ws.map wyA) hsz (i := j) (e := wyA (wvA ws j)) (by rw [List.getElem?_map, hwj, e0]; rfl)
            have hl3 : (flat (wyA (wvA ws j))).length = 3 := rfl
            obtain ⟨y, hy⟩ : ∃ y, (flat (wyA (wvA ws j)))[o]? = some y := ⟨_, List.getElem?_eq_getElem (by omega)⟩
            refine ⟨y, ?_, hy⟩
            rw [← List.getElem?_drop, hdr, List.getElem?_append_left (by omega)]
            exact hy
          have cell : ∀ j o : Nat, j < ws.length → o < 3 → ∀ n : Int, (flat (wyA (wvA ws j)))[o]? = some (ci n) → w.cell? ⟨b, off + (j * 3 + o), none⟩ = some (.int .i64 n) := by
            intro j o hj ho n hn
            obtain ⟨y, h3, h4⟩ := get j o hj ho
            rw [hn] at h4; cases h4
            obtain ⟨v, hv, hrv⟩ := hr2.get h3
            have : v = .int .i64 n := inv_s (RepV.of (φ := φ) (H := st.H) hrv)
            subst this
            exact hcs.cell hv
          refine ⟨_, fun k => k = Bs ∨ k = b, rfl, fun l J Jx W hW _ _ hY h0 => ?_, fun k hk' => ?_⟩
          · have hBs : W.cell? ⟨Bs, bo, none⟩ = some (.slice (some ⟨b, off, none⟩) ws.length c) := by
              have h3 : w.cell? ⟨Bs, bo + 0, none⟩ = some (.slice (some ⟨b, off, none⟩) ws.length c) := CellsAt.cell (vs := [.slice (some ⟨b, off, none⟩) ws.length c]) ⟨arr0, ty0, fr0, rest0, hb0, hd0⟩ rfl
              exact (hW.cell (p := ⟨Bs, bo, none⟩) (lt_of_heap hb0)).trans h3
            exact back1 4 l Bs bo b off ws.length c (fun j => .int .i64 ((wvA ws j).1 : Int)) (fun j => .int .i64 ((wvA ws j).2.1 : Int)) (fun j => .int .i64 ((wvA ws j).2.2 : Int)) _ (.inl rfl) (.inr rfl) (by omega) J Jx (by omega) hY W hBs
              (fun j hj => ⟨(hW.cell (p := ⟨b, off + j * 3, none⟩) (lt_of_heap hb)).trans (cell j 0 hj (by omega) _ rfl), (hW.cell (p := ⟨b, off + j * 3 + 1, none⟩) (lt_of_heap hb)).trans (cell j 1 hj (by omega) _ rfl), (hW.cell (p := ⟨b, off + j * 3 + 2, none⟩) (lt_of_heap hb)).trans (cell j 2 hj (by omega) _ rfl)⟩) h0
          · rcases hk' with rfl | rfl
            · exact ⟨lt_of_heap hb0, hok1.2⟩
            · exact ⟨lt_of_heap hb, hk.2⟩

theorem D_waysL (ns : List Int) (ps : List Pi) (s : Int) (hn : ns.length ≤ 17592186044416) (hp : ps.length ≤ 2513169434843) (hz : idSz ps) (ok : netOk ns ps) (hs : 0 ≤ s ∧ s < ns.length) :
    Den Try.prog 82 [.agg [.lst 1 (ns.map ci), .lst 6 (ps.map piA)], .s (.int .i64 s)] (.lst 3 ((waysF (ps.map pe) ns.length s.toNat).2.map wyA)) :=
  den_of_denX (D_impl_Network_ways ns ps s hn hp hz ok hs) (by change (some (.lst 3 (List.take (waysF (ps.map pe) ns.length s.toNat).2.length ((waysF (ps.map pe) ns.length s.toNat).2.map wyA))) : Option AV) = some (.lst 3 ((waysF (ps.map pe) ns.length s.toNat).2.map wyA)); rw [takeLen (by simp)])

-- slices.Backward[[]impl.way,impl.way]
theorem D_slices_Backward_impl_way_impl_way (ws : List (Nat × Nat × Nat))  : Den Try.prog 81 [.lst 3 (ws.map wyA)] (.fn 118 [.rp [.lst 3 (ws.map wyA)]]) := by
  refine den_of_good Try.func81 (by decide) rfl (Nat.le_of_ble_eq_true rfl) (Nat.le_of_ble_eq_true rfl) ?_
  refine good_seq fun K1 hK1 => ?_
  refine gr rfl ?_
  refine ev_k rfl (k_box (by conv=>lhs;whnf) rfl rfl rfl ?_)
  refine ea rfl (by conv=>lhs;whnf) ?_
  refine ev_nil (hK1 _ ?_); clear hK1
  refine good_seq fun K2 hK2 => ?_
  refine gr rfl ?_
  refine ev_q rfl (q_clo rfl rfl ?_)
  refine ea rfl (by conv=>lhs;whnf) ?_
  refine ev_nil (hK2 _ ?_); clear hK2
  refine good_ret ?_
  repeat first|refine thenQ_ret ?_|refine blockQ_ret ?_
  refine ret_tmp (st := _) rfl (by conv=>lhs;whnf) rfl ?_
  rfl

end Go.Proofs.Ytdnndlalflahhaa.DFnHydraulics
