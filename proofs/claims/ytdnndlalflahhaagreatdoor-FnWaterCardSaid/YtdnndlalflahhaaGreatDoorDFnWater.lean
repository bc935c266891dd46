/- Walks through the functions that FnWater reaches: what each answers. -/
import Derived.Test.YtdnndlalflahhaaGreatDoorDFnWatera
set_option linter.unusedVariables false
set_option linter.unusedSimpArgs false
set_option maxRecDepth 20000
set_option maxHeartbeats 2000000
namespace Go.Proofs.YtdnndlalflahhaaGreatDoor.DFnWater
open Go Go.RowKit Go.Proofs Go.Proofs.YtdnndlalflahhaaGreatDoor Go.Proofs.YtdnndlalflahhaaGreatDoor.Ev
-- laws.FnWater
theorem D_laws_FnWater (cs ds : List Int) (hb : byteL cs) (hb2 : byteL ds) : Den Tryz.prog 3 [.lst 1 (cs.map cb), .lst 1 (ds.map cb)] (.s (.bool true)) := by
  refine den_of_good Tryz.func3 (by decide) rfl (Nat.le_of_ble_eq_true rfl) (Nat.le_of_ble_eq_true rfl) ?_
  refine good_seq fun K1 hK1 => ?_
  refine gr rfl ?_
  refine ea rfl (by conv=>lhs;whnf) ?_
  refine ev_nil (hK1 _ ?_); clear hK1
  refine good_seq fun K2 hK2 => ?_
  refine good_seq fun K3 hK3 => ?_
  refine gr rfl ?_
  refine em rfl (by conv=>lhs;whnf) ?_
  refine ev_q rfl (q_callB rfl rfl (rfl) (D_laws_b10Long cs) ?_)
  intro b4 hb4; cases b4
  · first | replace hb4 := dF hb4 | skip
    refine em rfl (by conv=>lhs;whnf) ?_
    refine em rfl (by conv=>lhs;whnf) ?_
    refine ev_q rfl (q_callB rfl rfl (rfl) (D_laws_b10Long ds) ?_)
    intro b5 hb5; cases b5
    · first | replace hb5 := dF hb5 | skip
      refine ev_q rfl (q_pickF rfl (by conv=>lhs;whnf) ?_)
      refine ev_nil (hK3 _ ?_); clear hK3
      refine good_condF rfl ?_
      refine good_skip (hK2 _ ?_); clear hK2
      refine good_seq fun K6 hK6 => ?_
      refine gr rfl ?_
      refine em rfl (by conv=>lhs;whnf) ?_
      refine ev_k rfl (k_callR [] (D_spec_DrawWaterDensity cs (by omega) hb) rfl (rfl) (rfl) trivial rfl (by rintro t7 hx7_0; exact ⟨trivial, rfl⟩) rfl rfl ?_)
      rintro t7 hx7_0
      refine ea rfl (by conv=>lhs;whnf) ?_
      refine ev_nil (hK6 _ ?_); clear hK6
      refine good_seq fun K8 hK8 => ?_
      refine gr rfl ?_
      refine em rfl (by conv=>lhs;whnf) ?_
      refine ev_q rfl (q_call rfl rfl (rfl) (D_impl_WaterDensity _) rfl ?_)
      refine em rfl (by conv=>lhs;whnf) ?_
      refine ev_q rfl (q_extractI rfl rfl ?_)
      intro n9 hn9
      refine ev_q rfl (q_extractI rfl rfl ?_)
      intro n10 hn10
      refine ea rfl (by conv=>lhs;whnf) ?_
      refine ea rfl (by conv=>lhs;whnf) ?_
      refine ev_nil (hK8 _ ?_); clear hK8
      refine good_seq fun K11 hK11 => ?_
      refine gr rfl ?_
      refine em rfl (by conv=>lhs;whnf) ?_
      refine ei rfl rfl rfl ?_
      intro n12 hn12
      replace hn12 := in64 hn12 (by omega) (by omega)
      refine ev_q rfl (q_call rfl rfl (rfl) (D_impl_WaterDensity _) rfl ?_)
      refine em rfl (by conv=>lhs;whnf) ?_
      refine ev_q rfl (q_extractI rfl rfl ?_)
      intro n13 hn13
      refine ev_q rfl (q_extractI rfl rfl ?_)
      intro n14 hn14
      refine ea rfl (by conv=>lhs;whnf) ?_
      refine ea rfl (by conv=>lhs;whnf) ?_
      refine ev_nil (hK11 _ ?_); clear hK11
      refine good_join { env := upd (upd (upd ((fun _ => .junk)) 0 (.lst 1 (cs.map cb))) 1 (.lst 1 (ds.map cb))) 5 (.s (.int .i64 (t7))), H := (fun _ => none) } ?_ fun K15 hK15 => ?_
      · refine good_seq fun K16 hK16 => ?_
        refine gr rfl ?_
        refine em rfl (by conv=>lhs;whnf) ?_
        refine ev_q rfl (q_call rfl rfl (rfl) (D_impl_SteamPressure _) rfl ?_)
        refine em rfl (by conv=>lhs;whnf) ?_
        refine ev_q rfl (q_extractI rfl rfl ?_)
        intro n17 hn17
        refine ev_q rfl (q_extractI rfl rfl ?_)
        intro n18 hn18
        refine ea rfl (by conv=>lhs;whnf) ?_
        refine ea rfl (by conv=>lhs;whnf) ?_
        refine ev_nil (hK16 _ ?_); clear hK16
        refine good_join { env := upd (upd ((fun _ => .junk)) 0 (.lst 1 (cs.map cb))) 1 (.lst 1 (ds.map cb)), H := (fun _ => none) } ?_ fun K19 hK19 => ?_
        · refine good_seq fun K20 hK20 => ?_
          refine gr rfl ?_
          refine em rfl (by conv=>lhs;whnf) ?_
          refine ev_k rfl (k_callR [] (D_spec_DrawFlowForPower ds (by omega) hb2) rfl (rfl) (rfl) trivial rfl (by rintro ⟨p21, w21, c21⟩ ⟨hx21_0, hx21_1, hx21_2⟩; exact ⟨trivial, rfl⟩) rfl rfl ?_)
          rintro ⟨p21, w21, c21⟩ ⟨hx21_0, hx21_1, hx21_2⟩
          refine em rfl (by conv=>lhs;whnf) ?_
          refine ev_q rfl (q_extractI rfl rfl ?_)
          intro n22 hn22
          refine ev_q rfl (q_extractI rfl rfl ?_)
          intro n23 hn23
          refine ev_q rfl (q_extractI rfl rfl ?_)
          intro n24 hn24
          refine ea rfl (by conv=>lhs;whnf) ?_
          refine ea rfl (by conv=>lhs;whnf) ?_
          refine ea rfl (by conv=>lhs;whnf) ?_
          refine ev_nil (hK20 _ ?_); clear hK20
          refine good_seq fun K25 hK25 => ?_
          refine gr rfl ?_
          refine em rfl (by conv=>lhs;whnf) ?_
          refine em rfl (by conv=>lhs;whnf) ?_
          refine em rfl (by conv=>lhs;whnf) ?_
          refine ev_q rfl (q_call rfl rfl (rfl) (D_impl_FlowForPower _ _ _) rfl ?_)
          refine em rfl (by conv=>lhs;whnf) ?_
          refine ev_q rfl (q_extractI rfl rfl ?_)
          intro n26 hn26
          refine ev_q rfl (q_extractI rfl rfl ?_)
          intro n27 hn27
          refine ea rfl (by conv=>lhs;whnf) ?_
          refine ea rfl (by conv=>lhs;whnf) ?_
          refine ev_nil (hK25 _ ?_); clear hK25
          refine good_join { env := upd (upd ((fun _ => .junk)) 0 (.lst 1 (cs.map cb))) 1 (.lst 1 (ds.map cb)), H := (fun _ => none) } ?_ fun K28 hK28 => ?_
          · refine good_seq fun K29 hK29 => ?_
            refine gr rfl ?_
            refine em rfl (by conv=>lhs;whnf) ?_
            refine ev_k rfl (k_callR [] (D_spec_DrawDegreesText cs (by omega) hb) rfl (rfl) (rfl) trivial rfl (by rintro t30 hx30_0; exact ⟨trivial, rfl⟩) rfl rfl ?_)
            rintro t30 hx30_0
            refine ea rfl (by conv=>lhs;whnf) ?_
            refine ev_nil (hK29 _ ?_); clear hK29
            refine good_seq fun K31 hK31 => ?_
            refine gr rfl ?_
            refine em rfl (by conv=>lhs;whnf) ?_
            refine ev_q rfl (q_call rfl rfl (rfl) (D_impl_DegreesText _ (by omega)) rfl ?_)
            refine ea rfl (by conv=>lhs;whnf) ?_
            refine ev_nil (hK31 _ ?_); clear hK31
            refine good_seq fun K32 hK32 => ?_
            refine gr rfl ?_
            refine em rfl (by conv=>lhs;whnf) ?_
            refine ev_q rfl (q_call rfl rfl (rfl) (D_impl_ReadDegrees _) rfl ?_)
            refine em rfl (by conv=>lhs;whnf) ?_
            refine ev_q rfl (q_extractI rfl rfl ?_)
            intro n33 hn33
            refine ev_q rfl (q_extractB rfl rfl ?_)
            intro b34 hb34; cases b34
            · first | replace hb34 := dF hb34 | skip
              have hdg : dgO t30 = ⟨#[]⟩ := dgO_n hb34
              refine ea rfl (by conv=>lhs;whnf) ?_
              refine ea rfl (by conv=>lhs;whnf) ?_
              refine ev_nil (hK32 _ ?_); clear hK32
              refine good_seq fun K35 hK35 => ?_
              refine gr rfl ?_
              refine em rfl (by conv=>lhs;whnf) ?_
              refine ev_q rfl (q_str rfl rfl ?_)
              intro b36 hb36; cases b36
              · replace hb36 := seF hb36
                exfalso; exact hb36 hdg
              replace hb36 := seT hb36
              refine em rfl (by conv=>lhs;whnf) ?_
              refine em rfl (by conv=>lhs;whnf) ?_
              refine ev_q rfl (q_not rfl rfl ?_)
              refine ev_q rfl (q_pickT rfl (by conv=>lhs;whnf) ?_)
              refine em rfl (by conv=>lhs;whnf) ?_
              refine ev_skip rfl ?_
              refine ev_skip rfl ?_
              refine ev_skip rfl ?_
              refine ev_skip rfl ?_
              refine ev_skip rfl ?_
              refine ev_skip rfl ?_
              refine ev_skip rfl ?_
              refine ev_skip rfl ?_
              refine ev_skip rfl ?_
              refine ev_skip rfl ?_
              refine ev_q rfl (q_pickT rfl (by conv=>lhs;whnf) ?_)
              refine ea rfl (by conv=>lhs;whnf) ?_
              refine ev_nil (hK35 _ ?_); clear hK35
              refine good_ret ?_
              repeat first|refine thenQ_ret ?_|refine blockQ_ret ?_
              refine ret_tmp (st := _) rfl (by conv=>lhs;whnf) rfl ?_
              first | rfl | (exfalso; omega)
            · first | replace hb34 := dT hb34 | skip
              have hdg := dgT_ne t30
              rw [← dgO_y hb34] at hdg
              rw [if_pos hb34] at hn33
              refine ea rfl (by conv=>lhs;whnf) ?_
              refine ea rfl (by conv=>lhs;whnf) ?_
              refine ev_nil (hK32 _ ?_); clear hK32
              refine good_seq fun K37 hK37 => ?_
              refine gr rfl ?_
              refine em rfl (by conv=>lhs;whnf) ?_
              refine ev_q rfl (q_str rfl rfl ?_)
              intro b38 hb38; cases b38
              rotate_left
              · replace hb38 := seT hb38
                exfalso; exact hdg hb38
              replace hb38 := seF hb38
              refine em rfl (by conv=>lhs;whnf) ?_
              refine ev_skip rfl ?_
              refine ev_skip rfl ?_
              refine ev_q rfl (q_pickF rfl (by conv=>lhs;whnf) ?_)
              refine em rfl (by conv=>lhs;whnf) ?_
              refine em rfl (by conv=>lhs;whnf) ?_
              refine ev_q rfl (q_str rfl rfl ?_)
              intro b39 hb39; cases b39
              · replace hb39 := snF hb39
                exfalso; exact hdg hb39
              replace hb39 := snT hb39
              refine em rfl (by conv=>lhs;whnf) ?_
              refine em rfl (by conv=>lhs;whnf) ?_
              refine ev_q rfl (q_pickT rfl (by conv=>lhs;whnf) ?_)
              refine em rfl (by conv=>lhs;whnf) ?_
              refine em rfl (by conv=>lhs;whnf) ?_
              refine em rfl (by conv=>lhs;whnf) ?_
              refine ei rfl rfl rfl ?_
              intro b40 hb40; cases b40
              · replace hb40 := eqF hb40
                exfalso; omega
              replace hb40 := eqT hb40
              refine ev_q rfl (q_pickT rfl (by conv=>lhs;whnf) ?_)
              refine ev_q rfl (q_pickF rfl (by conv=>lhs;whnf) ?_)
              refine ea rfl (by conv=>lhs;whnf) ?_
              refine ev_nil (hK37 _ ?_); clear hK37
              refine good_ret ?_
              repeat first|refine thenQ_ret ?_|refine blockQ_ret ?_
              refine ret_tmp (st := _) rfl (by conv=>lhs;whnf) rfl ?_
              first | rfl | (exfalso; omega)
          · refine good_seq fun K41 hK41 => ?_
            refine gr rfl ?_
            refine em rfl (by conv=>lhs;whnf) ?_
            refine ei rfl rfl rfl ?_
            intro b42 hb42; cases b42
            · replace hb42 := eqF hb42
              refine ev_nil (hK41 _ ?_); clear hK41
              refine good_condF rfl ?_
              refine good_skip (hK28 _ ?_); clear hK28
              refine sub_weak ?_ ?_
              · exact weakH_none _
              · refine weakE_upd ?e1 ?r1 (weakE_upd ?e0 ?r0 (weakE_junk _ _))
                case e0 => first | rfl | exact fI (by omega) | (rfl)
                case r0 => intro h hh; cases hh
                case e1 => first | rfl | exact fI (by omega) | (rfl)
                case r1 => intro h hh; cases hh
            · replace hb42 := eqT hb42
              have hfl := ff_law (p := n22) (w := n23) (c := n24) (by omega)
              rw [← hn26] at hfl
              obtain ⟨ho, hq, hge, hlt⟩ := hfl
              have ho1 := ho.1
              have ho2 := ho.2.1
              have ho3 := ho.2.2
              refine ev_nil (hK41 _ ?_); clear hK41
              refine good_condT rfl ?_
              refine good_seq fun K43 hK43 => ?_
              refine gr rfl ?_
              refine em rfl (by conv=>lhs;whnf) ?_
              refine em rfl (by conv=>lhs;whnf) ?_
              refine em rfl (by conv=>lhs;whnf) ?_
              refine ev_q rfl (q_call rfl rfl (rfl) (D_impl_HeatPower _ _ _) rfl ?_)
              refine em rfl (by conv=>lhs;whnf) ?_
              refine ev_q rfl (q_extractI rfl rfl ?_)
              intro n44 hn44
              rw [if_pos ⟨by omega, by omega, by omega⟩] at hn44
              refine ev_q rfl (q_extractI rfl rfl ?_)
              intro n45 hn45
              rw [if_pos ⟨by omega, by omega, by omega⟩] at hn45
              refine ea rfl (by conv=>lhs;whnf) ?_
              refine ea rfl (by conv=>lhs;whnf) ?_
              refine ev_nil (hK43 _ ?_); clear hK43
              refine good_seq fun K46 hK46 => ?_
              refine gr rfl ?_
              refine em rfl (by conv=>lhs;whnf) ?_
              refine ei rfl rfl rfl ?_
              intro n47 hn47
              replace hn47 := in64 hn47 (by omega) (by omega)
              refine em rfl (by conv=>lhs;whnf) ?_
              refine em rfl (by conv=>lhs;whnf) ?_
              refine ev_q rfl (q_call rfl rfl (rfl) (D_impl_HeatPower _ _ _) rfl ?_)
              refine em rfl (by conv=>lhs;whnf) ?_
              refine ev_q rfl (q_extractI rfl rfl ?_)
              intro n48 hn48
              refine ev_q rfl (q_extractI rfl rfl ?_)
              intro n49 hn49
              refine ea rfl (by conv=>lhs;whnf) ?_
              refine ea rfl (by conv=>lhs;whnf) ?_
              refine ev_nil (hK46 _ ?_); clear hK46
              refine good_seq fun K50 hK50 => ?_
              refine gr rfl ?_
              refine em rfl (by conv=>lhs;whnf) ?_
              refine ei rfl rfl rfl ?_
              intro b51 hb51; cases b51
              · replace hb51 := neF hb51
                refine em rfl (by conv=>lhs;whnf) ?_
                refine em rfl (by conv=>lhs;whnf) ?_
                refine em rfl (by conv=>lhs;whnf) ?_
                refine ei rfl rfl rfl ?_
                intro b52 hb52; cases b52
                rotate_left
                · replace hb52 := dT hb52
                  exfalso; omega
                replace hb52 := dF hb52
                refine ev_q rfl (q_pickF rfl (by conv=>lhs;whnf) ?_)
                refine em rfl (by conv=>lhs;whnf) ?_
                refine em rfl (by conv=>lhs;whnf) ?_
                refine ei rfl rfl rfl ?_
                intro b53 hb53; cases b53
                · replace hb53 := dF hb53
                  refine em rfl (by conv=>lhs;whnf) ?_
                  refine ev_skip rfl ?_
                  refine ev_skip rfl ?_
                  refine ev_skip rfl ?_
                  refine ev_skip rfl ?_
                  refine ev_skip rfl ?_
                  refine ev_skip rfl ?_
                  refine ev_skip rfl ?_
                  refine ev_q rfl (q_pickF rfl (by conv=>lhs;whnf) ?_)
                  refine ev_q rfl (q_pickF rfl (by conv=>lhs;whnf) ?_)
                  refine ev_nil (hK50 _ ?_); clear hK50
                  refine good_condF rfl ?_
                  refine good_skip (hK28 _ ?_); clear hK28
                  refine sub_weak ?_ ?_
                  · exact weakH_none _
                  · refine weakE_upd ?e1 ?r1 (weakE_upd ?e0 ?r0 (weakE_junk _ _))
                    case e0 => first | rfl | exact fI (by omega) | (rfl)
                    case r0 => intro h hh; cases hh
                    case e1 => first | rfl | exact fI (by omega) | (rfl)
                    case r1 => intro h hh; cases hh
                · replace hb53 := dT hb53
                  rw [if_pos ⟨by omega, by omega, by omega⟩] at hn48 hn49
                  have q3 := hlt (by omega)
                  rw [show n26 - 1 = n47 by omega] at q3
                  refine em rfl (by conv=>lhs;whnf) ?_
                  refine em rfl (by conv=>lhs;whnf) ?_
                  refine ei rfl rfl rfl ?_
                  intro b54 hb54; cases b54
                  rotate_left
                  · replace hb54 := neT hb54
                    exfalso; omega
                  replace hb54 := neF hb54
                  refine em rfl (by conv=>lhs;whnf) ?_
                  refine em rfl (by conv=>lhs;whnf) ?_
                  refine em rfl (by conv=>lhs;whnf) ?_
                  refine ei rfl rfl rfl ?_
                  intro b55 hb55; cases b55
                  rotate_left
                  · replace hb55 := dT hb55
                    exfalso; omega
                  replace hb55 := dF hb55
                  refine ev_q rfl (q_pickF rfl (by conv=>lhs;whnf) ?_)
                  refine ev_q rfl (q_pickT rfl (by conv=>lhs;whnf) ?_)
                  refine ev_q rfl (q_pickF rfl (by conv=>lhs;whnf) ?_)
                  refine ev_nil (hK50 _ ?_); clear hK50
                  refine good_condF rfl ?_
                  refine good_skip (hK28 _ ?_); clear hK28
                  refine sub_weak ?_ ?_
                  · exact weakH_none _
                  · refine weakE_upd ?e1 ?r1 (weakE_upd ?e0 ?r0 (weakE_junk _ _))
                    case e0 => first | rfl | exact fI (by omega) | (rfl)
                    case r0 => intro h hh; cases hh
                    case e1 => first | rfl | exact fI (by omega) | (rfl)
                    case r1 => intro h hh; cases hh
              · replace hb51 := neT hb51
                refine em rfl (by conv=>lhs;whnf) ?_
                refine ev_skip rfl ?_
                refine ev_skip rfl ?_
                refine ev_skip rfl ?_
                refine ev_q rfl (q_pickT rfl (by conv=>lhs;whnf) ?_)
                refine em rfl (by conv=>lhs;whnf) ?_
                refine ev_skip rfl ?_
                refine ev_skip rfl ?_
                refine ev_skip rfl ?_
                refine ev_skip rfl ?_
                refine ev_skip rfl ?_
                refine ev_skip rfl ?_
                refine ev_skip rfl ?_
                refine ev_skip rfl ?_
                refine ev_skip rfl ?_
                refine ev_skip rfl ?_
                refine ev_skip rfl ?_
                refine ev_q rfl (q_pickT rfl (by conv=>lhs;whnf) ?_)
                refine ev_nil (hK50 _ ?_); clear hK50
                refine good_condT rfl ?_
                refine good_seq fun K56 hK56 => ?_
                refine gr rfl ?_
                refine ea rfl (by conv=>lhs;whnf) ?_
                refine ev_nil (hK56 _ ?_); clear hK56
                refine good_ret ?_
                repeat first|refine thenQ_ret ?_|refine blockQ_ret ?_
                refine ret_tmp (st := _) rfl (by conv=>lhs;whnf) rfl ?_
                clear hK28
                first | rfl | (exfalso; omega)
        · refine good_seq fun K57 hK57 => ?_
          refine gr rfl ?_
          refine em rfl (by conv=>lhs;whnf) ?_
          refine ei rfl rfl rfl ?_
          intro b58 hb58; cases b58
          · replace hb58 := eqF hb58
            refine ev_nil (hK57 _ ?_); clear hK57
            refine good_condF rfl ?_
            refine good_skip (hK19 _ ?_); clear hK19
            refine sub_weak ?_ ?_
            · exact weakH_none _
            · refine weakE_upd ?e1 ?r1 (weakE_upd ?e0 ?r0 (weakE_junk _ _))
              case e0 => first | rfl | exact fI (by omega) | (rfl)
              case r0 => intro h hh; cases hh
              case e1 => first | rfl | exact fI (by omega) | (rfl)
              case r1 => intro h hh; cases hh
          · replace hb58 := eqT hb58
            have hct : 0 ≤ t7 ∧ t7 ≤ 18000 := ifC0 hn18 (by omega)
            rw [if_pos hct] at hn17
            have hss := stm_spec t7
            rw [← hn17] at hss
            have hst : n17 ≤ 1200000 := by
              rcases Int.lt_or_le 1200000 n17 with hn | hn
              · have q := hss.2.2.1 1200000 (by omega) (by omega)
                rw [boil_top] at q; omega
              · exact hn
            have hs4 := hss.2.2.2 hst
            have hs3 := hss.2.2.1
            have hs1 := hss.1
            refine ev_nil (hK57 _ ?_); clear hK57
            refine good_condT rfl ?_
            refine good_seq fun K59 hK59 => ?_
            refine gr rfl ?_
            refine em rfl (by conv=>lhs;whnf) ?_
            refine ev_q rfl (q_call rfl rfl (rfl) (D_impl_BoilingAt _) rfl ?_)
            refine em rfl (by conv=>lhs;whnf) ?_
            refine ev_q rfl (q_extractI rfl rfl ?_)
            intro n60 hn60
            rw [if_pos (by omega)] at hn60
            have hbb := boil_bd n17
            refine ev_q rfl (q_extractI rfl rfl ?_)
            intro n61 hn61
            rw [if_pos (by omega)] at hn61
            refine ea rfl (by conv=>lhs;whnf) ?_
            refine ea rfl (by conv=>lhs;whnf) ?_
            refine ev_nil (hK59 _ ?_); clear hK59
            refine good_seq fun K62 hK62 => ?_
            refine gr rfl ?_
            refine em rfl (by conv=>lhs;whnf) ?_
            refine ei rfl rfl rfl ?_
            intro n63 hn63
            replace hn63 := in64 hn63 (by omega) (by omega)
            refine ev_q rfl (q_call rfl rfl (rfl) (D_impl_BoilingAt _) rfl ?_)
            refine em rfl (by conv=>lhs;whnf) ?_
            refine ev_q rfl (q_extractI rfl rfl ?_)
            intro n64 hn64
            refine ev_q rfl (q_extractI rfl rfl ?_)
            intro n65 hn65
            refine ea rfl (by conv=>lhs;whnf) ?_
            refine ea rfl (by conv=>lhs;whnf) ?_
            refine ev_nil (hK62 _ ?_); clear hK62
            refine good_seq fun K66 hK66 => ?_
            refine gr rfl ?_
            refine em rfl (by conv=>lhs;whnf) ?_
            refine em rfl (by conv=>lhs;whnf) ?_
            refine ev_q rfl (q_call rfl rfl (rfl) (D_impl_MarginTo _ _) rfl ?_)
            refine em rfl (by conv=>lhs;whnf) ?_
            refine ev_q rfl (q_extractI rfl rfl ?_)
            intro n67 hn67
            rw [if_pos (by omega)] at hn67
            refine ev_q rfl (q_extractI rfl rfl ?_)
            intro n68 hn68
            rw [if_pos (by omega)] at hn68
            refine ea rfl (by conv=>lhs;whnf) ?_
            refine ea rfl (by conv=>lhs;whnf) ?_
            refine ev_nil (hK66 _ ?_); clear hK66
            refine good_seq fun K69 hK69 => ?_
            refine gr rfl ?_
            refine em rfl (by conv=>lhs;whnf) ?_
            refine ei rfl rfl rfl ?_
            intro b70 hb70; cases b70
            rotate_left
            · replace hb70 := neT hb70
              exfalso; omega
            replace hb70 := neF hb70
            refine em rfl (by conv=>lhs;whnf) ?_
            refine em rfl (by conv=>lhs;whnf) ?_
            refine em rfl (by conv=>lhs;whnf) ?_
            refine ei rfl rfl rfl ?_
            intro b71 hb71; cases b71
            rotate_left
            · replace hb71 := dT hb71
              exfalso; omega
            replace hb71 := dF hb71
            refine ev_q rfl (q_pickF rfl (by conv=>lhs;whnf) ?_)
            refine em rfl (by conv=>lhs;whnf) ?_
            refine em rfl (by conv=>lhs;whnf) ?_
            refine ei rfl rfl rfl ?_
            intro b72 hb72; cases b72
            · replace hb72 := eqF hb72
              refine em rfl (by conv=>lhs;whnf) ?_
              refine ev_skip rfl ?_
              refine ev_skip rfl ?_
              refine ev_skip rfl ?_
              refine ev_q rfl (q_pickF rfl (by conv=>lhs;whnf) ?_)
              refine ev_q rfl (q_pickF rfl (by conv=>lhs;whnf) ?_)
              refine em rfl (by conv=>lhs;whnf) ?_
              refine em rfl (by conv=>lhs;whnf) ?_
              refine ei rfl rfl rfl ?_
              intro b73 hb73; cases b73
              rotate_left
              · replace hb73 := neT hb73
                exfalso; omega
              replace hb73 := neF hb73
              refine ev_q rfl (q_pickF rfl (by conv=>lhs;whnf) ?_)
              refine em rfl (by conv=>lhs;whnf) ?_
              refine em rfl (by conv=>lhs;whnf) ?_
              refine em rfl (by conv=>lhs;whnf) ?_
              refine em rfl (by conv=>lhs;whnf) ?_
              refine ei rfl rfl rfl ?_
              intro n74 hn74
              replace hn74 := in64 hn74 (by omega) (by omega)
              refine ei rfl rfl rfl ?_
              intro b75 hb75; cases b75
              rotate_left
              · replace hb75 := neT hb75
                exfalso; omega
              replace hb75 := neF hb75
              refine ev_q rfl (q_pickF rfl (by conv=>lhs;whnf) ?_)
              refine ev_nil (hK69 _ ?_); clear hK69
              refine good_condF rfl ?_
              refine good_skip (hK19 _ ?_); clear hK19
              refine sub_weak ?_ ?_
              · exact weakH_none _
              · refine weakE_upd ?e1 ?r1 (weakE_upd ?e0 ?r0 (weakE_junk _ _))
                case e0 => first | rfl | exact fI (by omega) | (rfl)
                case r0 => intro h hh; cases hh
                case e1 => first | rfl | exact fI (by omega) | (rfl)
                case r1 => intro h hh; cases hh
            · replace hb72 := eqT hb72
              have hc5 : 1000 ≤ n63 ∧ n63 ≤ 1200000 := ifC0 hn65 (by omega)
              rw [if_pos hc5] at hn64
              have q5 := hs3 n63 (by omega) (by omega)
              refine em rfl (by conv=>lhs;whnf) ?_
              refine em rfl (by conv=>lhs;whnf) ?_
              refine em rfl (by conv=>lhs;whnf) ?_
              refine ei rfl rfl rfl ?_
              intro b76 hb76; cases b76
              rotate_left
              · replace hb76 := dT hb76
                exfalso; omega
              replace hb76 := dF hb76
              refine ev_q rfl (q_pickT rfl (by conv=>lhs;whnf) ?_)
              refine ev_q rfl (q_pickF rfl (by conv=>lhs;whnf) ?_)
              refine em rfl (by conv=>lhs;whnf) ?_
              refine em rfl (by conv=>lhs;whnf) ?_
              refine ei rfl rfl rfl ?_
              intro b77 hb77; cases b77
              rotate_left
              · replace hb77 := neT hb77
                exfalso; omega
              replace hb77 := neF hb77
              refine ev_q rfl (q_pickF rfl (by conv=>lhs;whnf) ?_)
              refine em rfl (by conv=>lhs;whnf) ?_
              refine em rfl (by conv=>lhs;whnf) ?_
              refine em rfl (by conv=>lhs;whnf) ?_
              refine em rfl (by conv=>lhs;whnf) ?_
              refine ei rfl rfl rfl ?_
              intro n78 hn78
              replace hn78 := in64 hn78 (by omega) (by omega)
              refine ei rfl rfl rfl ?_
              intro b79 hb79; cases b79
              rotate_left
              · replace hb79 := neT hb79
                exfalso; omega
              replace hb79 := neF hb79
              refine ev_q rfl (q_pickF rfl (by conv=>lhs;whnf) ?_)
              refine ev_nil (hK69 _ ?_); clear hK69
              refine good_condF rfl ?_
              refine good_skip (hK19 _ ?_); clear hK19
              refine sub_weak ?_ ?_
              · exact weakH_none _
              · refine weakE_upd ?e1 ?r1 (weakE_upd ?e0 ?r0 (weakE_junk _ _))
                case e0 => first | rfl | exact fI (by omega) | (rfl)
                case r0 => intro h hh; cases hh
                case e1 => first | rfl | exact fI (by omega) | (rfl)
                case r1 => intro h hh; cases hh
      · refine good_seq fun K80 hK80 => ?_
        refine gr rfl ?_
        refine em rfl (by conv=>lhs;whnf) ?_
        refine ei rfl rfl rfl ?_
        intro b81 hb81; cases b81
        · replace hb81 := eqF hb81
          refine em rfl (by conv=>lhs;whnf) ?_
          refine ev_skip rfl ?_
          refine ev_skip rfl ?_
          refine ev_q rfl (q_pickF rfl (by conv=>lhs;whnf) ?_)
          refine em rfl (by conv=>lhs;whnf) ?_
          refine ev_skip rfl ?_
          refine ev_skip rfl ?_
          refine ev_skip rfl ?_
          refine ev_q rfl (q_pickF rfl (by conv=>lhs;whnf) ?_)
          refine ev_nil (hK80 _ ?_); clear hK80
          refine good_condF rfl ?_
          refine good_skip (hK15 _ ?_); clear hK15
          refine sub_weak ?_ ?_
          · exact weakH_none _
          · refine weakE_upd ?e5 ?r5 (weakE_upd ?e1 ?r1 (weakE_upd ?e0 ?r0 (weakE_junk _ _)))
            case e0 => first | rfl | exact fI (by omega) | (rfl)
            case r0 => intro h hh; cases hh
            case e1 => first | rfl | exact fI (by omega) | (rfl)
            case r1 => intro h hh; cases hh
            case e5 => first | rfl | exact fI (by omega) | (rfl)
            case r5 => intro h hh; cases hh
        · replace hb81 := eqT hb81
          have hc1 : 0 ≤ t7 ∧ t7 ≤ 18000 := ifC0 hn10 (by omega)
          rw [if_pos hc1] at hn9
          refine em rfl (by conv=>lhs;whnf) ?_
          refine em rfl (by conv=>lhs;whnf) ?_
          refine ei rfl rfl rfl ?_
          intro b82 hb82; cases b82
          · replace hb82 := eqF hb82
            refine ev_q rfl (q_pickT rfl (by conv=>lhs;whnf) ?_)
            refine em rfl (by conv=>lhs;whnf) ?_
            refine ev_skip rfl ?_
            refine ev_skip rfl ?_
            refine ev_skip rfl ?_
            refine ev_q rfl (q_pickF rfl (by conv=>lhs;whnf) ?_)
            refine ev_nil (hK80 _ ?_); clear hK80
            refine good_condF rfl ?_
            refine good_skip (hK15 _ ?_); clear hK15
            refine sub_weak ?_ ?_
            · exact weakH_none _
            · refine weakE_upd ?e5 ?r5 (weakE_upd ?e1 ?r1 (weakE_upd ?e0 ?r0 (weakE_junk _ _)))
              case e0 => first | rfl | exact fI (by omega) | (rfl)
              case r0 => intro h hh; cases hh
              case e1 => first | rfl | exact fI (by omega) | (rfl)
              case r1 => intro h hh; cases hh
              case e5 => first | rfl | exact fI (by omega) | (rfl)
              case r5 => intro h hh; cases hh
          · replace hb82 := eqT hb82
            have hc2 : 0 ≤ n12 ∧ n12 ≤ 18000 := ifC0 hn14 (by omega)
            rw [if_pos hc2] at hn13
            have hda := dens_anti (t := t7) (u := n12) (by omega) (by omega)
            refine ev_q rfl (q_pickT rfl (by conv=>lhs;whnf) ?_)
            refine em rfl (by conv=>lhs;whnf) ?_
            refine em rfl (by conv=>lhs;whnf) ?_
            refine em rfl (by conv=>lhs;whnf) ?_
            refine ei rfl rfl rfl ?_
            intro b83 hb83; cases b83
            rotate_left
            · replace hb83 := dT hb83
              exfalso; omega
            replace hb83 := dF hb83
            refine ev_q rfl (q_pickT rfl (by conv=>lhs;whnf) ?_)
            refine ev_nil (hK80 _ ?_); clear hK80
            refine good_condF rfl ?_
            refine good_skip (hK15 _ ?_); clear hK15
            refine sub_weak ?_ ?_
            · exact weakH_none _
            · refine weakE_upd ?e5 ?r5 (weakE_upd ?e1 ?r1 (weakE_upd ?e0 ?r0 (weakE_junk _ _)))
              case e0 => first | rfl | exact fI (by omega) | (rfl)
              case r0 => intro h hh; cases hh
              case e1 => first | rfl | exact fI (by omega) | (rfl)
              case r1 => intro h hh; cases hh
              case e5 => first | rfl | exact fI (by omega) | (rfl)
              case r5 => intro h hh; cases hh
    · first | replace hb5 := dT hb5 | skip
      refine ev_q rfl (q_pickF rfl (by conv=>lhs;whnf) ?_)
      refine ev_nil (hK3 _ ?_); clear hK3
      refine good_condT rfl ?_
      refine good_seq fun K84 hK84 => ?_
      refine gr rfl ?_
      refine ea rfl (by conv=>lhs;whnf) ?_
      refine ev_nil (hK84 _ ?_); clear hK84
      refine good_ret ?_
      repeat first|refine thenQ_ret ?_|refine blockQ_ret ?_
      refine ret_tmp (st := _) rfl (by conv=>lhs;whnf) rfl ?_
      clear hK2
      first | rfl | (exfalso; omega)
  · first | replace hb4 := dT hb4 | skip
    refine em rfl (by conv=>lhs;whnf) ?_
    refine ev_skip rfl ?_
    refine ev_skip rfl ?_
    refine ev_q rfl (q_pickT rfl (by conv=>lhs;whnf) ?_)
    refine ev_nil (hK3 _ ?_); clear hK3
    refine good_condT rfl ?_
    refine good_seq fun K85 hK85 => ?_
    refine gr rfl ?_
    refine ea rfl (by conv=>lhs;whnf) ?_
    refine ev_nil (hK85 _ ?_); clear hK85
    refine good_ret ?_
    repeat first|refine thenQ_ret ?_|refine blockQ_ret ?_
    refine ret_tmp (st := _) rfl (by conv=>lhs;whnf) rfl ?_
    clear hK2
    first | rfl | (exfalso; omega)

end Go.Proofs.YtdnndlalflahhaaGreatDoor.DFnWater
