/- Walks through the functions that FnWays reaches: what each answers. -/
import Derived.Test.YtkgnbjgnddfojaaDFnWaysc
set_option linter.unusedVariables false
set_option linter.unusedSimpArgs false
set_option maxRecDepth 20000
set_option maxHeartbeats 2000000
namespace Go.Proofs.Ytkgnbjgnddfojaa.DFnWays
open Go Go.RowKit Go.Proofs Go.Proofs.Ytkgnbjgnddfojaa Go.Proofs.Ytkgnbjgnddfojaa.Ev
-- laws.FnWays
set_option maxHeartbeats 4000000 in
theorem D_laws_FnWays (cs ds : List Int) (hb : byteL cs) (hb2 : byteL ds) : Den Try.prog 5 [.lst 1 (cs.map cb), .lst 1 (ds.map cb)] (.s (.bool true)) := by
  refine den_of_good Try.func5 (by decide) rfl (Nat.le_of_ble_eq_true rfl) (Nat.le_of_ble_eq_true rfl) ?_
  refine good_seq fun K1 hK1 => ?_
  refine gr rfl ?_
  refine ea rfl (by conv=>lhs;whnf) ?_
  refine ev_nil (hK1 _ ?_); clear hK1
  refine good_seq fun K2 hK2 => ?_
  refine good_seq fun K3 hK3 => ?_
  refine gr rfl ?_
  refine em rfl (by conv=>lhs;whnf) ?_
  refine ev_q rfl (q_callB rfl rfl (rfl) (D_laws_b10Long _) ?_)
  intro b4 hb4; cases b4
  · first | replace hb4 := dF hb4 | skip
    refine em rfl (by conv=>lhs;whnf) ?_
    refine em rfl (by conv=>lhs;whnf) ?_
    refine ev_q rfl (q_callB rfl rfl (rfl) (D_laws_b10Long _) ?_)
    intro b5 hb5; cases b5
    · first | replace hb5 := dF hb5 | skip
      refine ev_q rfl (q_pickF rfl (by conv=>lhs;whnf) ?_)
      refine ev_nil (hK3 _ ?_); clear hK3
      refine good_condF rfl ?_
      refine good_skip (hK2 _ ?_); clear hK2
      refine good_seq fun K6 hK6 => ?_
      refine gr rfl ?_
      refine em rfl (by conv=>lhs;whnf) ?_
      refine ev_k rfl (k_callR [] (D_spec_DrawPathOf cs (by omega) hb) rfl (rfl) (rfl) trivial rfl (by rintro ⟨n7, W7, j7, m7, p7, q7⟩ hx7_0; exact ⟨trivial, rfl⟩) rfl rfl ?_)
      rintro ⟨n7, W7, j7, m7, p7, q7⟩ hx7_0
      obtain ⟨hn20, hjm, hWz⟩ := hx7_0
      have hpl : ((W7.drop j7).take m7).length ≤ 30 := by rw [List.length_take, List.length_drop]; omega
      have hz : idSz ((W7.drop j7).take m7) := idZ_dt hWz
      clear hWz
      refine em rfl (by conv=>lhs;whnf) ?_
      refine ev_q rfl (q_extract rfl rfl ?_)
      refine ev_q rfl (q_extractI rfl rfl ?_)
      intro n8 hn8
      refine ev_q rfl (q_extractI rfl rfl ?_)
      intro n9 hn9
      refine ev_k rfl (k_alloc zA31 rfl ?_)
      refine ev_k rfl (k_store sz31 rfl (by conv=>lhs;whnf) rfl rfl rfl (Nat.le_of_ble_eq_true rfl) rfl ?_)
      refine ea rfl (by conv=>lhs;whnf) ?_
      refine ea rfl (by conv=>lhs;whnf) ?_
      refine ev_nil (hK6 _ ?_); clear hK6
      refine good_seq fun K10 hK10 => ?_
      refine gr rfl ?_
      refine ev_q rfl (q_loadA tA31 rfl rfl rfl ?_)
      refine em rfl (by conv=>lhs;whnf) ?_
      refine em rfl (by conv=>lhs;whnf) ?_
      refine ev_k rfl (k_callR [] (D_impl_PathOf n7 ((W7.drop j7).take m7) n8 n9 (by omega) (by omega) hz) rfl (rfl) (rfl) trivial rfl (by rintro ⟨L11, c11⟩ hx11_0; exact ⟨trivial, rfl⟩) rfl rfl ?_)
      rintro ⟨L11, c11⟩ hx11_0
      have hx38 := hx11_0
      refine em rfl (by conv=>lhs;whnf) ?_
      refine ev_q rfl (q_extract rfl rfl ?_)
      refine ev_q rfl (q_extractI rfl rfl ?_)
      intro n12 hn12
      refine ea rfl (by conv=>lhs;whnf) ?_
      refine ea rfl (by conv=>lhs;whnf) ?_
      refine ev_nil (hK10 _ ?_); clear hK10
      refine good_join { env := upd ((fun _ => .junk)) 1 (.lst 1 (ds.map cb)), H := (fun _ => none) } ?_ fun K13 hK13 => ?_
      · refine good_seq fun K14 hK14 => ?_
        refine gr rfl ?_
        refine em rfl (by conv=>lhs;whnf) ?_
        refine ev_k rfl (k_callR [] (D_spec_DrawReachedWithout ds (by omega) hb2) rfl (rfl) (rfl) trivial rfl (by rintro ⟨n15, W15, j15, m15, p15, cl15⟩ hx15_0; exact ⟨trivial, rfl⟩) rfl rfl ?_)
        rintro ⟨n15, W15, j15, m15, p15, cl15⟩ hx15_0
        obtain ⟨hn24, ⟨hjm4, hWz4⟩, hcl4⟩ := hx15_0
        have hpl4 : ((W15.drop j15).take m15).length ≤ 30 := by rw [List.length_take, List.length_drop]; omega
        have hz4 : idSz ((W15.drop j15).take m15) := idZ_dt hWz4
        clear hWz4
        refine em rfl (by conv=>lhs;whnf) ?_
        refine ev_q rfl (q_extract rfl rfl ?_)
        refine ev_q rfl (q_extractI rfl rfl ?_)
        intro n16 hn16
        refine ev_q rfl (q_extract rfl rfl ?_)
        refine ev_k rfl (k_alloc zA31 rfl ?_)
        refine ev_k rfl (k_store sz31 rfl (by conv=>lhs;whnf) rfl rfl rfl (Nat.le_of_ble_eq_true rfl) rfl ?_)
        refine ea rfl (by conv=>lhs;whnf) ?_
        refine ea rfl (by conv=>lhs;whnf) ?_
        refine ev_nil (hK14 _ ?_); clear hK14
        refine good_seq fun K17 hK17 => ?_
        refine gr rfl ?_
        refine ev_q rfl (q_loadA tA31 rfl rfl rfl ?_)
        refine em rfl (by conv=>lhs;whnf) ?_
        refine em rfl (by conv=>lhs;whnf) ?_
        refine ev_q rfl (q_call rfl rfl (rfl) (D_impl_ReachedWithout n15 ((W15.drop j15).take m15) n16 cl15 (by omega) (by omega) hz4 (by omega)) rfl ?_)
        refine em rfl (by conv=>lhs;whnf) ?_
        refine ev_q rfl (q_extract rfl rfl ?_)
        refine ev_q rfl (q_extractI rfl rfl ?_)
        intro n18 hn18
        refine ea rfl (by conv=>lhs;whnf) ?_
        refine ea rfl (by conv=>lhs;whnf) ?_
        refine ev_nil (hK17 _ ?_); clear hK17
        refine good_seq fun K19 hK19 => ?_
        refine good_seq fun K20 hK20 => ?_
        refine gr rfl ?_
        refine em rfl (by conv=>lhs;whnf) ?_
        refine ei rfl rfl rfl ?_
        intro b21 hb21; cases b21
        · replace hb21 := neF hb21
          have hrle := rwR_le (ns := n15) (ps := ((W15.drop j15).take m15)) (s := n16) (cl := cl15)
          have hrw : rwC n15 ((W15.drop j15).take m15) n16 cl15 = 0 := by omega
          have hrs := rwR_src hrw
          refine ev_nil (hK20 _ ?_); clear hK20
          refine good_condF rfl ?_
          refine good_skip (hK19 _ ?_); clear hK19
          refine good_seq fun K22 hK22 => ?_
          refine good_seq fun K23 hK23 => ?_
          refine gr rfl ?_
          refine em rfl (by conv=>lhs;whnf) ?_
          refine em rfl (by conv=>lhs;whnf) ?_
          refine ev_q rfl (q_callB rfl rfl (rfl) (D_laws_b10Has (rwR n15 ((W15.drop j15).take m15) n16 cl15) n16 (by have := rwR_le (ns := n15) (ps := ((W15.drop j15).take m15)) (s := n16) (cl := cl15); omega)) ?_)
          intro b24 hb24; cases b24
          · first | replace hb24 := dF hb24 | skip
            exfalso; exact absurd hrs (by assumption)
          first | replace hb24 := dT hb24 | skip
          refine ev_q rfl (q_not rfl rfl ?_)
          refine em rfl (by conv=>lhs;whnf) ?_
          refine em rfl (by conv=>lhs;whnf) ?_
          refine ev_q rfl (q_fieldAddrP fO31_0 rfl rfl ?_)
          refine ev_q rfl (q_load tA22 rfl ?_)
          refine ev_q rfl (q_len tEs22 rfl ?_)
          intro n25 hn25
          try simp only [List.length_map] at hn25
          refine ev_q rfl (q_callB rfl rfl (rfl) (D_laws_b10Rises (rwR n15 ((W15.drop j15).take m15) n16 cl15) n25 (by omega) (rwR_rises hrw (by omega))) ?_)
          intro b26 hb26; cases b26
          · first | replace hb26 := dF hb26 | skip
            exfalso; exact absurd (by assumption : false = true) (by decide)
          first | replace hb26 := dT hb26 | skip
          refine ev_q rfl (q_not rfl rfl ?_)
          refine ev_q rfl (q_pickF rfl (by conv=>lhs;whnf) ?_)
          refine ev_nil (hK23 _ ?_); clear hK23
          refine good_condF rfl ?_
          refine good_skip (hK22 _ ?_); clear hK22
          refine good_seq fun K27 hK27 => ?_
          refine good_seq fun K28 hK28 => ?_
          refine gr rfl ?_
          refine ea rfl (by conv=>lhs;whnf) ?_
          refine ev_nil (hK28 _ ?_); clear hK28
          refine good_block ?_
          refine good_loop (α := Nat) (fun i => { env := upd (upd (upd (upd ((fun _ => .junk)) 16 (.ptr 16 0)) 18 (.lst 1 (cl15.map ci))) 19 (.lst 1 ((rwR n15 ((W15.drop j15).take m15) n16 cl15).map ci))) 21 (.s (.int .i64 ((i : Int)))), H := upd ((fun _ => none)) 16 (some (.box 31 [.lst 1 (n15.map ci), .lst 6 (((W15.drop j15).take m15).map piA)])) }) (fun i => i ≤ ((W15.drop j15).take m15).length) (fun i => ((W15.drop j15).take m15).length - i) 0 ?_ ?_ ?_
          · exact Nat.zero_le _
          · refine sub_weak ?_ ?_
            · exact weakH_box (boxEq (rfl)) rfl (weakH_none _)
            · refine weakE_upd ?e21 ?r21 (weakE_upd ?e19 ?r19 (weakE_upd ?e18 ?r18 (weakE_upd ?e16 ?r16 (weakE_junk _ _))))
              case e16 => first | rfl | exact fI (by omega) | (simp_all)
              case r16 => intro h hh; simp [refs] at hh; subst hh; rfl
              case e18 => first | rfl | exact fI (by omega) | (simp_all)
              case r18 => intro h hh; cases hh
              case e19 => first | rfl | exact fI (by omega) | (simp_all)
              case r19 => intro h hh; cases hh
              case e21 => first | rfl | exact fI (by omega) | (simp_all)
              case r21 => intro h hh; cases hh
          · rintro i hI
            refine good_seq fun K29 hK29 => ?_
            refine good_seq fun K30 hK30 => ?_
            refine gr rfl ?_
            refine em rfl (by conv=>lhs;whnf) ?_
            refine ev_q rfl (q_fieldAddrP fO31_1 rfl rfl ?_)
            refine ev_q rfl (q_load tA29 rfl ?_)
            refine ev_q rfl (q_len tEs29 rfl ?_)
            intro n31 hn31
            try simp only [List.length_map] at hn31
            refine ei rfl rfl rfl ?_
            intro b32 hb32; cases b32
            · replace hb32 := dF hb32
              refine ev_nil (hK30 _ ?_); clear hK30
              refine good_condF rfl ?_
              refine good_exit ?_
              repeat first|refine thenQ_exit ?_|refine blockQ_pass rfl ?_
              refine blockQ_exit (hK27 _ ?_); clear hK27
              refine good_seq fun K33 hK33 => ?_
              refine gr rfl ?_
              refine ea rfl (by conv=>lhs;whnf) ?_
              refine ev_nil (hK33 _ ?_); clear hK33
              refine good_ret ?_
              repeat first|refine thenQ_ret ?_|refine blockQ_ret ?_
              refine ret_tmp (st := _) rfl (by conv=>lhs;whnf) rfl ?_
              clear hK29
              first | rfl | (exfalso; omega)
            · replace hb32 := dT hb32
              refine ev_nil (hK30 _ ?_); clear hK30
              refine good_condT rfl ?_
              refine good_skip (hK29 _ ?_); clear hK29
              refine good_seq fun K34 hK34 => ?_
              refine good_block ?_
              refine good_seq fun K35 hK35 => ?_
              refine good_draw 23 hmix (by kernel_rfl) rfl ?_
              obtain ⟨p, hpp⟩ := getL (xs := ((W15.drop j15).take m15)) (n := (i : Int)) (by omega) (by omega)
              replace hpp : ((W15.drop j15).take m15)[i]? = some p := hpp
              refine qm rfl (by conv=>lhs;whnf) ?_
              refine qm rfl (by conv=>lhs;whnf) ?_
              refine qo_q rfl (q_callB rfl rfl (rfl) (D_laws_b10Has cl15 (i : Int) (by omega)) ?_)
              intro b36 hb36; cases b36
              · first | replace hb36 := dF hb36 | skip
                refine qo_q rfl (q_not rfl rfl ?_)
                refine qm rfl (by conv=>lhs;whnf) ?_
                refine qm rfl (by conv=>lhs;whnf) ?_
                refine qo_q rfl (q_fieldAddrP fO31_1 rfl rfl ?_)
                refine qo_q rfl (q_load tA29 rfl ?_)
                refine qm rfl (by conv=>lhs;whnf) ?_
                refine qo_q rfl (q_idx tE29 rfl rfl (by first | exact Int.natCast_nonneg _ | omega) (by exact map_get hpp) rfl ?_)
                refine qo_q rfl (q_fieldAddr fO59_1 rfl rfl ?_)
                refine qo_q rfl (q_load tA2 rfl ?_)
                refine qo_q rfl (q_callB rfl rfl (rfl) (D_laws_b10Has (rwR n15 ((W15.drop j15).take m15) n16 cl15) p.fm (by omega)) ?_)
                intro b37 hb37; cases b37
                · first | replace hb37 := dF hb37 | skip
                  refine qm rfl (by conv=>lhs;whnf) ?_
                  refine qo_q rfl (q_fieldAddrP fO31_1 rfl rfl ?_)
                  refine qo_q rfl (q_load tA29 rfl ?_)
                  refine qm rfl (by conv=>lhs;whnf) ?_
                  refine qo_q rfl (q_idx tE29 rfl rfl (by first | exact Int.natCast_nonneg _ | omega) (by exact map_get hpp) rfl ?_)
                  refine qo_q rfl (q_fieldAddr fO59_2 rfl rfl ?_)
                  refine qo_q rfl (q_load tA2 rfl ?_)
                  refine qo_q rfl (q_callB rfl rfl (rfl) (D_laws_b10Has (rwR n15 ((W15.drop j15).take m15) n16 cl15) p.tt (by omega)) ?_)
                  intro b38 hb38; cases b38
                  rotate_left
                  · first | replace hb38 := dT hb38 | skip
                    exfalso; exact absurd ((rwR_pipe hrw hpp (by assumption)).2 (by assumption)) (by assumption)
                  first | replace hb38 := dF hb38 | skip
                  refine qo_q rfl (q_bne tB4 rfl rfl ?_)
                  intro b39 hb39; replace hb39 : b39 = false := hb39; subst hb39
                  refine qo_q rfl (q_pickT rfl (by conv=>lhs;whnf) ?_)
                  refine qo_nil ?_
                  refine ev_nil (hK35 _ ?_); clear hK35
                  refine good_condF rfl ?_
                  refine good_skip (hK34 _ ?_); clear hK34
                  refine gr rfl ?_
                  refine em rfl (by conv=>lhs;whnf) ?_
                  refine ei rfl rfl rfl ?_
                  intro n40 hn40
                  replace hn40 := in64 hn40 (by omega) (by omega)
                  refine ea rfl (by conv=>lhs;whnf) ?_
                  refine ev_nil ?_
                  clear hK27
                  refine ⟨i + 1, ?_, ?_, ?_⟩
                  · show _ ≤ _; omega
                  · first | omega | (simp only []; omega) | (dsimp only; omega)
                  · refine sub_weak ?_ ?_
                    · exact weakH_box (boxEq (rfl)) rfl (weakH_none _)
                    · refine weakE_upd ?e21 ?r21 (weakE_upd ?e19 ?r19 (weakE_upd ?e18 ?r18 (weakE_upd ?e16 ?r16 (weakE_junk _ _))))
                      case e16 => first | rfl | exact fI (by omega) | (simp_all)
                      case r16 => intro h hh; simp [refs] at hh; subst hh; rfl
                      case e18 => first | rfl | exact fI (by omega) | (simp_all)
                      case r18 => intro h hh; cases hh
                      case e19 => first | rfl | exact fI (by omega) | (simp_all)
                      case r19 => intro h hh; cases hh
                      case e21 => first | rfl | exact fI (by omega) | (simp_all)
                      case r21 => intro h hh; cases hh
                · first | replace hb37 := dT hb37 | skip
                  refine qm rfl (by conv=>lhs;whnf) ?_
                  refine qo_q rfl (q_fieldAddrP fO31_1 rfl rfl ?_)
                  refine qo_q rfl (q_load tA29 rfl ?_)
                  refine qm rfl (by conv=>lhs;whnf) ?_
                  refine qo_q rfl (q_idx tE29 rfl rfl (by first | exact Int.natCast_nonneg _ | omega) (by exact map_get hpp) rfl ?_)
                  refine qo_q rfl (q_fieldAddr fO59_2 rfl rfl ?_)
                  refine qo_q rfl (q_load tA2 rfl ?_)
                  refine qo_q rfl (q_callB rfl rfl (rfl) (D_laws_b10Has (rwR n15 ((W15.drop j15).take m15) n16 cl15) p.tt (by omega)) ?_)
                  intro b41 hb41; cases b41
                  · first | replace hb41 := dF hb41 | skip
                    exfalso; exact absurd ((rwR_pipe hrw hpp (by assumption)).1 (by assumption)) (by assumption)
                  first | replace hb41 := dT hb41 | skip
                  refine qo_q rfl (q_bne tB4 rfl rfl ?_)
                  intro b42 hb42; replace hb42 : b42 = false := hb42; subst hb42
                  refine qo_q rfl (q_pickT rfl (by conv=>lhs;whnf) ?_)
                  refine qo_nil ?_
                  refine ev_nil (hK35 _ ?_); clear hK35
                  refine good_condF rfl ?_
                  refine good_skip (hK34 _ ?_); clear hK34
                  refine gr rfl ?_
                  refine em rfl (by conv=>lhs;whnf) ?_
                  refine ei rfl rfl rfl ?_
                  intro n43 hn43
                  replace hn43 := in64 hn43 (by omega) (by omega)
                  refine ea rfl (by conv=>lhs;whnf) ?_
                  refine ev_nil ?_
                  clear hK27
                  refine ⟨i + 1, ?_, ?_, ?_⟩
                  · show _ ≤ _; omega
                  · first | omega | (simp only []; omega) | (dsimp only; omega)
                  · refine sub_weak ?_ ?_
                    · exact weakH_box (boxEq (rfl)) rfl (weakH_none _)
                    · refine weakE_upd ?e21 ?r21 (weakE_upd ?e19 ?r19 (weakE_upd ?e18 ?r18 (weakE_upd ?e16 ?r16 (weakE_junk _ _))))
                      case e16 => first | rfl | exact fI (by omega) | (simp_all)
                      case r16 => intro h hh; simp [refs] at hh; subst hh; rfl
                      case e18 => first | rfl | exact fI (by omega) | (simp_all)
                      case r18 => intro h hh; cases hh
                      case e19 => first | rfl | exact fI (by omega) | (simp_all)
                      case r19 => intro h hh; cases hh
                      case e21 => first | rfl | exact fI (by omega) | (simp_all)
                      case r21 => intro h hh; cases hh
              · first | replace hb36 := dT hb36 | skip
                refine qo_q rfl (q_not rfl rfl ?_)
                refine qm rfl (by conv=>lhs;whnf) ?_
                refine qo_skip rfl ?_
                refine qo_skip rfl ?_
                refine qo_skip rfl ?_
                refine qo_skip rfl ?_
                refine qo_skip rfl ?_
                refine qo_skip rfl ?_
                refine qo_skip rfl ?_
                refine qo_skip rfl ?_
                refine qo_skip rfl ?_
                refine qo_skip rfl ?_
                refine qo_skip rfl ?_
                refine qo_skip rfl ?_
                refine qo_skip rfl ?_
                refine qo_skip rfl ?_
                refine qo_skip rfl ?_
                refine qo_skip rfl ?_
                refine qo_skip rfl ?_
                refine qo_q rfl (q_pickF rfl (by conv=>lhs;whnf) ?_)
                refine qo_nil ?_
                refine ev_nil (hK35 _ ?_); clear hK35
                refine good_condF rfl ?_
                refine good_skip (hK34 _ ?_); clear hK34
                refine gr rfl ?_
                refine em rfl (by conv=>lhs;whnf) ?_
                refine ei rfl rfl rfl ?_
                intro n44 hn44
                replace hn44 := in64 hn44 (by omega) (by omega)
                refine ea rfl (by conv=>lhs;whnf) ?_
                refine ev_nil ?_
                clear hK27
                refine ⟨i + 1, ?_, ?_, ?_⟩
                · show _ ≤ _; omega
                · first | omega | (simp only []; omega) | (dsimp only; omega)
                · refine sub_weak ?_ ?_
                  · exact weakH_box (boxEq (rfl)) rfl (weakH_none _)
                  · refine weakE_upd ?e21 ?r21 (weakE_upd ?e19 ?r19 (weakE_upd ?e18 ?r18 (weakE_upd ?e16 ?r16 (weakE_junk _ _))))
                    case e16 => first | rfl | exact fI (by omega) | (simp_all)
                    case r16 => intro h hh; simp [refs] at hh; subst hh; rfl
                    case e18 => first | rfl | exact fI (by omega) | (simp_all)
                    case r18 => intro h hh; cases hh
                    case e19 => first | rfl | exact fI (by omega) | (simp_all)
                    case r19 => intro h hh; cases hh
                    case e21 => first | rfl | exact fI (by omega) | (simp_all)
                    case r21 => intro h hh; cases hh
        · replace hb21 := neT hb21
          have hr0 := rwR_0 (ns := n15) (ps := ((W15.drop j15).take m15)) (s := n16) (cl := cl15) (by omega)
          refine ev_nil (hK20 _ ?_); clear hK20
          refine good_condT rfl ?_
          refine good_seq fun K45 hK45 => ?_
          refine gr rfl ?_
          refine em rfl (by conv=>lhs;whnf) ?_
          refine ev_q rfl (q_len tEs22 rfl ?_)
          intro n46 hn46
          try simp only [List.length_map] at hn46
          refine ei rfl rfl rfl ?_
          intro b47 hb47; cases b47
          · replace hb47 := eqF hb47
            exfalso; omega
          replace hb47 := eqT hb47
          refine ea rfl (by conv=>lhs;whnf) ?_
          refine ev_nil (hK45 _ ?_); clear hK45
          refine good_ret ?_
          repeat first|refine thenQ_ret ?_|refine blockQ_ret ?_
          refine ret_tmp (st := _) rfl (by conv=>lhs;whnf) rfl ?_
          clear hK19
          first | rfl | (exfalso; omega)
      · refine good_seq fun K48 hK48 => ?_
        refine gr rfl ?_
        refine em rfl (by conv=>lhs;whnf) ?_
        refine ei rfl rfl rfl ?_
        intro b49 hb49; cases b49
        · replace hb49 := eqF hb49
          refine ev_nil (hK48 _ ?_); clear hK48
          refine good_condF rfl ?_
          refine good_skip (hK13 _ ?_); clear hK13
          refine sub_weak ?_ ?_
          · exact weakH_none _
          · refine weakE_upd ?e1 ?r1 (weakE_junk _ _)
            case e1 => first | rfl | exact fI (by omega) | (rfl)
            case r1 => intro h hh; cases hh
        · replace hb49 := eqT hb49
          obtain ⟨ok, hab, hfa, hPW⟩ := pt_ok hx38 (by omega)
          have hLf := pt_len ok hab.2 hPW
          obtain ⟨P, hP0, hPl, hPT, hPi⟩ := id hPW
          have hiff := pw_iff ok hab.2 hP0 hPl hLf
          have hfr := ((far_ok (es := ((W7.drop j7).take m7).map pe) (n := n7.length) (t := n9.toNat) (esF_lt ok) (by omega)).r n8.toNat (by omega)).2
          refine ev_nil (hK48 _ ?_); clear hK48
          refine good_condT rfl ?_
          refine good_seq fun K50 hK50 => ?_
          refine gr rfl ?_
          refine ev_q rfl (q_loadA tA31 rfl rfl rfl ?_)
          refine em rfl (by conv=>lhs;whnf) ?_
          refine em rfl (by conv=>lhs;whnf) ?_
          refine ev_k rfl (k_callR [] (D_impl_PathOf n7 ((W7.drop j7).take m7) n9 n8 (by omega) (by omega) hz) rfl (rfl) (rfl) trivial rfl (by rintro ⟨L51, c51⟩ hx51_0; exact ⟨trivial, rfl⟩) rfl rfl ?_)
          rintro ⟨L51, c51⟩ hx51_0
          have hx47 := pt_back ok hab hfa hPW hx51_0
          refine em rfl (by conv=>lhs;whnf) ?_
          refine ev_q rfl (q_extract rfl rfl ?_)
          refine ev_q rfl (q_extractI rfl rfl ?_)
          intro n52 hn52
          refine ea rfl (by conv=>lhs;whnf) ?_
          refine ea rfl (by conv=>lhs;whnf) ?_
          refine ev_nil (hK50 _ ?_); clear hK50
          refine good_seq fun K53 hK53 => ?_
          refine good_seq fun K54 hK54 => ?_
          refine gr rfl ?_
          refine em rfl (by conv=>lhs;whnf) ?_
          refine ei rfl rfl rfl ?_
          intro b55 hb55; cases b55
          rotate_left
          · replace hb55 := neT hb55
            exfalso; omega
          replace hb55 := neF hb55
          refine em rfl (by conv=>lhs;whnf) ?_
          refine em rfl (by conv=>lhs;whnf) ?_
          refine ev_q rfl (q_len tEs22 rfl ?_)
          intro n56 hn56
          try simp only [List.length_map] at hn56
          refine em rfl (by conv=>lhs;whnf) ?_
          refine ev_q rfl (q_len tEs22 rfl ?_)
          intro n57 hn57
          try simp only [List.length_map] at hn57
          refine ei rfl rfl rfl ?_
          intro b58 hb58; cases b58
          rotate_left
          · replace hb58 := neT hb58
            exfalso; omega
          replace hb58 := neF hb58
          refine ev_q rfl (q_pickF rfl (by conv=>lhs;whnf) ?_)
          refine em rfl (by conv=>lhs;whnf) ?_
          refine em rfl (by conv=>lhs;whnf) ?_
          refine em rfl (by conv=>lhs;whnf) ?_
          refine ev_q rfl (q_callI rfl rfl (rfl) (D_laws_b10Walk n7 ((W7.drop j7).take m7) L11 n8 P (by omega) (by omega) hP0 hPT (by omega)) ?_)
          intro n59 hn59
          refine em rfl (by conv=>lhs;whnf) ?_
          refine ei rfl rfl rfl ?_
          intro b60 hb60; cases b60
          rotate_left
          · replace hb60 := neT hb60
            exfalso; omega
          replace hb60 := neF hb60
          refine ev_q rfl (q_pickF rfl (by conv=>lhs;whnf) ?_)
          refine em rfl (by conv=>lhs;whnf) ?_
          refine em rfl (by conv=>lhs;whnf) ?_
          refine ev_q rfl (q_len tEs22 rfl ?_)
          intro n61 hn61
          try simp only [List.length_map] at hn61
          refine ei rfl rfl rfl ?_
          intro b62 hb62; cases b62
          · replace hb62 := eqF hb62
            refine em rfl (by conv=>lhs;whnf) ?_
            refine em rfl (by conv=>lhs;whnf) ?_
            refine ei rfl rfl rfl ?_
            intro b63 hb63; cases b63
            rotate_left
            · replace hb63 := eqT hb63
              exfalso; omega
            replace hb63 := eqF hb63
            refine ev_q rfl (q_bne tB4 rfl rfl ?_)
            intro b64 hb64; replace hb64 : b64 = false := hb64; subst hb64
            refine ev_q rfl (q_pickF rfl (by conv=>lhs;whnf) ?_)
            refine ev_nil (hK54 _ ?_); clear hK54
            refine good_condF rfl ?_
            refine good_skip (hK53 _ ?_); clear hK53
            refine good_seq fun K65 hK65 => ?_
            refine gr rfl ?_
            refine ea rfl (by conv=>lhs;whnf) ?_
            refine ev_nil (hK65 _ ?_); clear hK65
            refine good_block ?_
            refine good_loop (α := Nat) (fun i => { env := upd (upd (upd (upd (upd (upd ((fun _ => .junk)) 1 (.lst 1 (ds.map cb))) 5 (.ptr 5 0)) 6 (.s (.int .i64 (n8)))) 7 (.s (.int .i64 (n9)))) 8 (.lst 1 (L11.map ci))) 12 (.s (.int .i64 ((i : Int)))), H := upd ((fun _ => none)) 5 (some (.box 31 [.lst 1 (n7.map ci), .lst 6 (((W7.drop j7).take m7).map piA)])) }) (fun i => i ≤ L11.length) (fun i => L11.length - i) 0 ?_ ?_ ?_
            · exact Nat.zero_le _
            · refine sub_weak ?_ ?_
              · exact weakH_box (boxEq (rfl)) rfl (weakH_none _)
              · refine weakE_upd ?e12 ?r12 (weakE_upd ?e8 ?r8 (weakE_upd ?e7 ?r7 (weakE_upd ?e6 ?r6 (weakE_upd ?e5 ?r5 (weakE_upd ?e1 ?r1 (weakE_junk _ _))))))
                case e1 => first | rfl | exact fI (by omega) | (simp_all)
                case r1 => intro h hh; cases hh
                case e5 => first | rfl | exact fI (by omega) | (simp_all)
                case r5 => intro h hh; simp [refs] at hh; subst hh; rfl
                case e6 => first | rfl | exact fI (by omega) | (simp_all)
                case r6 => intro h hh; cases hh
                case e7 => first | rfl | exact fI (by omega) | (simp_all)
                case r7 => intro h hh; cases hh
                case e8 => first | rfl | exact fI (by omega) | (simp_all)
                case r8 => intro h hh; cases hh
                case e12 => first | rfl | exact fI (by omega) | (simp_all)
                case r12 => intro h hh; cases hh
            · rintro i hI
              refine good_seq fun K66 hK66 => ?_
              refine good_seq fun K67 hK67 => ?_
              refine gr rfl ?_
              refine em rfl (by conv=>lhs;whnf) ?_
              refine em rfl (by conv=>lhs;whnf) ?_
              refine ev_q rfl (q_len tEs22 rfl ?_)
              intro n68 hn68
              try simp only [List.length_map] at hn68
              refine ei rfl rfl rfl ?_
              intro b69 hb69; cases b69
              · replace hb69 := dF hb69
                refine ev_nil (hK67 _ ?_); clear hK67
                refine good_condF rfl ?_
                refine good_exit ?_
                repeat first|refine thenQ_exit ?_|refine blockQ_pass rfl ?_
                refine blockQ_exit (hK13 _ ?_); clear hK13
                clear hK66
                refine sub_weak ?_ ?_
                · exact weakH_none _
                · refine weakE_upd ?e1 ?r1 (weakE_junk _ _)
                  case e1 => first | rfl | exact fI (by omega) | (rfl)
                  case r1 => intro h hh; cases hh
              · replace hb69 := dT hb69
                refine ev_nil (hK67 _ ?_); clear hK67
                refine good_condT rfl ?_
                refine good_skip (hK66 _ ?_); clear hK66
                refine good_seq fun K70 hK70 => ?_
                refine good_block ?_
                refine good_seq fun K71 hK71 => ?_
                refine gr rfl ?_
                refine em rfl (by conv=>lhs;whnf) ?_
                refine em rfl (by conv=>lhs;whnf) ?_
                refine ev_q rfl (q_slice tE22 rfl rfl rfl (by omega) (by omega) (by first | omega | (simp; omega)) ?_)
                intro l72 hl72
                obtain rfl : l72 = (L11.take i).map ci := by rw [hl72, List.map_take]; simp
                refine em rfl (by conv=>lhs;whnf) ?_
                refine ev_q rfl (q_callI rfl rfl (rfl) (D_laws_b10Walk n7 ((W7.drop j7).take m7) (L11.take i) n8 P (by omega) (by omega) hP0 (TrW_take hPT) (by rw [List.length_take]; omega)) ?_)
                intro n73 hn73
                refine ea rfl (by conv=>lhs;whnf) ?_
                refine ev_nil (hK71 _ ?_); clear hK71
                refine good_seq fun K74 hK74 => ?_
                refine gr rfl ?_
                refine ev_q rfl (q_loadA tA31 rfl rfl rfl ?_)
                refine em rfl (by conv=>lhs;whnf) ?_
                refine em rfl (by conv=>lhs;whnf) ?_
                refine ev_k rfl (k_callR [] (D_impl_PathOf n7 ((W7.drop j7).take m7) n73 n9 (by omega) (by omega) hz) rfl (rfl) (rfl) trivial rfl (by rintro ⟨L75, c75⟩ hx75_0; exact ⟨trivial, rfl⟩) rfl rfl ?_)
                rintro ⟨L75, c75⟩ hx75_0
                have e85 : n73 = P i := by rw [hn73, List.length_take, Nat.min_eq_left (by omega)]
                have hx90 := pt_c ok ⟨by rw [e85]; exact (hPi i (by omega)).1, hab.2⟩ (by rw [e85]; exact (hPi i (by omega)).2.2) hx75_0
                rw [e85] at hx90
                refine em rfl (by conv=>lhs;whnf) ?_
                refine ev_q rfl (q_extract rfl rfl ?_)
                refine ev_q rfl (q_extractI rfl rfl ?_)
                intro n76 hn76
                refine ea rfl (by conv=>lhs;whnf) ?_
                refine ea rfl (by conv=>lhs;whnf) ?_
                refine ev_nil (hK74 _ ?_); clear hK74
                refine good_seq fun K77 hK77 => ?_
                refine gr rfl ?_
                refine em rfl (by conv=>lhs;whnf) ?_
                refine ei rfl rfl rfl ?_
                intro b78 hb78; cases b78
                rotate_left
                · replace hb78 := neT hb78
                  exfalso; omega
                replace hb78 := neF hb78
                refine em rfl (by conv=>lhs;whnf) ?_
                refine em rfl (by conv=>lhs;whnf) ?_
                refine ev_q rfl (q_len tEs22 rfl ?_)
                intro n79 hn79
                try simp only [List.length_map] at hn79
                refine em rfl (by conv=>lhs;whnf) ?_
                refine ev_q rfl (q_len tEs22 rfl ?_)
                intro n80 hn80
                try simp only [List.length_map] at hn80
                refine em rfl (by conv=>lhs;whnf) ?_
                refine ei rfl rfl rfl ?_
                intro n81 hn81
                replace hn81 := in64 hn81 (by omega) (by omega)
                refine ei rfl rfl rfl ?_
                intro b82 hb82; cases b82
                rotate_left
                · replace hb82 := neT hb82
                  exfalso; have h1 := (hPi i (by omega)).2.1; have h2 := hx90.2; omega
                replace hb82 := neF hb82
                refine ev_q rfl (q_pickF rfl (by conv=>lhs;whnf) ?_)
                refine ev_nil (hK77 _ ?_); clear hK77
                refine good_condF rfl ?_
                refine good_skip (hK70 _ ?_); clear hK70
                refine gr rfl ?_
                refine em rfl (by conv=>lhs;whnf) ?_
                refine ei rfl rfl rfl ?_
                intro n83 hn83
                replace hn83 := in64 hn83 (by omega) (by omega)
                refine ea rfl (by conv=>lhs;whnf) ?_
                refine ev_nil ?_
                clear hK13
                refine ⟨i + 1, ?_, ?_, ?_⟩
                · show _ ≤ _; omega
                · first | omega | (simp only []; omega) | (dsimp only; omega)
                · refine sub_weak ?_ ?_
                  · exact weakH_box (boxEq (rfl)) rfl (weakH_none _)
                  · refine weakE_upd ?e12 ?r12 (weakE_upd ?e8 ?r8 (weakE_upd ?e7 ?r7 (weakE_upd ?e6 ?r6 (weakE_upd ?e5 ?r5 (weakE_upd ?e1 ?r1 (weakE_junk _ _))))))
                    case e1 => first | rfl | exact fI (by omega) | (simp_all)
                    case r1 => intro h hh; cases hh
                    case e5 => first | rfl | exact fI (by omega) | (simp_all)
                    case r5 => intro h hh; simp [refs] at hh; subst hh; rfl
                    case e6 => first | rfl | exact fI (by omega) | (simp_all)
                    case r6 => intro h hh; cases hh
                    case e7 => first | rfl | exact fI (by omega) | (simp_all)
                    case r7 => intro h hh; cases hh
                    case e8 => first | rfl | exact fI (by omega) | (simp_all)
                    case r8 => intro h hh; cases hh
                    case e12 => first | rfl | exact fI (by omega) | (simp_all)
                    case r12 => intro h hh; cases hh
          · replace hb62 := eqT hb62
            refine em rfl (by conv=>lhs;whnf) ?_
            refine em rfl (by conv=>lhs;whnf) ?_
            refine ei rfl rfl rfl ?_
            intro b84 hb84; cases b84
            · replace hb84 := eqF hb84
              exfalso; omega
            replace hb84 := eqT hb84
            refine ev_q rfl (q_bne tB4 rfl rfl ?_)
            intro b85 hb85; replace hb85 : b85 = false := hb85; subst hb85
            refine ev_q rfl (q_pickF rfl (by conv=>lhs;whnf) ?_)
            refine ev_nil (hK54 _ ?_); clear hK54
            refine good_condF rfl ?_
            refine good_skip (hK53 _ ?_); clear hK53
            refine good_seq fun K86 hK86 => ?_
            refine gr rfl ?_
            refine ea rfl (by conv=>lhs;whnf) ?_
            refine ev_nil (hK86 _ ?_); clear hK86
            refine good_block ?_
            refine good_loop (α := Nat) (fun i => { env := upd (upd (upd (upd (upd (upd ((fun _ => .junk)) 1 (.lst 1 (ds.map cb))) 5 (.ptr 5 0)) 6 (.s (.int .i64 (n8)))) 7 (.s (.int .i64 (n9)))) 8 (.lst 1 (L11.map ci))) 12 (.s (.int .i64 ((i : Int)))), H := upd ((fun _ => none)) 5 (some (.box 31 [.lst 1 (n7.map ci), .lst 6 (((W7.drop j7).take m7).map piA)])) }) (fun i => i ≤ L11.length) (fun i => L11.length - i) 0 ?_ ?_ ?_
            · exact Nat.zero_le _
            · refine sub_weak ?_ ?_
              · exact weakH_box (boxEq (rfl)) rfl (weakH_none _)
              · refine weakE_upd ?e12 ?r12 (weakE_upd ?e8 ?r8 (weakE_upd ?e7 ?r7 (weakE_upd ?e6 ?r6 (weakE_upd ?e5 ?r5 (weakE_upd ?e1 ?r1 (weakE_junk _ _))))))
                case e1 => first | rfl | exact fI (by omega) | (simp_all)
                case r1 => intro h hh; cases hh
                case e5 => first | rfl | exact fI (by omega) | (simp_all)
                case r5 => intro h hh; simp [refs] at hh; subst hh; rfl
                case e6 => first | rfl | exact fI (by omega) | (simp_all)
                case r6 => intro h hh; cases hh
                case e7 => first | rfl | exact fI (by omega) | (simp_all)
                case r7 => intro h hh; cases hh
                case e8 => first | rfl | exact fI (by omega) | (simp_all)
                case r8 => intro h hh; cases hh
                case e12 => first | rfl | exact fI (by omega) | (simp_all)
                case r12 => intro h hh; cases hh
            · rintro i hI
              refine good_seq fun K87 hK87 => ?_
              refine good_seq fun K88 hK88 => ?_
              refine gr rfl ?_
              refine em rfl (by conv=>lhs;whnf) ?_
              refine em rfl (by conv=>lhs;whnf) ?_
              refine ev_q rfl (q_len tEs22 rfl ?_)
              intro n89 hn89
              try simp only [List.length_map] at hn89
              refine ei rfl rfl rfl ?_
              intro b90 hb90; cases b90
              · replace hb90 := dF hb90
                refine ev_nil (hK88 _ ?_); clear hK88
                refine good_condF rfl ?_
                refine good_exit ?_
                repeat first|refine thenQ_exit ?_|refine blockQ_pass rfl ?_
                refine blockQ_exit (hK13 _ ?_); clear hK13
                clear hK87
                refine sub_weak ?_ ?_
                · exact weakH_none _
                · refine weakE_upd ?e1 ?r1 (weakE_junk _ _)
                  case e1 => first | rfl | exact fI (by omega) | (rfl)
                  case r1 => intro h hh; cases hh
              · replace hb90 := dT hb90
                refine ev_nil (hK88 _ ?_); clear hK88
                refine good_condT rfl ?_
                refine good_skip (hK87 _ ?_); clear hK87
                refine good_seq fun K91 hK91 => ?_
                refine good_block ?_
                refine good_seq fun K92 hK92 => ?_
                refine gr rfl ?_
                refine em rfl (by conv=>lhs;whnf) ?_
                refine em rfl (by conv=>lhs;whnf) ?_
                refine ev_q rfl (q_slice tE22 rfl rfl rfl (by omega) (by omega) (by first | omega | (simp; omega)) ?_)
                intro l93 hl93
                obtain rfl : l93 = (L11.take i).map ci := by rw [hl93, List.map_take]; simp
                refine em rfl (by conv=>lhs;whnf) ?_
                refine ev_q rfl (q_callI rfl rfl (rfl) (D_laws_b10Walk n7 ((W7.drop j7).take m7) (L11.take i) n8 P (by omega) (by omega) hP0 (TrW_take hPT) (by rw [List.length_take]; omega)) ?_)
                intro n94 hn94
                refine ea rfl (by conv=>lhs;whnf) ?_
                refine ev_nil (hK92 _ ?_); clear hK92
                refine good_seq fun K95 hK95 => ?_
                refine gr rfl ?_
                refine ev_q rfl (q_loadA tA31 rfl rfl rfl ?_)
                refine em rfl (by conv=>lhs;whnf) ?_
                refine em rfl (by conv=>lhs;whnf) ?_
                refine ev_k rfl (k_callR [] (D_impl_PathOf n7 ((W7.drop j7).take m7) n94 n9 (by omega) (by omega) hz) rfl (rfl) (rfl) trivial rfl (by rintro ⟨L96, c96⟩ hx96_0; exact ⟨trivial, rfl⟩) rfl rfl ?_)
                rintro ⟨L96, c96⟩ hx96_0
                have e85 : n94 = P i := by rw [hn94, List.length_take, Nat.min_eq_left (by omega)]
                have hx90 := pt_c ok ⟨by rw [e85]; exact (hPi i (by omega)).1, hab.2⟩ (by rw [e85]; exact (hPi i (by omega)).2.2) hx96_0
                rw [e85] at hx90
                refine em rfl (by conv=>lhs;whnf) ?_
                refine ev_q rfl (q_extract rfl rfl ?_)
                refine ev_q rfl (q_extractI rfl rfl ?_)
                intro n97 hn97
                refine ea rfl (by conv=>lhs;whnf) ?_
                refine ea rfl (by conv=>lhs;whnf) ?_
                refine ev_nil (hK95 _ ?_); clear hK95
                refine good_seq fun K98 hK98 => ?_
                refine gr rfl ?_
                refine em rfl (by conv=>lhs;whnf) ?_
                refine ei rfl rfl rfl ?_
                intro b99 hb99; cases b99
                rotate_left
                · replace hb99 := neT hb99
                  exfalso; omega
                replace hb99 := neF hb99
                refine em rfl (by conv=>lhs;whnf) ?_
                refine em rfl (by conv=>lhs;whnf) ?_
                refine ev_q rfl (q_len tEs22 rfl ?_)
                intro n100 hn100
                try simp only [List.length_map] at hn100
                refine em rfl (by conv=>lhs;whnf) ?_
                refine ev_q rfl (q_len tEs22 rfl ?_)
                intro n101 hn101
                try simp only [List.length_map] at hn101
                refine em rfl (by conv=>lhs;whnf) ?_
                refine ei rfl rfl rfl ?_
                intro n102 hn102
                replace hn102 := in64 hn102 (by omega) (by omega)
                refine ei rfl rfl rfl ?_
                intro b103 hb103; cases b103
                rotate_left
                · replace hb103 := neT hb103
                  exfalso; have h1 := (hPi i (by omega)).2.1; have h2 := hx90.2; omega
                replace hb103 := neF hb103
                refine ev_q rfl (q_pickF rfl (by conv=>lhs;whnf) ?_)
                refine ev_nil (hK98 _ ?_); clear hK98
                refine good_condF rfl ?_
                refine good_skip (hK91 _ ?_); clear hK91
                refine gr rfl ?_
                refine em rfl (by conv=>lhs;whnf) ?_
                refine ei rfl rfl rfl ?_
                intro n104 hn104
                replace hn104 := in64 hn104 (by omega) (by omega)
                refine ea rfl (by conv=>lhs;whnf) ?_
                refine ev_nil ?_
                clear hK13
                refine ⟨i + 1, ?_, ?_, ?_⟩
                · show _ ≤ _; omega
                · first | omega | (simp only []; omega) | (dsimp only; omega)
                · refine sub_weak ?_ ?_
                  · exact weakH_box (boxEq (rfl)) rfl (weakH_none _)
                  · refine weakE_upd ?e12 ?r12 (weakE_upd ?e8 ?r8 (weakE_upd ?e7 ?r7 (weakE_upd ?e6 ?r6 (weakE_upd ?e5 ?r5 (weakE_upd ?e1 ?r1 (weakE_junk _ _))))))
                    case e1 => first | rfl | exact fI (by omega) | (simp_all)
                    case r1 => intro h hh; cases hh
                    case e5 => first | rfl | exact fI (by omega) | (simp_all)
                    case r5 => intro h hh; simp [refs] at hh; subst hh; rfl
                    case e6 => first | rfl | exact fI (by omega) | (simp_all)
                    case r6 => intro h hh; cases hh
                    case e7 => first | rfl | exact fI (by omega) | (simp_all)
                    case r7 => intro h hh; cases hh
                    case e8 => first | rfl | exact fI (by omega) | (simp_all)
                    case r8 => intro h hh; cases hh
                    case e12 => first | rfl | exact fI (by omega) | (simp_all)
                    case r12 => intro h hh; cases hh
    · first | replace hb5 := dT hb5 | skip
      refine ev_q rfl (q_pickF rfl (by conv=>lhs;whnf) ?_)
      refine ev_nil (hK3 _ ?_); clear hK3
      refine good_condT rfl ?_
      refine good_seq fun K105 hK105 => ?_
      refine gr rfl ?_
      refine ea rfl (by conv=>lhs;whnf) ?_
      refine ev_nil (hK105 _ ?_); clear hK105
      refine good_ret ?_
      repeat first|refine thenQ_ret ?_|refine blockQ_ret ?_
      refine ret_tmp (st := _) rfl (by conv=>lhs;whnf) rfl ?_
      clear hK2
      first | rfl | (exfalso; omega)
  · first | replace hb4 := dT hb4 | skip
    refine em rfl (by conv=>lhs;whnf) ?_
    refine ev_skip rfl ?_
    refine ev_skip rfl ?_
    refine ev_q rfl (q_pickT rfl (by conv=>lhs;whnf) ?_)
    refine ev_nil (hK3 _ ?_); clear hK3
    refine good_condT rfl ?_
    refine good_seq fun K106 hK106 => ?_
    refine gr rfl ?_
    refine ea rfl (by conv=>lhs;whnf) ?_
    refine ev_nil (hK106 _ ?_); clear hK106
    refine good_ret ?_
    repeat first|refine thenQ_ret ?_|refine blockQ_ret ?_
    refine ret_tmp (st := _) rfl (by conv=>lhs;whnf) rfl ?_
    clear hK2
    first | rfl | (exfalso; omega)

end Go.Proofs.Ytkgnbjgnddfojaa.DFnWays
