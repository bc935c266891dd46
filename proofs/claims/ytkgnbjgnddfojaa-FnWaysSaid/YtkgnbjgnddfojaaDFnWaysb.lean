/- Walks through the functions that FnWays reaches: what each answers. -/
import Derived.Test.YtkgnbjgnddfojaaDFnWaysa
set_option linter.unusedVariables false
set_option linter.unusedSimpArgs false
set_option maxRecDepth 20000
set_option maxHeartbeats 2000000
namespace Go.Proofs.Ytkgnbjgnddfojaa.DFnWays
open Go Go.RowKit Go.Proofs Go.Proofs.Ytkgnbjgnddfojaa Go.Proofs.Ytkgnbjgnddfojaa.Ev
-- impl.ValidNetwork
theorem D_impl_ValidNetwork (ns : List Int) (ps : List Pi) (hn : ns.length ≤ 17592186044416) (hp : ps.length ≤ 2513169434843) (hz : idSz ps) : Den Try.prog 57 [.agg [.lst 1 (ns.map ci), .lst 6 (ps.map piA)]] (.s (.bool (decide (netOk ns ps)))) := by
  refine den_of_good Try.func57 (by decide) rfl (Nat.le_of_ble_eq_true rfl) (Nat.le_of_ble_eq_true rfl) ?_
  refine good_seq fun K1 hK1 => ?_
  refine gr rfl ?_
  refine ev_k rfl (k_box (by conv=>lhs;whnf) rfl rfl rfl ?_)
  refine ea rfl (by conv=>lhs;whnf) ?_
  refine ev_nil (hK1 _ ?_); clear hK1
  refine good_seq fun K2 hK2 => ?_
  refine good_seq fun K3 hK3 => ?_
  refine gr rfl ?_
  refine ev_q rfl (q_fieldAddrP fO31_0 rfl rfl ?_)
  refine ev_q rfl (q_load tA22 rfl ?_)
  refine ev_q rfl (q_len tEs22 rfl ?_)
  intro n4 hn4
  try simp only [List.length_map] at hn4
  refine ei rfl rfl rfl ?_
  intro b5 hb5; cases b5
  · replace hb5 := dF hb5
    refine em rfl (by conv=>lhs;whnf) ?_
    refine ev_q rfl (q_fieldAddrP fO31_0 rfl rfl ?_)
    refine ev_q rfl (q_load tA22 rfl ?_)
    refine ev_q rfl (q_len tEs22 rfl ?_)
    intro n6 hn6
    try simp only [List.length_map] at hn6
    refine ei rfl rfl rfl ?_
    intro b7 hb7; cases b7
    · replace hb7 := dF hb7
      refine ev_q rfl (q_pickF rfl (by conv=>lhs;whnf) ?_)
      refine em rfl (by conv=>lhs;whnf) ?_
      refine ev_q rfl (q_fieldAddrP fO31_0 rfl rfl ?_)
      refine ev_q rfl (q_load tA22 rfl ?_)
      refine ev_q rfl (q_callB rfl rfl (rfl) (D_impl_allWithin ns _ _ hn) ?_)
      intro b8 hb8; cases b8
      · first | replace hb8 := dF hb8 | skip
        refine ev_q rfl (q_not rfl rfl ?_)
        refine ev_q rfl (q_pickF rfl (by conv=>lhs;whnf) ?_)
        refine em rfl (by conv=>lhs;whnf) ?_
        refine ev_skip rfl ?_
        refine ev_skip rfl ?_
        refine ev_skip rfl ?_
        refine ev_skip rfl ?_
        refine ev_q rfl (q_pickT rfl (by conv=>lhs;whnf) ?_)
        refine ev_nil (hK3 _ ?_); clear hK3
        refine good_condT rfl ?_
        refine good_seq fun K9 hK9 => ?_
        refine gr rfl ?_
        refine ea rfl (by conv=>lhs;whnf) ?_
        refine ev_nil (hK9 _ ?_); clear hK9
        refine good_ret ?_
        repeat first|refine thenQ_ret ?_|refine blockQ_ret ?_
        refine ret_tmp (st := _) rfl (by conv=>lhs;whnf) rfl ?_
        clear hK2
        first | exact fT ⟨⟨⟨by omega, by omega⟩, by assumption, by omega⟩, all_finS (Q := fun j p => piAt ns ps j p) hJ (by omega)⟩ | exact fF (fun h => by have h1 := h.1; first | omega | exact absurd h1.2.1 (by assumption)) | exact fF (net_no hpp (fun ⟨⟨h1, h3, h4⟩, h2⟩ => by first | contradiction | (exfalso; omega) | exact hE (h2 q (by omega) (by rw [← hq]; congr 1; omega)) | (have := h1.2.1; have := h1.2.2.1; omega)))
      · first | replace hb8 := dT hb8 | skip
        refine ev_q rfl (q_not rfl rfl ?_)
        refine ev_q rfl (q_pickF rfl (by conv=>lhs;whnf) ?_)
        refine em rfl (by conv=>lhs;whnf) ?_
        refine ev_q rfl (q_fieldAddrP fO31_1 rfl rfl ?_)
        refine ev_q rfl (q_load tA29 rfl ?_)
        refine ev_q rfl (q_len tEs29 rfl ?_)
        intro n10 hn10
        try simp only [List.length_map] at hn10
        refine ei rfl rfl rfl ?_
        intro b11 hb11; cases b11
        · replace hb11 := dF hb11
          refine ev_q rfl (q_pickF rfl (by conv=>lhs;whnf) ?_)
          refine ev_nil (hK3 _ ?_); clear hK3
          refine good_condF rfl ?_
          refine good_skip (hK2 _ ?_); clear hK2
          refine good_seq fun K12 hK12 => ?_
          refine good_seq fun K13 hK13 => ?_
          refine gr rfl ?_
          refine ev_q rfl (q_fieldAddrP fO31_1 rfl rfl ?_)
          refine ev_q rfl (q_load tA29 rfl ?_)
          refine ev_q rfl (q_len tEs29 rfl ?_)
          intro n14 hn14
          try simp only [List.length_map] at hn14
          refine em rfl (by conv=>lhs;whnf) ?_
          refine ev_nil (hK13 _ ?_); clear hK13
          refine good_block ?_
          refine good_loop (α := Nat) (fun i => { env := upd (upd (upd (upd ((fun _ => .junk)) 1 (.ptr 1 0)) 28 (.lst 6 (ps.map piA))) 29 (.s (.int .i64 ((ps.length : Int))))) 30 (.s (.int .i64 i)), H := upd ((fun _ => none)) 1 (some (.box 31 [.lst 1 (ns.map ci), .lst 6 (ps.map piA)])) }) (fun i => i ≤ ps.length ∧ ∀ j p, j < i → ps[j]? = some p → piAt ns ps j p) (fun i => ps.length - i) 0 ?_ ?_ ?_
          · exact ⟨by omega, fun j u hj => by omega⟩
          · refine sub_weak ?_ ?_
            · exact weakH_box (boxEq (rfl)) rfl (weakH_none _)
            · refine weakE_upd ?e30 ?r30 (weakE_upd ?e29 ?r29 (weakE_upd ?e28 ?r28 (weakE_upd ?e1 ?r1 (weakE_junk _ _))))
              case e1 => first | rfl | exact fI (by omega) | (simp_all)
              case r1 => intro h hh; simp [refs] at hh; subst hh; rfl
              case e28 => first | rfl | exact fI (by omega) | (simp_all)
              case r28 => intro h hh; cases hh
              case e29 => first | rfl | exact fI (by omega) | (simp_all)
              case r29 => intro h hh; cases hh
              case e30 => first | rfl | exact fI (by omega) | (simp_all)
              case r30 => intro h hh; cases hh
          · rintro i ⟨hI, hJ⟩
            refine good_seq fun K15 hK15 => ?_
            refine gr rfl ?_
            refine ei rfl rfl rfl ?_
            intro b16 hb16; cases b16
            · replace hb16 := dF hb16
              refine ev_nil (hK15 _ ?_); clear hK15
              refine good_seq fun K17 hK17 => ?_
              refine good_condF rfl ?_
              refine good_exit ?_
              repeat first|refine thenQ_exit ?_|refine blockQ_pass rfl ?_
              refine blockQ_exit (hK12 _ ?_); clear hK12
              refine good_seq fun K18 hK18 => ?_
              refine gr rfl ?_
              refine ea rfl (by conv=>lhs;whnf) ?_
              refine ev_nil (hK18 _ ?_); clear hK18
              refine good_ret ?_
              repeat first|refine thenQ_ret ?_|refine blockQ_ret ?_
              refine ret_tmp (st := _) rfl (by conv=>lhs;whnf) rfl ?_
              clear hK17
              first | exact fT ⟨⟨⟨by omega, by omega⟩, by assumption, by omega⟩, all_finS (Q := fun j p => piAt ns ps j p) hJ (by omega)⟩ | exact fF (fun h => by have h1 := h.1; first | omega | exact absurd h1.2.1 (by assumption)) | exact fF (net_no hpp (fun ⟨⟨h1, h3, h4⟩, h2⟩ => by first | contradiction | (exfalso; omega) | exact hE (h2 q (by omega) (by rw [← hq]; congr 1; omega)) | (have := h1.2.1; have := h1.2.2.1; omega)))
            · replace hb16 := dT hb16
              obtain ⟨p, hpp⟩ := getL (xs := ps) (n := (i : Int)) (by omega) (by omega)
              replace hpp : ps[i]? = some p := hpp
              have hzp := hz i p hpp
              refine ev_nil (hK15 _ ?_); clear hK15
              refine good_seq fun K19 hK19 => ?_
              refine good_condT rfl ?_
              refine good_skip (hK19 _ ?_); clear hK19
              refine good_seq fun K20 hK20 => ?_
              refine good_block ?_
              refine good_seq fun K21 hK21 => ?_
              refine gr rfl ?_
              refine em rfl (by conv=>lhs;whnf) ?_
              refine ev_q rfl (q_idx tE29 rfl rfl (by exact Int.natCast_nonneg _) (by exact map_get hpp) rfl ?_)
              refine ev_q rfl (q_loadA tA59 rfl rfl rfl ?_)
              refine ev_k rfl (k_alloc zA59 rfl ?_)
              refine ea rfl (by conv=>lhs;whnf) ?_
              refine ev_k rfl (k_store sz59 rfl (by conv=>lhs;whnf) rfl rfl rfl (Nat.le_of_ble_eq_true rfl) rfl ?_)
              refine ev_nil (hK21 _ ?_); clear hK21
              refine good_seq fun K22 hK22 => ?_
              refine good_draw 25 hmix (by kernel_rfl) rfl ?_
              refine qo_q rfl (q_loadA tA59 rfl rfl rfl ?_)
              refine qo_q rfl (q_callB rfl rfl (rfl) (D_impl_ValidPipe _ _ _ _ _ _ (by assumption)) ?_)
              intro b23 hb23; cases b23
              · first | replace hb23 := dF hb23 | skip
                refine qo_q rfl (q_not rfl rfl ?_)
                refine qm rfl (by conv=>lhs;whnf) ?_
                refine qo_skip rfl ?_
                refine qo_skip rfl ?_
                refine qo_skip rfl ?_
                refine qo_skip rfl ?_
                refine qo_q rfl (q_pickT rfl (by conv=>lhs;whnf) ?_)
                refine qm rfl (by conv=>lhs;whnf) ?_
                refine qo_skip rfl ?_
                refine qo_skip rfl ?_
                refine qo_skip rfl ?_
                refine qo_skip rfl ?_
                refine qo_skip rfl ?_
                refine qo_skip rfl ?_
                refine qo_skip rfl ?_
                refine qo_skip rfl ?_
                refine qo_skip rfl ?_
                refine qo_skip rfl ?_
                refine qo_skip rfl ?_
                refine qo_skip rfl ?_
                refine qo_skip rfl ?_
                refine qo_skip rfl ?_
                refine qo_q rfl (q_pickT rfl (by conv=>lhs;whnf) ?_)
                refine qo_nil ?_
                refine ev_nil (hK22 _ ?_); clear hK22
                refine good_condT rfl ?_
                refine good_seq fun K24 hK24 => ?_
                refine gr rfl ?_
                refine ea rfl (by conv=>lhs;whnf) ?_
                refine ev_nil (hK24 _ ?_); clear hK24
                refine good_ret ?_
                repeat first|refine thenQ_ret ?_|refine blockQ_ret ?_
                refine ret_tmp (st := _) rfl (by conv=>lhs;whnf) rfl ?_
                clear hK12 hK20
                first | exact fT ⟨⟨⟨by omega, by omega⟩, by assumption, by omega⟩, all_finS (Q := fun j p => piAt ns ps j p) hJ (by omega)⟩ | exact fF (fun h => by have h1 := h.1; first | omega | exact absurd h1.2.1 (by assumption)) | exact fF (net_no hpp (fun ⟨⟨h1, h3, h4⟩, h2⟩ => by first | contradiction | (exfalso; omega) | exact hE (h2 q (by omega) (by rw [← hq]; congr 1; omega)) | (have := h1.2.1; have := h1.2.2.1; omega)))
              · first | replace hb23 := dT hb23 | skip
                refine qo_q rfl (q_not rfl rfl ?_)
                refine qm rfl (by conv=>lhs;whnf) ?_
                refine qo_q rfl (q_loadA tA31 rfl rfl rfl ?_)
                refine qo_q rfl (q_loadA tA59 rfl rfl rfl ?_)
                refine qo_q rfl (q_callB rfl rfl (rfl) (D_impl_Network_hasEnds ns ps _ _ _ _ _ _ hn) ?_)
                intro b25 hb25; cases b25
                · first | replace hb25 := dF hb25 | skip
                  refine qo_q rfl (q_not rfl rfl ?_)
                  refine qo_q rfl (q_pickF rfl (by conv=>lhs;whnf) ?_)
                  refine qm rfl (by conv=>lhs;whnf) ?_
                  refine qo_skip rfl ?_
                  refine qo_skip rfl ?_
                  refine qo_skip rfl ?_
                  refine qo_skip rfl ?_
                  refine qo_skip rfl ?_
                  refine qo_skip rfl ?_
                  refine qo_skip rfl ?_
                  refine qo_skip rfl ?_
                  refine qo_skip rfl ?_
                  refine qo_skip rfl ?_
                  refine qo_skip rfl ?_
                  refine qo_skip rfl ?_
                  refine qo_skip rfl ?_
                  refine qo_skip rfl ?_
                  refine qo_q rfl (q_pickT rfl (by conv=>lhs;whnf) ?_)
                  refine qo_nil ?_
                  refine ev_nil (hK22 _ ?_); clear hK22
                  refine good_condT rfl ?_
                  refine good_seq fun K26 hK26 => ?_
                  refine gr rfl ?_
                  refine ea rfl (by conv=>lhs;whnf) ?_
                  refine ev_nil (hK26 _ ?_); clear hK26
                  refine good_ret ?_
                  repeat first|refine thenQ_ret ?_|refine blockQ_ret ?_
                  refine ret_tmp (st := _) rfl (by conv=>lhs;whnf) rfl ?_
                  clear hK12 hK20
                  first | exact fT ⟨⟨⟨by omega, by omega⟩, by assumption, by omega⟩, all_finS (Q := fun j p => piAt ns ps j p) hJ (by omega)⟩ | exact fF (fun h => by have h1 := h.1; first | omega | exact absurd h1.2.1 (by assumption)) | exact fF (net_no hpp (fun ⟨⟨h1, h3, h4⟩, h2⟩ => by first | contradiction | (exfalso; omega) | exact hE (h2 q (by omega) (by rw [← hq]; congr 1; omega)) | (have := h1.2.1; have := h1.2.2.1; omega)))
                · first | replace hb25 := dT hb25 | skip
                  refine qo_q rfl (q_not rfl rfl ?_)
                  refine qo_q rfl (q_pickF rfl (by conv=>lhs;whnf) ?_)
                  refine qm rfl (by conv=>lhs;whnf) ?_
                  refine qm rfl (by conv=>lhs;whnf) ?_
                  refine qo_q rfl (q_int rfl rfl ?_)
                  intro b27 hb27; cases b27
                  · replace hb27 := dF hb27
                    refine qm rfl (by conv=>lhs;whnf) ?_
                    refine qo_skip rfl ?_
                    refine qo_skip rfl ?_
                    refine qo_skip rfl ?_
                    refine qo_skip rfl ?_
                    refine qo_skip rfl ?_
                    refine qo_skip rfl ?_
                    refine qo_skip rfl ?_
                    refine qo_skip rfl ?_
                    refine qo_skip rfl ?_
                    refine qo_skip rfl ?_
                    refine qo_q rfl (q_pickF rfl (by conv=>lhs;whnf) ?_)
                    refine qo_q rfl (q_pickF rfl (by conv=>lhs;whnf) ?_)
                    refine qo_nil ?_
                    refine ev_nil (hK22 _ ?_); clear hK22
                    refine good_condF rfl ?_
                    refine good_skip (hK20 _ ?_); clear hK20
                    refine gr rfl ?_
                    refine ei rfl rfl rfl ?_
                    intro n28 hn28
                    replace hn28 := in64 hn28 (by omega) (by omega)
                    refine em rfl (by conv=>lhs;whnf) ?_
                    refine ev_nil ?_
                    clear hK12
                    refine ⟨i + 1, ?_, ?_, ?_⟩
                    · refine ⟨by omega, all_extS (Q := fun j p => piAt ns ps j p) hJ hpp ?_⟩
                      first | exact ⟨⟨by assumption, by omega, by omega⟩, fun y h0 hy => by first | omega | (have e : some y = some q := hy.symm.trans (by rw [← hq]; congr 1; omega); cases e; exact hE)⟩
                    · first | omega | (simp only []; omega) | (dsimp only; omega)
                    · refine sub_weak ?_ ?_
                      · exact weakH_box (boxEq (rfl)) rfl (weakH_none _)
                      · refine weakE_upd ?e30 ?r30 (weakE_upd ?e29 ?r29 (weakE_upd ?e28 ?r28 (weakE_upd ?e1 ?r1 (weakE_junk _ _))))
                        case e1 => first | rfl | exact fI (by omega) | (simp_all)
                        case r1 => intro h hh; simp [refs] at hh; subst hh; rfl
                        case e28 => first | rfl | exact fI (by omega) | (simp_all)
                        case r28 => intro h hh; cases hh
                        case e29 => first | rfl | exact fI (by omega) | (simp_all)
                        case r29 => intro h hh; cases hh
                        case e30 => first | rfl | exact fI (by omega) | (simp_all)
                        case r30 => intro h hh; cases hh
                  · replace hb27 := dT hb27
                    refine qm rfl (by conv=>lhs;whnf) ?_
                    refine qo_q rfl (q_fieldAddrP fO59_0 rfl rfl ?_)
                    refine qo_q rfl (q_load tA9 rfl ?_)
                    refine qo_q rfl (q_fieldAddrP fO31_1 rfl rfl ?_)
                    refine qo_q rfl (q_load tA29 rfl ?_)
                    refine qm rfl (by conv=>lhs;whnf) ?_
                    refine qo_q rfl (q_int rfl rfl ?_)
                    intro n29 hn29
                    replace hn29 := in64 hn29 (by omega) (by omega)
                    obtain ⟨q, hq⟩ := getL (xs := ps) (n := n29) (by omega) (by omega)
                    refine qo_q rfl (q_idx tE29 rfl rfl (by omega) (by exact map_get hq) rfl ?_)
                    refine qo_q rfl (q_fieldAddr fO59_0 rfl rfl ?_)
                    refine qo_q rfl (q_load tA9 rfl ?_)
                    refine qo_q rfl (q_str rfl rfl ?_)
                    intro b30 hb30; cases b30
                    · have hE := lt_le hb30
                      refine qo_q rfl (q_pickT rfl (by conv=>lhs;whnf) ?_)
                      refine qo_q rfl (q_pickF rfl (by conv=>lhs;whnf) ?_)
                      refine qo_nil ?_
                      refine ev_nil (hK22 _ ?_); clear hK22
                      refine good_condF rfl ?_
                      refine good_skip (hK20 _ ?_); clear hK20
                      refine gr rfl ?_
                      refine ei rfl rfl rfl ?_
                      intro n31 hn31
                      replace hn31 := in64 hn31 (by omega) (by omega)
                      refine em rfl (by conv=>lhs;whnf) ?_
                      refine ev_nil ?_
                      clear hK12
                      refine ⟨i + 1, ?_, ?_, ?_⟩
                      · refine ⟨by omega, all_extS (Q := fun j p => piAt ns ps j p) hJ hpp ?_⟩
                        first | exact ⟨⟨by assumption, by omega, by omega⟩, fun y h0 hy => by first | omega | (have e : some y = some q := hy.symm.trans (by rw [← hq]; congr 1; omega); cases e; exact hE)⟩
                      · first | omega | (simp only []; omega) | (dsimp only; omega)
                      · refine sub_weak ?_ ?_
                        · exact weakH_box (boxEq (rfl)) rfl (weakH_none _)
                        · refine weakE_upd ?e30 ?r30 (weakE_upd ?e29 ?r29 (weakE_upd ?e28 ?r28 (weakE_upd ?e1 ?r1 (weakE_junk _ _))))
                          case e1 => first | rfl | exact fI (by omega) | (simp_all)
                          case r1 => intro h hh; simp [refs] at hh; subst hh; rfl
                          case e28 => first | rfl | exact fI (by omega) | (simp_all)
                          case r28 => intro h hh; cases hh
                          case e29 => first | rfl | exact fI (by omega) | (simp_all)
                          case r29 => intro h hh; cases hh
                          case e30 => first | rfl | exact fI (by omega) | (simp_all)
                          case r30 => intro h hh; cases hh
                    · have hE := nlt_le hb30
                      refine qo_q rfl (q_pickT rfl (by conv=>lhs;whnf) ?_)
                      refine qo_q rfl (q_pickF rfl (by conv=>lhs;whnf) ?_)
                      refine qo_nil ?_
                      refine ev_nil (hK22 _ ?_); clear hK22
                      refine good_condT rfl ?_
                      refine good_seq fun K32 hK32 => ?_
                      refine gr rfl ?_
                      refine ea rfl (by conv=>lhs;whnf) ?_
                      refine ev_nil (hK32 _ ?_); clear hK32
                      refine good_ret ?_
                      repeat first|refine thenQ_ret ?_|refine blockQ_ret ?_
                      refine ret_tmp (st := _) rfl (by conv=>lhs;whnf) rfl ?_
                      clear hK12 hK20
                      first | exact fT ⟨⟨⟨by omega, by omega⟩, by assumption, by omega⟩, all_finS (Q := fun j p => piAt ns ps j p) hJ (by omega)⟩ | exact fF (fun h => by have h1 := h.1; first | omega | exact absurd h1.2.1 (by assumption)) | exact fF (net_no hpp (fun ⟨⟨h1, h3, h4⟩, h2⟩ => by first | contradiction | (exfalso; omega) | exact hE (h2 q (by omega) (by rw [← hq]; congr 1; omega)) | (have := h1.2.1; have := h1.2.2.1; omega)))
        · replace hb11 := dT hb11
          refine ev_q rfl (q_pickF rfl (by conv=>lhs;whnf) ?_)
          refine ev_nil (hK3 _ ?_); clear hK3
          refine good_condT rfl ?_
          refine good_seq fun K33 hK33 => ?_
          refine gr rfl ?_
          refine ea rfl (by conv=>lhs;whnf) ?_
          refine ev_nil (hK33 _ ?_); clear hK33
          refine good_ret ?_
          repeat first|refine thenQ_ret ?_|refine blockQ_ret ?_
          refine ret_tmp (st := _) rfl (by conv=>lhs;whnf) rfl ?_
          clear hK2
          first | exact fT ⟨⟨⟨by omega, by omega⟩, by assumption, by omega⟩, all_finS (Q := fun j p => piAt ns ps j p) hJ (by omega)⟩ | exact fF (fun h => by have h1 := h.1; first | omega | exact absurd h1.2.1 (by assumption)) | exact fF (net_no hpp (fun ⟨⟨h1, h3, h4⟩, h2⟩ => by first | contradiction | (exfalso; omega) | exact hE (h2 q (by omega) (by rw [← hq]; congr 1; omega)) | (have := h1.2.1; have := h1.2.2.1; omega)))
    · replace hb7 := dT hb7
      refine ev_q rfl (q_pickF rfl (by conv=>lhs;whnf) ?_)
      refine em rfl (by conv=>lhs;whnf) ?_
      refine ev_skip rfl ?_
      refine ev_skip rfl ?_
      refine ev_skip rfl ?_
      refine ev_skip rfl ?_
      refine ev_q rfl (q_pickT rfl (by conv=>lhs;whnf) ?_)
      refine em rfl (by conv=>lhs;whnf) ?_
      refine ev_skip rfl ?_
      refine ev_skip rfl ?_
      refine ev_skip rfl ?_
      refine ev_skip rfl ?_
      refine ev_q rfl (q_pickT rfl (by conv=>lhs;whnf) ?_)
      refine ev_nil (hK3 _ ?_); clear hK3
      refine good_condT rfl ?_
      refine good_seq fun K34 hK34 => ?_
      refine gr rfl ?_
      refine ea rfl (by conv=>lhs;whnf) ?_
      refine ev_nil (hK34 _ ?_); clear hK34
      refine good_ret ?_
      repeat first|refine thenQ_ret ?_|refine blockQ_ret ?_
      refine ret_tmp (st := _) rfl (by conv=>lhs;whnf) rfl ?_
      clear hK2
      first | exact fT ⟨⟨⟨by omega, by omega⟩, by assumption, by omega⟩, all_finS (Q := fun j p => piAt ns ps j p) hJ (by omega)⟩ | exact fF (fun h => by have h1 := h.1; first | omega | exact absurd h1.2.1 (by assumption)) | exact fF (net_no hpp (fun ⟨⟨h1, h3, h4⟩, h2⟩ => by first | contradiction | (exfalso; omega) | exact hE (h2 q (by omega) (by rw [← hq]; congr 1; omega)) | (have := h1.2.1; have := h1.2.2.1; omega)))
  · replace hb5 := dT hb5
    refine em rfl (by conv=>lhs;whnf) ?_
    refine ev_skip rfl ?_
    refine ev_skip rfl ?_
    refine ev_skip rfl ?_
    refine ev_skip rfl ?_
    refine ev_q rfl (q_pickT rfl (by conv=>lhs;whnf) ?_)
    refine em rfl (by conv=>lhs;whnf) ?_
    refine ev_skip rfl ?_
    refine ev_skip rfl ?_
    refine ev_skip rfl ?_
    refine ev_skip rfl ?_
    refine ev_q rfl (q_pickT rfl (by conv=>lhs;whnf) ?_)
    refine em rfl (by conv=>lhs;whnf) ?_
    refine ev_skip rfl ?_
    refine ev_skip rfl ?_
    refine ev_skip rfl ?_
    refine ev_skip rfl ?_
    refine ev_q rfl (q_pickT rfl (by conv=>lhs;whnf) ?_)
    refine ev_nil (hK3 _ ?_); clear hK3
    refine good_condT rfl ?_
    refine good_seq fun K35 hK35 => ?_
    refine gr rfl ?_
    refine ea rfl (by conv=>lhs;whnf) ?_
    refine ev_nil (hK35 _ ?_); clear hK35
    refine good_ret ?_
    repeat first|refine thenQ_ret ?_|refine blockQ_ret ?_
    refine ret_tmp (st := _) rfl (by conv=>lhs;whnf) rfl ?_
    clear hK2
    first | exact fT ⟨⟨⟨by omega, by omega⟩, by assumption, by omega⟩, all_finS (Q := fun j p => piAt ns ps j p) hJ (by omega)⟩ | exact fF (fun h => by have h1 := h.1; first | omega | exact absurd h1.2.1 (by assumption)) | exact fF (net_no hpp (fun ⟨⟨h1, h3, h4⟩, h2⟩ => by first | contradiction | (exfalso; omega) | exact hE (h2 q (by omega) (by rw [← hq]; congr 1; omega)) | (have := h1.2.1; have := h1.2.2.1; omega)))

-- spec.l04Ok
theorem D_spec_l04Ok (ns : List Int) (ps : List Pi) (hn : ns.length ≤ 17592186044416) (hp : ps.length ≤ 2513169434843) (hz : idSz ps) : Den Try.prog 112 [.rp [.lst 1 (ns.map ci), .lst 6 (ps.map piA)]] (.s (.bool (decide (netOk ns ps)))) := by
  refine den_of_good Try.func112 (by decide) rfl (Nat.le_of_ble_eq_true rfl) (Nat.le_of_ble_eq_true rfl) ?_
  refine good_seq fun K1 hK1 => ?_
  refine gr rfl ?_
  refine ea rfl (by conv=>lhs;whnf) ?_
  refine ev_nil (hK1 _ ?_); clear hK1
  refine good_seq fun K2 hK2 => ?_
  refine good_seq fun K3 hK3 => ?_
  refine gr rfl ?_
  refine ea rfl (by conv=>lhs;whnf) ?_
  refine ev_nil (hK3 _ ?_); clear hK3
  refine good_block ?_
  refine good_loop (α := Nat) (fun k => { env := upd (upd ((fun _ => .junk)) 0 (.rp [.lst 1 (ns.map ci), .lst 6 (ps.map piA)])) 3 (.s (.int .i64 k)), H := fun _ => none }) (fun k => k ≤ ns.length ∧ ∀ j q, j < k → ns[j]? = some q → (-100000) ≤ q ∧ q ≤ 100000) (fun k => ns.length - k) 0 ?_ ?_ ?_
  · exact ⟨by omega, fun j u hj => by omega⟩
  · refine sub_weak ?_ ?_
    · exact weakH_none _
    · refine weakE_upd ?e3 ?r3 (weakE_upd ?e0 ?r0 (weakE_junk _ _))
      case e0 => first | rfl | exact fI (by omega) | (simp_all)
      case r0 => intro h hh; cases hh
      case e3 => first | rfl | exact fI (by omega) | (simp_all)
      case r3 => intro h hh; cases hh
  · rintro k ⟨hIk, hJk⟩
    refine good_seq fun K4 hK4 => ?_
    refine good_seq fun K5 hK5 => ?_
    refine gr rfl ?_
    refine em rfl (by conv=>lhs;whnf) ?_
    refine em rfl (by conv=>lhs;whnf) ?_
    refine ev_q rfl (q_nilCheck (by conv=>lhs;whnf) rfl ?_)
    refine ev_q rfl (q_fieldAddr fO31_0 rfl rfl ?_)
    refine ev_q rfl (q_load tA22 rfl ?_)
    refine ev_q rfl (q_len tEs22 rfl ?_)
    intro n6 hn6
    try simp only [List.length_map] at hn6
    refine ei rfl rfl rfl ?_
    intro b7 hb7; cases b7
    · replace hb7 := dF hb7
      refine ev_nil (hK5 _ ?_); clear hK5
      refine good_condF rfl ?_
      refine good_exit ?_
      repeat first|refine thenQ_exit ?_|refine blockQ_pass rfl ?_
      refine blockQ_exit (hK2 _ ?_); clear hK2
      refine good_seq fun K8 hK8 => ?_
      refine good_seq fun K9 hK9 => ?_
      refine gr rfl ?_
      refine em rfl (by conv=>lhs;whnf) ?_
      refine ev_q rfl (q_nilCheck (by conv=>lhs;whnf) rfl ?_)
      refine ev_q rfl (q_fieldAddr fO31_0 rfl rfl ?_)
      refine ev_q rfl (q_load tA22 rfl ?_)
      refine ev_q rfl (q_len tEs22 rfl ?_)
      intro n10 hn10
      try simp only [List.length_map] at hn10
      refine ei rfl rfl rfl ?_
      intro b11 hb11; cases b11
      · replace hb11 := dF hb11
        refine em rfl (by conv=>lhs;whnf) ?_
        refine em rfl (by conv=>lhs;whnf) ?_
        refine ev_q rfl (q_nilCheck (by conv=>lhs;whnf) rfl ?_)
        refine ev_q rfl (q_fieldAddr fO31_0 rfl rfl ?_)
        refine ev_q rfl (q_load tA22 rfl ?_)
        refine ev_q rfl (q_len tEs22 rfl ?_)
        intro n12 hn12
        try simp only [List.length_map] at hn12
        refine ei rfl rfl rfl ?_
        intro b13 hb13; cases b13
        · replace hb13 := dF hb13
          refine ev_q rfl (q_pickF rfl (by conv=>lhs;whnf) ?_)
          refine em rfl (by conv=>lhs;whnf) ?_
          refine em rfl (by conv=>lhs;whnf) ?_
          refine ev_q rfl (q_nilCheck (by conv=>lhs;whnf) rfl ?_)
          refine ev_q rfl (q_fieldAddr fO31_1 rfl rfl ?_)
          refine ev_q rfl (q_load tA29 rfl ?_)
          refine ev_q rfl (q_len tEs29 rfl ?_)
          intro n14 hn14
          try simp only [List.length_map] at hn14
          refine ei rfl rfl rfl ?_
          intro b15 hb15; cases b15
          · replace hb15 := dF hb15
            refine ev_q rfl (q_pickF rfl (by conv=>lhs;whnf) ?_)
            refine ev_nil (hK9 _ ?_); clear hK9
            refine good_condF rfl ?_
            refine good_skip (hK8 _ ?_); clear hK8
            refine good_seq fun K16 hK16 => ?_
            refine good_seq fun K17 hK17 => ?_
            refine gr rfl ?_
            refine ea rfl (by conv=>lhs;whnf) ?_
            refine ev_nil (hK17 _ ?_); clear hK17
            refine good_block ?_
            have hw : within ns (-100000) 100000 := all_finI (Q := fun _ q => (-100000) ≤ q ∧ q ≤ 100000) hJk (by omega)
            refine good_loop (α := Nat) (fun i => { env := upd (upd ((fun _ => .junk)) 0 (.rp [.lst 1 (ns.map ci), .lst 6 (ps.map piA)])) 4 (.s (.int .i64 i)), H := fun _ => none }) (fun i => i ≤ ps.length ∧ ∀ j p, j < i → ps[j]? = some p → piAt ns ps j p) (fun i => ps.length - i) 0 ?_ ?_ ?_
            · exact ⟨by omega, fun j u hj => by omega⟩
            · refine sub_weak ?_ ?_
              · exact weakH_none _
              · refine weakE_upd ?e4 ?r4 (weakE_upd ?e0 ?r0 (weakE_junk _ _))
                case e0 => first | rfl | exact fI (by omega) | (simp_all)
                case r0 => intro h hh; cases hh
                case e4 => first | rfl | exact fI (by omega) | (simp_all)
                case r4 => intro h hh; cases hh
            · rintro i ⟨hI, hJ⟩
              refine good_seq fun K18 hK18 => ?_
              refine good_seq fun K19 hK19 => ?_
              refine gr rfl ?_
              refine em rfl (by conv=>lhs;whnf) ?_
              refine em rfl (by conv=>lhs;whnf) ?_
              refine ev_q rfl (q_nilCheck (by conv=>lhs;whnf) rfl ?_)
              refine ev_q rfl (q_fieldAddr fO31_1 rfl rfl ?_)
              refine ev_q rfl (q_load tA29 rfl ?_)
              refine ev_q rfl (q_len tEs29 rfl ?_)
              intro n20 hn20
              try simp only [List.length_map] at hn20
              refine ei rfl rfl rfl ?_
              intro b21 hb21; cases b21
              · replace hb21 := dF hb21
                refine ev_nil (hK19 _ ?_); clear hK19
                refine good_condF rfl ?_
                refine good_exit ?_
                repeat first|refine thenQ_exit ?_|refine blockQ_pass rfl ?_
                refine blockQ_exit (hK16 _ ?_); clear hK16
                refine good_seq fun K22 hK22 => ?_
                refine gr rfl ?_
                refine ea rfl (by conv=>lhs;whnf) ?_
                refine ev_nil (hK22 _ ?_); clear hK22
                refine good_ret ?_
                repeat first|refine thenQ_ret ?_|refine blockQ_ret ?_
                refine ret_tmp (st := _) rfl (by conv=>lhs;whnf) rfl ?_
                clear hK4 hK18
                first | exact fT ⟨⟨⟨by omega, by omega⟩, by assumption, by omega⟩, all_finS (Q := fun j p => piAt ns ps j p) hJ (by omega)⟩ | exact fF (fun h => by have h1 := h.1; first | omega | (have := h1.2.1 _ _ hpk; omega)) | exact fF (net_no hpp (fun ⟨h1, h2⟩ => by first | exact absurd h1 (by assumption) | exact hE (h2 q (by omega) (by rw [← hq]; congr 1; omega))))
              · replace hb21 := dT hb21
                obtain ⟨p, hpp⟩ := getL (xs := ps) (n := (i : Int)) (by omega) (by omega)
                replace hpp : ps[i]? = some p := hpp
                have hzp := hz i p hpp
                refine ev_nil (hK19 _ ?_); clear hK19
                refine good_condT rfl ?_
                refine good_skip (hK18 _ ?_); clear hK18
                refine good_seq fun K23 hK23 => ?_
                refine good_block ?_
                refine good_seq fun K24 hK24 => ?_
                refine good_draw 33 hmix (by kernel_rfl) rfl ?_
                refine qm rfl (by conv=>lhs;whnf) ?_
                refine qm rfl (by conv=>lhs;whnf) ?_
                refine qo_q rfl (q_nilCheck (by conv=>lhs;whnf) rfl ?_)
                refine qo_q rfl (q_fieldAddr fO31_1 rfl rfl ?_)
                refine qo_q rfl (q_load tA29 rfl ?_)
                refine qm rfl (by conv=>lhs;whnf) ?_
                refine qo_q rfl (q_idx tE29 rfl rfl (by exact Int.natCast_nonneg _) (by exact map_get hpp) rfl ?_)
                refine qo_q rfl (q_callB rfl rfl (rfl) (D_spec_l04Fits ns ps _ _ _ _ _ _ hn (by assumption)) ?_)
                intro b25 hb25; cases b25
                · first | replace hb25 := dF hb25 | skip
                  refine qo_q rfl (q_not rfl rfl ?_)
                  refine qm rfl (by conv=>lhs;whnf) ?_
                  refine qo_skip rfl ?_
                  refine qo_skip rfl ?_
                  refine qo_skip rfl ?_
                  refine qo_skip rfl ?_
                  refine qo_skip rfl ?_
                  refine qo_skip rfl ?_
                  refine qo_skip rfl ?_
                  refine qo_skip rfl ?_
                  refine qo_skip rfl ?_
                  refine qo_skip rfl ?_
                  refine qo_skip rfl ?_
                  refine qo_skip rfl ?_
                  refine qo_skip rfl ?_
                  refine qo_skip rfl ?_
                  refine qo_skip rfl ?_
                  refine qo_skip rfl ?_
                  refine qo_skip rfl ?_
                  refine qo_skip rfl ?_
                  refine qo_skip rfl ?_
                  refine qo_skip rfl ?_
                  refine qo_skip rfl ?_
                  refine qo_skip rfl ?_
                  refine qo_q rfl (q_pickT rfl (by conv=>lhs;whnf) ?_)
                  refine qo_nil ?_
                  refine ev_nil (hK24 _ ?_); clear hK24
                  refine good_condT rfl ?_
                  refine good_seq fun K26 hK26 => ?_
                  refine gr rfl ?_
                  refine ea rfl (by conv=>lhs;whnf) ?_
                  refine ev_nil (hK26 _ ?_); clear hK26
                  refine good_ret ?_
                  repeat first|refine thenQ_ret ?_|refine blockQ_ret ?_
                  refine ret_tmp (st := _) rfl (by conv=>lhs;whnf) rfl ?_
                  clear hK4 hK16 hK23
                  first | exact fT ⟨⟨⟨by omega, by omega⟩, by assumption, by omega⟩, all_finS (Q := fun j p => piAt ns ps j p) hJ (by omega)⟩ | exact fF (fun h => by have h1 := h.1; first | omega | (have := h1.2.1 _ _ hpk; omega)) | exact fF (net_no hpp (fun ⟨h1, h2⟩ => by first | exact absurd h1 (by assumption) | exact hE (h2 q (by omega) (by rw [← hq]; congr 1; omega))))
                · first | replace hb25 := dT hb25 | skip
                  refine qo_q rfl (q_not rfl rfl ?_)
                  refine qm rfl (by conv=>lhs;whnf) ?_
                  refine qm rfl (by conv=>lhs;whnf) ?_
                  refine qo_q rfl (q_int rfl rfl ?_)
                  intro b27 hb27; cases b27
                  · replace hb27 := dF hb27
                    refine qm rfl (by conv=>lhs;whnf) ?_
                    refine qo_skip rfl ?_
                    refine qo_skip rfl ?_
                    refine qo_skip rfl ?_
                    refine qo_skip rfl ?_
                    refine qo_skip rfl ?_
                    refine qo_skip rfl ?_
                    refine qo_skip rfl ?_
                    refine qo_skip rfl ?_
                    refine qo_skip rfl ?_
                    refine qo_skip rfl ?_
                    refine qo_skip rfl ?_
                    refine qo_skip rfl ?_
                    refine qo_skip rfl ?_
                    refine qo_skip rfl ?_
                    refine qo_skip rfl ?_
                    refine qo_skip rfl ?_
                    refine qo_skip rfl ?_
                    refine qo_skip rfl ?_
                    refine qo_q rfl (q_pickF rfl (by conv=>lhs;whnf) ?_)
                    refine qo_q rfl (q_pickF rfl (by conv=>lhs;whnf) ?_)
                    refine qo_nil ?_
                    refine ev_nil (hK24 _ ?_); clear hK24
                    refine good_condF rfl ?_
                    refine good_skip (hK23 _ ?_); clear hK23
                    refine gr rfl ?_
                    refine em rfl (by conv=>lhs;whnf) ?_
                    refine ei rfl rfl rfl ?_
                    intro n28 hn28
                    replace hn28 := in64 hn28 (by omega) (by omega)
                    refine ea rfl (by conv=>lhs;whnf) ?_
                    refine ev_nil ?_
                    clear hK4 hK16
                    refine ⟨i + 1, ?_, ?_, ?_⟩
                    · refine ⟨by omega, all_extS (Q := fun j p => piAt ns ps j p) hJ hpp ?_⟩
                      first | exact ⟨by assumption, fun y h0 hy => by first | omega | (have e : some y = some q := hy.symm.trans (by rw [← hq]; congr 1; omega); cases e; exact hE)⟩
                    · first | omega | (simp only []; omega) | (dsimp only; omega)
                    · refine sub_weak ?_ ?_
                      · exact weakH_none _
                      · refine weakE_upd ?e4 ?r4 (weakE_upd ?e0 ?r0 (weakE_junk _ _))
                        case e0 => first | rfl | exact fI (by omega) | (simp_all)
                        case r0 => intro h hh; cases hh
                        case e4 => first | rfl | exact fI (by omega) | (simp_all)
                        case r4 => intro h hh; cases hh
                  · replace hb27 := dT hb27
                    refine qm rfl (by conv=>lhs;whnf) ?_
                    refine qm rfl (by conv=>lhs;whnf) ?_
                    refine qo_q rfl (q_nilCheck (by conv=>lhs;whnf) rfl ?_)
                    refine qo_q rfl (q_fieldAddr fO31_1 rfl rfl ?_)
                    refine qo_q rfl (q_load tA29 rfl ?_)
                    refine qm rfl (by conv=>lhs;whnf) ?_
                    refine qo_q rfl (q_int rfl rfl ?_)
                    intro n29 hn29
                    replace hn29 := in64 hn29 (by omega) (by omega)
                    obtain ⟨q, hq⟩ := getL (xs := ps) (n := n29) (by omega) (by omega)
                    refine qo_q rfl (q_idx tE29 rfl rfl (by omega) (by exact map_get hq) rfl ?_)
                    refine qo_q rfl (q_fieldAddr fO59_0 rfl rfl ?_)
                    refine qo_q rfl (q_load tA9 rfl ?_)
                    refine qm rfl (by conv=>lhs;whnf) ?_
                    refine qo_q rfl (q_nilCheck (by conv=>lhs;whnf) rfl ?_)
                    refine qo_q rfl (q_fieldAddr fO31_1 rfl rfl ?_)
                    refine qo_q rfl (q_load tA29 rfl ?_)
                    refine qm rfl (by conv=>lhs;whnf) ?_
                    refine qo_q rfl (q_idx tE29 rfl rfl (by exact Int.natCast_nonneg _) (by exact map_get hpp) rfl ?_)
                    refine qo_q rfl (q_fieldAddr fO59_0 rfl rfl ?_)
                    refine qo_q rfl (q_load tA9 rfl ?_)
                    refine qo_q rfl (q_str rfl rfl ?_)
                    intro b30 hb30; cases b30
                    · have hE := lt_ge hb30
                      refine qo_q rfl (q_pickT rfl (by conv=>lhs;whnf) ?_)
                      refine qo_q rfl (q_pickF rfl (by conv=>lhs;whnf) ?_)
                      refine qo_nil ?_
                      refine ev_nil (hK24 _ ?_); clear hK24
                      refine good_condF rfl ?_
                      refine good_skip (hK23 _ ?_); clear hK23
                      refine gr rfl ?_
                      refine em rfl (by conv=>lhs;whnf) ?_
                      refine ei rfl rfl rfl ?_
                      intro n31 hn31
                      replace hn31 := in64 hn31 (by omega) (by omega)
                      refine ea rfl (by conv=>lhs;whnf) ?_
                      refine ev_nil ?_
                      clear hK4 hK16
                      refine ⟨i + 1, ?_, ?_, ?_⟩
                      · refine ⟨by omega, all_extS (Q := fun j p => piAt ns ps j p) hJ hpp ?_⟩
                        first | exact ⟨by assumption, fun y h0 hy => by first | omega | (have e : some y = some q := hy.symm.trans (by rw [← hq]; congr 1; omega); cases e; exact hE)⟩
                      · first | omega | (simp only []; omega) | (dsimp only; omega)
                      · refine sub_weak ?_ ?_
                        · exact weakH_none _
                        · refine weakE_upd ?e4 ?r4 (weakE_upd ?e0 ?r0 (weakE_junk _ _))
                          case e0 => first | rfl | exact fI (by omega) | (simp_all)
                          case r0 => intro h hh; cases hh
                          case e4 => first | rfl | exact fI (by omega) | (simp_all)
                          case r4 => intro h hh; cases hh
                    · have hE := nlt_ge hb30
                      refine qo_q rfl (q_pickT rfl (by conv=>lhs;whnf) ?_)
                      refine qo_q rfl (q_pickF rfl (by conv=>lhs;whnf) ?_)
                      refine qo_nil ?_
                      refine ev_nil (hK24 _ ?_); clear hK24
                      refine good_condT rfl ?_
                      refine good_seq fun K32 hK32 => ?_
                      refine gr rfl ?_
                      refine ea rfl (by conv=>lhs;whnf) ?_
                      refine ev_nil (hK32 _ ?_); clear hK32
                      refine good_ret ?_
                      repeat first|refine thenQ_ret ?_|refine blockQ_ret ?_
                      refine ret_tmp (st := _) rfl (by conv=>lhs;whnf) rfl ?_
                      clear hK4 hK16 hK23
                      first | exact fT ⟨⟨⟨by omega, by omega⟩, by assumption, by omega⟩, all_finS (Q := fun j p => piAt ns ps j p) hJ (by omega)⟩ | exact fF (fun h => by have h1 := h.1; first | omega | (have := h1.2.1 _ _ hpk; omega)) | exact fF (net_no hpp (fun ⟨h1, h2⟩ => by first | exact absurd h1 (by assumption) | exact hE (h2 q (by omega) (by rw [← hq]; congr 1; omega))))
          · replace hb15 := dT hb15
            refine ev_q rfl (q_pickF rfl (by conv=>lhs;whnf) ?_)
            refine ev_nil (hK9 _ ?_); clear hK9
            refine good_condT rfl ?_
            refine good_seq fun K33 hK33 => ?_
            refine gr rfl ?_
            refine ea rfl (by conv=>lhs;whnf) ?_
            refine ev_nil (hK33 _ ?_); clear hK33
            refine good_ret ?_
            repeat first|refine thenQ_ret ?_|refine blockQ_ret ?_
            refine ret_tmp (st := _) rfl (by conv=>lhs;whnf) rfl ?_
            clear hK4 hK8
            first | exact fT ⟨⟨⟨by omega, by omega⟩, by assumption, by omega⟩, all_finS (Q := fun j p => piAt ns ps j p) hJ (by omega)⟩ | exact fF (fun h => by have h1 := h.1; first | omega | (have := h1.2.1 _ _ hpk; omega)) | exact fF (net_no hpp (fun ⟨h1, h2⟩ => by first | exact absurd h1 (by assumption) | exact hE (h2 q (by omega) (by rw [← hq]; congr 1; omega))))
        · replace hb13 := dT hb13
          refine ev_q rfl (q_pickF rfl (by conv=>lhs;whnf) ?_)
          refine em rfl (by conv=>lhs;whnf) ?_
          refine ev_skip rfl ?_
          refine ev_skip rfl ?_
          refine ev_skip rfl ?_
          refine ev_skip rfl ?_
          refine ev_skip rfl ?_
          refine ev_skip rfl ?_
          refine ev_q rfl (q_pickT rfl (by conv=>lhs;whnf) ?_)
          refine ev_nil (hK9 _ ?_); clear hK9
          refine good_condT rfl ?_
          refine good_seq fun K34 hK34 => ?_
          refine gr rfl ?_
          refine ea rfl (by conv=>lhs;whnf) ?_
          refine ev_nil (hK34 _ ?_); clear hK34
          refine good_ret ?_
          repeat first|refine thenQ_ret ?_|refine blockQ_ret ?_
          refine ret_tmp (st := _) rfl (by conv=>lhs;whnf) rfl ?_
          clear hK4 hK8
          first | exact fT ⟨⟨⟨by omega, by omega⟩, by assumption, by omega⟩, all_finS (Q := fun j p => piAt ns ps j p) hJ (by omega)⟩ | exact fF (fun h => by have h1 := h.1; first | omega | (have := h1.2.1 _ _ hpk; omega)) | exact fF (net_no hpp (fun ⟨h1, h2⟩ => by first | exact absurd h1 (by assumption) | exact hE (h2 q (by omega) (by rw [← hq]; congr 1; omega))))
      · replace hb11 := dT hb11
        refine em rfl (by conv=>lhs;whnf) ?_
        refine ev_skip rfl ?_
        refine ev_skip rfl ?_
        refine ev_skip rfl ?_
        refine ev_skip rfl ?_
        refine ev_skip rfl ?_
        refine ev_skip rfl ?_
        refine ev_q rfl (q_pickT rfl (by conv=>lhs;whnf) ?_)
        refine em rfl (by conv=>lhs;whnf) ?_
        refine ev_skip rfl ?_
        refine ev_skip rfl ?_
        refine ev_skip rfl ?_
        refine ev_skip rfl ?_
        refine ev_skip rfl ?_
        refine ev_skip rfl ?_
        refine ev_q rfl (q_pickT rfl (by conv=>lhs;whnf) ?_)
        refine ev_nil (hK9 _ ?_); clear hK9
        refine good_condT rfl ?_
        refine good_seq fun K35 hK35 => ?_
        refine gr rfl ?_
        refine ea rfl (by conv=>lhs;whnf) ?_
        refine ev_nil (hK35 _ ?_); clear hK35
        refine good_ret ?_
        repeat first|refine thenQ_ret ?_|refine blockQ_ret ?_
        refine ret_tmp (st := _) rfl (by conv=>lhs;whnf) rfl ?_
        clear hK4 hK8
        first | exact fT ⟨⟨⟨by omega, by omega⟩, by assumption, by omega⟩, all_finS (Q := fun j p => piAt ns ps j p) hJ (by omega)⟩ | exact fF (fun h => by have h1 := h.1; first | omega | (have := h1.2.1 _ _ hpk; omega)) | exact fF (net_no hpp (fun ⟨h1, h2⟩ => by first | exact absurd h1 (by assumption) | exact hE (h2 q (by omega) (by rw [← hq]; congr 1; omega))))
    · replace hb7 := dT hb7
      obtain ⟨pk, hpk⟩ := getL (xs := ns) (n := (k : Int)) (by omega) (by omega)
      replace hpk : ns[k]? = some pk := hpk
      refine ev_nil (hK5 _ ?_); clear hK5
      refine good_condT rfl ?_
      refine good_skip (hK4 _ ?_); clear hK4
      refine good_seq fun K36 hK36 => ?_
      refine good_block ?_
      refine good_seq fun K37 hK37 => ?_
      refine gr rfl ?_
      refine em rfl (by conv=>lhs;whnf) ?_
      refine ev_q rfl (q_nilCheck (by conv=>lhs;whnf) rfl ?_)
      refine ev_q rfl (q_fieldAddr fO31_0 rfl rfl ?_)
      refine ev_q rfl (q_load tA22 rfl ?_)
      refine em rfl (by conv=>lhs;whnf) ?_
      refine ev_q rfl (q_idx tE22 rfl rfl (by exact Int.natCast_nonneg _) (by exact map_get hpk) rfl ?_)
      refine ev_q rfl (q_load tA2 rfl ?_)
      refine ev_q rfl (q_callB rfl rfl (rfl) (D_spec_l00In ..) ?_)
      intro b38 hb38; cases b38
      · first | replace hb38 := dF hb38 | skip
        refine ev_q rfl (q_not rfl rfl ?_)
        refine ev_nil (hK37 _ ?_); clear hK37
        refine good_condT rfl ?_
        refine good_seq fun K39 hK39 => ?_
        refine gr rfl ?_
        refine ea rfl (by conv=>lhs;whnf) ?_
        refine ev_nil (hK39 _ ?_); clear hK39
        refine good_ret ?_
        repeat first|refine thenQ_ret ?_|refine blockQ_ret ?_
        refine ret_tmp (st := _) rfl (by conv=>lhs;whnf) rfl ?_
        clear hK2 hK36
        first | exact fT ⟨⟨⟨by omega, by omega⟩, by assumption, by omega⟩, all_finS (Q := fun j p => piAt ns ps j p) hJ (by omega)⟩ | exact fF (fun h => by have h1 := h.1; first | omega | (have := h1.2.1 _ _ hpk; omega)) | exact fF (net_no hpp (fun ⟨h1, h2⟩ => by first | exact absurd h1 (by assumption) | exact hE (h2 q (by omega) (by rw [← hq]; congr 1; omega))))
      · first | replace hb38 := dT hb38 | skip
        refine ev_q rfl (q_not rfl rfl ?_)
        refine ev_nil (hK37 _ ?_); clear hK37
        refine good_condF rfl ?_
        refine good_skip (hK36 _ ?_); clear hK36
        refine gr rfl ?_
        refine em rfl (by conv=>lhs;whnf) ?_
        refine ei rfl rfl rfl ?_
        intro n40 hn40
        replace hn40 := in64 hn40 (by omega) (by omega)
        refine ea rfl (by conv=>lhs;whnf) ?_
        refine ev_nil ?_
        clear hK2
        refine ⟨k + 1, ?_, ?_, ?_⟩
        · exact ⟨by omega, all_extI (Q := fun _ q => (-100000) ≤ q ∧ q ≤ 100000) hJk hpk (by omega)⟩
        · first | omega | (simp only []; omega) | (dsimp only; omega)
        · refine sub_weak ?_ ?_
          · exact weakH_none _
          · refine weakE_upd ?e3 ?r3 (weakE_upd ?e0 ?r0 (weakE_junk _ _))
            case e0 => first | rfl | exact fI (by omega) | (simp_all)
            case r0 => intro h hh; cases hh
            case e3 => first | rfl | exact fI (by omega) | (simp_all)
            case r3 => intro h hh; cases hh

-- (impl.Pipe).other
theorem D_impl_Pipe_other (s : ByteArray) (fm tt le di lo k : Int)  : Den Try.prog 79 [.agg [.s (.string s), .s (.int .i64 fm), .s (.int .i64 tt), .s (.int .i64 le), .s (.int .i64 di), .s (.int .i64 lo)], .s (.int .i64 k)] (.tup [.s (.int .i64 (oth fm tt k)), .s (.bool (decide (k = fm ∨ k = tt)))]) := by
  refine den_of_good Try.func79 (by decide) rfl (Nat.le_of_ble_eq_true rfl) (Nat.le_of_ble_eq_true rfl) ?_
  refine good_seq fun K1 hK1 => ?_
  refine gr rfl ?_
  refine ev_k rfl (k_box (by conv=>lhs;whnf) rfl rfl rfl ?_)
  refine ea rfl (by conv=>lhs;whnf) ?_
  refine ea rfl (by conv=>lhs;whnf) ?_
  refine ev_nil (hK1 _ ?_); clear hK1
  refine good_seq fun K2 hK2 => ?_
  refine good_seq fun K3 hK3 => ?_
  refine gr rfl ?_
  refine em rfl (by conv=>lhs;whnf) ?_
  refine ev_nil (hK3 _ ?_); clear hK3
  refine good_block ?_
  refine good_seq fun K4 hK4 => ?_
  refine gr rfl ?_
  refine ev_q rfl (q_fieldAddrP fO59_1 rfl rfl ?_)
  refine ev_q rfl (q_load tA2 rfl ?_)
  refine ei rfl rfl rfl ?_
  intro b5 hb5; cases b5
  · replace hb5 := eqF hb5
    refine ea rfl (by conv=>lhs;whnf) ?_
    refine ev_nil (hK4 _ ?_); clear hK4
    refine good_condF rfl ?_
    refine good_seq fun K6 hK6 => ?_
    refine gr rfl ?_
    refine ev_q rfl (q_fieldAddrP fO59_2 rfl rfl ?_)
    refine ev_q rfl (q_load tA2 rfl ?_)
    refine ei rfl rfl rfl ?_
    intro b7 hb7; cases b7
    · replace hb7 := eqF hb7
      refine ea rfl (by conv=>lhs;whnf) ?_
      refine ev_nil (hK6 _ ?_); clear hK6
      refine good_condF rfl ?_
      refine good_skip (hK2 _ ?_); clear hK2
      refine good_seq fun K8 hK8 => ?_
      refine gr rfl ?_
      refine ea rfl (by conv=>lhs;whnf) ?_
      refine ea rfl (by conv=>lhs;whnf) ?_
      refine ev_nil (hK8 _ ?_); clear hK8
      refine good_ret ?_
      repeat first|refine thenQ_ret ?_|refine blockQ_ret ?_
      refine ret_many rfl ?_
      refine res_tmp (by conv=>lhs;whnf) rfl ?_
      refine res_tmp (by conv=>lhs;whnf) rfl ?_
      refine res_nil ?_
      first | exact fTup1 (fI (by unfold oth; grind)) (fTup1 (fT (by omega)) rfl) | exact fTup1 (fI (by unfold oth; grind)) (fTup1 (fF (by omega)) rfl)
    · replace hb7 := eqT hb7
      refine ea rfl (by conv=>lhs;whnf) ?_
      refine ev_nil (hK6 _ ?_); clear hK6
      refine good_condT rfl ?_
      refine good_seq fun K9 hK9 => ?_
      refine gr rfl ?_
      refine ev_q rfl (q_fieldAddrP fO59_1 rfl rfl ?_)
      refine ev_q rfl (q_load tA2 rfl ?_)
      refine ea rfl (by conv=>lhs;whnf) ?_
      refine ea rfl (by conv=>lhs;whnf) ?_
      refine ev_nil (hK9 _ ?_); clear hK9
      refine good_ret ?_
      repeat first|refine thenQ_ret ?_|refine blockQ_ret ?_
      refine ret_many rfl ?_
      refine res_tmp (by conv=>lhs;whnf) rfl ?_
      refine res_tmp (by conv=>lhs;whnf) rfl ?_
      refine res_nil ?_
      clear hK2
      first | exact fTup1 (fI (by unfold oth; grind)) (fTup1 (fT (by omega)) rfl) | exact fTup1 (fI (by unfold oth; grind)) (fTup1 (fF (by omega)) rfl)
  · replace hb5 := eqT hb5
    refine ea rfl (by conv=>lhs;whnf) ?_
    refine ev_nil (hK4 _ ?_); clear hK4
    refine good_condT rfl ?_
    refine good_seq fun K10 hK10 => ?_
    refine gr rfl ?_
    refine ev_q rfl (q_fieldAddrP fO59_2 rfl rfl ?_)
    refine ev_q rfl (q_load tA2 rfl ?_)
    refine ea rfl (by conv=>lhs;whnf) ?_
    refine ea rfl (by conv=>lhs;whnf) ?_
    refine ev_nil (hK10 _ ?_); clear hK10
    refine good_ret ?_
    repeat first|refine thenQ_ret ?_|refine blockQ_ret ?_
    refine ret_many rfl ?_
    refine res_tmp (by conv=>lhs;whnf) rfl ?_
    refine res_tmp (by conv=>lhs;whnf) rfl ?_
    refine res_nil ?_
    clear hK2
    first | exact fTup1 (fI (by unfold oth; grind)) (fTup1 (fT (by omega)) rfl) | exact fTup1 (fI (by unfold oth; grind)) (fTup1 (fF (by omega)) rfl)

-- (impl.Network).distances
theorem D_impl_Network_distances (ns : List Int) (ps : List Pi) (s : Int) (hn : ns.length ≤ 17592186044416) (hp : ps.length ≤ 2513169434843) (hz : idSz ps) (ok : netOk ns ps) (hs : 0 ≤ s ∧ s < ns.length) : DenX Try.prog 78 [] [.agg [.lst 1 (ns.map ci), .lst 6 (ps.map piA)], .s (.int .i64 s)] [(900001, .row 2 1 ((frR ns.length s.toNat (waysF (ps.map pe) ns.length s.toNat).2).map ci))] (.own 900001 ns.length) := by
  have h16 := ok.1.1
  have h20 := ok.1.2.2
  have hlt := esF_lt ok
  refine denX_of_good Try.func78 (by decide) rfl (Nat.le_of_ble_eq_true rfl) (Nat.le_of_ble_eq_true rfl) rfl ?_
  refine good_seq fun K1 hK1 => ?_
  refine gr rfl ?_
  refine ev_k rfl (k_box (by conv=>lhs;whnf) rfl rfl rfl ?_)
  refine ea rfl (by conv=>lhs;whnf) ?_
  refine ev_nil (hK1 _ ?_); clear hK1
  refine good_seq fun K2 hK2 => ?_
  refine gr rfl ?_
  refine ev_q rfl (q_fieldAddrP fO31_0 rfl rfl ?_)
  refine ev_q rfl (q_load tA22 rfl ?_)
  refine ev_q rfl (q_len tEs22 rfl ?_)
  intro n3 hn3
  try simp only [List.length_map] at hn3
  refine ev_k rfl (k_make tE22 rfl rfl zA2 tBy2 rfl (by omega) (by omega) (by omega) rfl (by show _ = ns.length; omega) ?_)
  refine ea rfl (by conv=>lhs;whnf) ?_
  refine ev_nil (hK2 _ ?_); clear hK2
  refine good_seq fun K4 hK4 => ?_
  refine good_seq fun K5 hK5 => ?_
  refine gr rfl ?_
  refine em rfl (by conv=>lhs;whnf) ?_
  refine ev_q rfl (q_len tEs22 rfl ?_)
  intro n6 hn6
  try simp only [List.length_map] at hn6
  refine em rfl (by conv=>lhs;whnf) ?_
  refine ev_nil (hK5 _ ?_); clear hK5
  refine good_block ?_
  refine good_loop (α := Nat) (fun i => { env := upd (upd (upd (upd (upd ((fun _ => .junk)) 1 (.s (.int .i64 s))) 2 (.ptr 2 0)) 5 (.own 15 ns.length)) 17 (.s (.int .i64 ((ns.length : Int))))) 18 (.s (.int .i64 ((i : Int)))), H := upd (upd ((fun _ => none)) 15 (some (.row 2 1 ((rpM i ns.length).map ci)))) 2 (some (.box 31 [.lst 1 (ns.map ci), .lst 6 (ps.map piA)])) }) (fun i => i ≤ ns.length) (fun i => ns.length - i) 0 ?_ ?_ ?_
  · exact Nat.zero_le _
  · refine sub_weak ?_ ?_
    · exact weakH_box (boxEq (rfl)) rfl (weakH_row (rowEq (by first | exact rpM_0)) (weakH_none _))
    · refine weakE_upd ?e18 ?r18 (weakE_upd ?e17 ?r17 (weakE_upd ?e5 ?r5 (weakE_upd ?e2 ?r2 (weakE_upd ?e1 ?r1 (weakE_junk _ _)))))
      case e1 => first | rfl | exact fI (by omega) | (simp_all)
      case r1 => intro h hh; cases hh
      case e2 => first | rfl | exact fI (by omega) | (simp_all)
      case r2 => intro h hh; simp [refs] at hh; subst hh; rfl
      case e5 => first | rfl | exact fI (by omega) | (simp_all)
      case r5 => intro h hh; simp [refs] at hh; subst hh; rfl
      case e17 => first | rfl | exact fI (by omega) | (simp_all)
      case r17 => intro h hh; cases hh
      case e18 => first | rfl | exact fI (by omega) | (simp_all)
      case r18 => intro h hh; cases hh
  · rintro i hi
    refine good_seq fun K7 hK7 => ?_
    refine gr rfl ?_
    refine ei rfl rfl rfl ?_
    intro b8 hb8; cases b8
    · replace hb8 := dF hb8
      refine ev_nil (hK7 _ ?_); clear hK7
      refine good_seq fun K9 hK9 => ?_
      refine good_condF rfl ?_
      refine good_exit ?_
      repeat first|refine thenQ_exit ?_|refine blockQ_pass rfl ?_
      refine blockQ_exit (hK4 _ ?_); clear hK4
      refine good_seq fun K10 hK10 => ?_
      refine gr rfl ?_
      refine em rfl (by conv=>lhs;whnf) ?_
      refine em rfl (by conv=>lhs;whnf) ?_
      refine ev_q rfl (q_idxO tE22 rfl rfl rfl (by first | exact Int.natCast_nonneg _ | omega) (by first | omega | (simp; omega)) rfl ?_)
      refine ev_k rfl (k_storeE sz2 rfl (by conv=>lhs;whnf) rfl rfl rfl (Nat.le_of_ble_eq_true rfl) rfl (by exact getWd (v := s.toNat) (by rw [rpM_len]; omega) (by omega)) (Nat.le_of_ble_eq_true rfl) rfl ?_)
      refine ev_nil (hK10 _ ?_); clear hK10
      refine good_seq fun K11 hK11 => ?_
      refine good_seq fun K12 hK12 => ?_
      refine gr rfl ?_
      refine em rfl (by conv=>lhs;whnf) ?_
      refine ev_k rfl (k_lit tE22 zA2 rfl rfl (by decide) (by decide) rfl rfl rfl ?_)
      refine ea rfl (by conv=>lhs;whnf) ?_
      refine ev_nil (hK12 _ ?_); clear hK12
      refine good_block ?_
      have ei : i = ns.length := by omega
      subst ei
      refine good_loop (α := Nat × (List Nat × List (Nat × Nat × Nat)) × List Int × Nat) (fun (k, y, W, j) => { env := upd (upd (upd ((fun _ => .junk)) 2 (.ptr 2 0)) 5 (.own 15 ns.length)) 7 (.osl 71 j (y.1.length - k)), H := upd (upd (upd ((fun _ => none)) 71 (some (.row 2 1 (W.map ci)))) 15 (some (.row 2 1 ((frR ns.length s.toNat y.2).map ci)))) 2 (some (.box 31 [.lst 1 (ns.map ci), .lst 6 (ps.map piA)])) }) (fun (k, y, W, j) => k ≤ y.1.length ∧ DO (ps.map pe) ns.length s.toNat k y ∧ wyO (ps.map pe) (ns.length - k) k y = (waysF (ps.map pe) ns.length s.toNat) ∧ Que W j k y.1) (fun (k, y, W, j) => ns.length - k) (0, ([s.toNat], []), [s], 0) ?_ ?_ ?_
      · exact ⟨Nat.zero_le _, dO_0 (by omega), rfl, ⟨Nat.zero_le _, Nat.le_refl _⟩, by show [s] = [((s.toNat : Nat) : Int)]; rw [Int.toNat_of_nonneg hs.1]⟩
      · refine Sub.trans (sub_move 7 29 71 rfl rfl rfl (by decide)) ?_
        refine Sub.trans (sub_osl 7 rfl rfl) ?_
        refine sub_weak ?_ ?_
        · exact weakH_box (boxEq (rfl)) rfl (weakH_row (rowEq (by first | exact frR_0)) (weakH_row (rowEq (rfl)) (weakH_none _)))
        · refine weakE_upd ?e7 ?r7 (weakE_upd ?e5 ?r5 (weakE_upd ?e2 ?r2 (weakE_junk _ _)))
          case e2 => first | rfl | exact fI (by omega) | (simp_all)
          case r2 => intro h hh; simp [refs] at hh; subst hh; rfl
          case e5 => first | rfl | exact fI (by omega) | (simp_all)
          case r5 => intro h hh; simp [refs] at hh; subst hh; rfl
          case e7 => first | rfl | exact fI (by omega) | (simp_all)
          case r7 => intro h hh; simp [refs] at hh; subst hh; rfl
      · rintro ⟨k, y, W, j⟩ ⟨hK, hV, hF, hQ0⟩
        refine good_seq fun K13 hK13 => ?_
        refine good_seq fun K14 hK14 => ?_
        refine gr rfl ?_
        refine em rfl (by conv=>lhs;whnf) ?_
        refine ev_q rfl (q_len tEs22 rfl ?_)
        intro n15 hn15
        try simp only [List.length_map] at hn15
        refine ei rfl rfl rfl ?_
        intro b16 hb16; cases b16
        · replace hb16 := dF hb16
          have hkl : y.1.length ≤ k := by omega
          refine ev_nil (hK14 _ ?_); clear hK14
          refine good_condF rfl ?_
          refine good_exit ?_
          repeat first|refine thenQ_exit ?_|refine blockQ_pass rfl ?_
          refine blockQ_exit (hK11 _ ?_); clear hK11
          refine good_seq fun K17 hK17 => ?_
          refine gr rfl ?_
          refine em rfl (by conv=>lhs;whnf) ?_
          refine ea rfl (by conv=>lhs;whnf) ?_
          refine ev_nil (hK17 _ ?_); clear hK17
          refine good_weak (sub_move 4 15 900001 rfl rfl rfl (by decide)) ?_
          refine good_ret ?_
          repeat first|refine thenQ_ret ?_|refine blockQ_ret ?_
          refine fx_tmp rfl (by conv=>lhs;whnf) ?_
          clear hK9 hK13
          have e : (waysF (ps.map pe) ns.length s.toNat) = y := by rw [← hF]; exact wyO_e hkl
          exact ⟨_, conv_eq (by first | rfl | (rw [e]; done) | (rw [e]; rfl) | exact ownEq (by first | omega | simp_all)), weakH_row (rowEq (by first | (rw [e]; done) | (rw [e]; rfl))) (weakH_none _), refsIn_ok rfl⟩
        · replace hb16 := dT hb16
          have hkl : k < y.1.length := by omega
          obtain ⟨u, hu⟩ : ∃ u, y.1[k]? = some u := ⟨_, List.getElem?_eq_getElem hkl⟩
          have hun := hV.iv.lt u (List.mem_of_getElem? hu)
          refine ev_nil (hK14 _ ?_); clear hK14
          refine good_condT rfl ?_
          refine good_skip (hK13 _ ?_); clear hK13
          refine good_seq fun K18 hK18 => ?_
          refine good_block ?_
          refine good_seq fun K19 hK19 => ?_
          refine gr rfl ?_
          refine ev_q rfl (q_fieldAddrP fO31_1 rfl rfl ?_)
          refine ev_q rfl (q_load tA29 rfl ?_)
          refine ev_q rfl (q_len tEs29 rfl ?_)
          intro n20 hn20
          try simp only [List.length_map] at hn20
          refine em rfl (by conv=>lhs;whnf) ?_
          refine ev_nil (hK19 _ ?_); clear hK19
          refine good_block ?_
          refine good_loop (α := Nat × (List Nat × List (Nat × Nat × Nat)) × List Int × Nat) (fun (m, z, V, j) => { env := upd (upd (upd (upd (upd (upd ((fun _ => .junk)) 2 (.ptr 2 0)) 5 (.own 15 ns.length)) 7 (.osl 71 j (z.1.length - k))) 36 (.lst 6 (ps.map piA))) 37 (.s (.int .i64 ((ps.length : Int))))) 38 (.s (.int .i64 ((m : Int)))), H := upd (upd (upd ((fun _ => none)) 71 (some (.row 2 1 (V.map ci)))) 15 (some (.row 2 1 ((frR ns.length s.toNat z.2).map ci)))) 2 (some (.box 31 [.lst 1 (ns.map ci), .lst 6 (ps.map piA)])) }) (fun (m, z, V, j) => m ≤ ps.length ∧ DInv (ps.map pe) ns.length s.toNat k u m z ∧ (∃ t, z.1 = y.1 ++ t) ∧ wyI u ((ps.map pe).drop m) m z = wyI u (ps.map pe) 0 y ∧ Que V j k z.1) (fun (m, z, V, j) => ps.length - m) (0, y, W, j) ?_ ?_ ?_
          · exact ⟨Nat.zero_le _, dO_in hu hV, ⟨[], by simp⟩, rfl, hQ0⟩
          · refine sub_weak ?_ ?_
            · exact weakH_box (boxEq (rfl)) rfl (weakH_row (rowEq (rfl)) (weakH_row (rowEq (rfl)) (weakH_none _)))
            · refine weakE_upd ?e38 ?r38 (weakE_upd ?e37 ?r37 (weakE_upd ?e36 ?r36 (weakE_upd ?e7 ?r7 (weakE_upd ?e5 ?r5 (weakE_upd ?e2 ?r2 (weakE_junk _ _))))))
              case e2 => first | rfl | exact fI (by omega) | (simp_all)
              case r2 => intro h hh; simp [refs] at hh; subst hh; rfl
              case e5 => first | rfl | exact fI (by omega) | (simp_all)
              case r5 => intro h hh; simp [refs] at hh; subst hh; rfl
              case e7 => first | rfl | exact fI (by omega) | (first | rfl | exact congrArg (AV.osl 71 _) (by simp; omega))
              case r7 => intro h hh; simp [refs] at hh; subst hh; rfl
              case e36 => first | rfl | exact fI (by omega) | (simp_all)
              case r36 => intro h hh; cases hh
              case e37 => first | rfl | exact fI (by omega) | (simp_all)
              case r37 => intro h hh; cases hh
              case e38 => first | rfl | exact fI (by omega) | (simp_all)
              case r38 => intro h hh; cases hh
          · rintro ⟨m, z, V, j⟩ ⟨hI, hD, hP, hB, hQ⟩
            refine good_seq fun K21 hK21 => ?_
            refine gr rfl ?_
            refine ei rfl rfl rfl ?_
            intro b22 hb22; cases b22
            · replace hb22 := dF hb22
              have hzk := (List.getElem?_eq_some_iff.1 hD.at_).1
              refine ev_nil (hK21 _ ?_); clear hK21
              refine good_seq fun K23 hK23 => ?_
              refine good_condF rfl ?_
              refine good_exit ?_
              repeat first|refine thenQ_exit ?_|refine blockQ_pass rfl ?_
              refine blockQ_exit (hK18 _ ?_); clear hK18
              refine gr rfl ?_
              refine em rfl (by conv=>lhs;whnf) ?_
              refine ev_q rfl (q_sliceL (j := j + 1) (m := z.1.length - (k + 1)) tE22 rfl rfl rfl rfl (by omega) (by omega) (by omega) (by first | rfl | omega) (by first | rfl | omega) ?_)
              refine ea rfl (by conv=>lhs;whnf) ?_
              refine ev_nil ?_
              clear hK9 hK11 hK23
              refine ⟨(k + 1, z, V, j + 1), ?_, ?_, ?_⟩
              · have hwe := wyI_end (u := u) (y := z) (i := m) (ps := ps) (by omega)
                rw [hwe] at hB
                have hDO := dO_step hlt hu hV
                rw [← hB] at hDO
                refine ⟨?_, hDO, ?_, hQ.nx hD.at_⟩
                · have := (List.getElem?_eq_some_iff.1 hD.at_).1
                  show k + 1 ≤ z.1.length; omega
                · show wyO _ _ (k + 1) z = _
                  rw [← hF, wyO_s hu (by have := len_le y.1 hV.iv.nd hV.iv.lt; omega), hB]
              · have := len_le y.1 hV.iv.nd hV.iv.lt; first | omega | (dsimp only; omega)
              · refine sub_weak ?_ ?_
                · exact weakH_box (boxEq (rfl)) rfl (weakH_row (rowEq (rfl)) (weakH_row (rowEq (rfl)) (weakH_none _)))
                · refine weakE_upd ?e7 ?r7 (weakE_upd ?e5 ?r5 (weakE_upd ?e2 ?r2 (weakE_junk _ _)))
                  case e2 => first | rfl | exact fI (by omega) | (simp_all)
                  case r2 => intro h hh; simp [refs] at hh; subst hh; rfl
                  case e5 => first | rfl | exact fI (by omega) | (simp_all)
                  case r5 => intro h hh; simp [refs] at hh; subst hh; rfl
                  case e7 => first | rfl | exact fI (by omega) | (simp_all)
                  case r7 => intro h hh; simp [refs] at hh; subst hh; rfl
            · replace hb22 := dT hb22
              obtain ⟨p, hpp⟩ := getL (xs := ps) (n := (m : Int)) (by omega) (by omega)
              replace hpp : ps[m]? = some p := hpp
              have hpo := (ok.2 m p hpp).1
              have hp1 := hpo.1.2.1
              have hp2 := hpo.1.2.2.1
              have hp3 := hpo.1.2.2.2.1
              have hlv := len_le z.1 hD.iv.nd hD.iv.lt
              have hv := hD.at_
              have hzk := (List.getElem?_eq_some_iff.1 hv).1
              have hbd := wyI_d (u := u) (y := z) hpp
              have hdE := dE (e := pe p) hlt (by rw [List.getElem?_map, hpp]; rfl) hD
              have hP0 := hP
              obtain ⟨tl, htl⟩ := hP
              have hzl := ways_cnt hD.wv
              have hql := hQ.len
              have hqj := hQ.1
              refine ev_nil (hK21 _ ?_); clear hK21
              refine good_seq fun K24 hK24 => ?_
              refine good_condT rfl ?_
              refine good_skip (hK24 _ ?_); clear hK24
              refine good_seq fun K25 hK25 => ?_
              refine good_block ?_
              refine good_seq fun K26 hK26 => ?_
              refine gr rfl ?_
              refine ev_q rfl (q_idx tE29 rfl rfl (by first | exact Int.natCast_nonneg _ | omega) (by exact map_get hpp) rfl ?_)
              refine ev_q rfl (q_loadA tA59 rfl rfl rfl ?_)
              refine ev_k rfl (k_alloc zA59 rfl ?_)
              refine ev_k rfl (k_store sz59 rfl (by conv=>lhs;whnf) rfl rfl rfl (Nat.le_of_ble_eq_true rfl) rfl ?_)
              refine ev_nil (hK26 _ ?_); clear hK26
              refine good_seq fun K27 hK27 => ?_
              refine good_draw 10 hmix (by kernel_rfl) rfl ?_
              refine qo_q rfl (q_loadA tA59 rfl rfl rfl ?_)
              refine qm rfl (by conv=>lhs;whnf) ?_
              refine qo_q rfl (q_idxL tE22 rfl rfl rfl (by first | exact Int.natCast_nonneg _ | omega) (by first | omega | (simp; omega)) rfl ?_)
              refine qo_q rfl (q_loadE tA2 rfl rfl (by exact map_get (hQ.hd hv)) rfl ?_)
              refine qo_q rfl (q_call rfl rfl (rfl) (D_impl_Pipe_other _ _ _ _ _ _ _) rfl ?_)
              refine qm rfl (by conv=>lhs;whnf) ?_
              refine qo_q rfl (q_extractI rfl rfl ?_)
              intro n28 hn28
              refine qo_q rfl (q_extractB rfl rfl ?_)
              intro b29 hb29; cases b29
              · first | replace hb29 := dF hb29 | skip
                have hE := wyE_F (i := m) (y := z) (oth_n (p := p) (u := u) (by omega) (by omega) (by assumption))
                rw [hE] at hdE hbd
                have hbN := hbd.symm.trans hB
                refine qa rfl (by conv=>lhs;whnf) ?_
                refine qa rfl (by conv=>lhs;whnf) ?_
                refine qo_nil ?_
                refine ev_nil (hK27 _ ?_); clear hK27
                refine good_seq fun K30 hK30 => ?_
                refine gr rfl ?_
                refine em rfl (by conv=>lhs;whnf) ?_
                refine em rfl (by conv=>lhs;whnf) ?_
                refine ev_skip rfl ?_
                refine ev_skip rfl ?_
                refine ev_skip rfl ?_
                refine ev_skip rfl ?_
                refine ev_skip rfl ?_
                refine ev_q rfl (q_pickF rfl (by conv=>lhs;whnf) ?_)
                refine ev_nil (hK30 _ ?_); clear hK30
                refine good_condF rfl ?_
                refine good_skip (hK25 _ ?_); clear hK25
                refine gr rfl ?_
                refine ei rfl rfl rfl ?_
                intro n31 hn31
                replace hn31 := in64 hn31 (by omega) (by omega)
                refine em rfl (by conv=>lhs;whnf) ?_
                refine ev_nil ?_
                clear hK9 hK11 hK18
                refine ⟨(m + 1, z, V, j), ?_, ?_, ?_⟩
                · exact ⟨by first | omega | (dsimp only; omega), hdE, hP0, hbN, hQ⟩
                · first | omega | (dsimp only; omega)
                · refine sub_weak ?_ ?_
                  · exact weakH_box (boxEq (rfl)) rfl (weakH_row (rowEq (by first | rfl | exact hS)) (weakH_row (rowEq (rfl)) (weakH_none _)))
                  · refine weakE_upd ?e38 ?r38 (weakE_upd ?e37 ?r37 (weakE_upd ?e36 ?r36 (weakE_upd ?e7 ?r7 (weakE_upd ?e5 ?r5 (weakE_upd ?e2 ?r2 (weakE_junk _ _))))))
                    case e2 => first | rfl | exact fI (by omega) | (simp_all)
                    case r2 => intro h hh; simp [refs] at hh; subst hh; rfl
                    case e5 => first | rfl | exact fI (by omega) | (simp_all)
                    case r5 => intro h hh; simp [refs] at hh; subst hh; rfl
                    case e7 => first | rfl | exact fI (by omega) | (first | rfl | exact congrArg (AV.osl 71 _) (by simp; omega))
                    case r7 => intro h hh; simp [refs] at hh; subst hh; rfl
                    case e36 => first | rfl | exact fI (by omega) | (simp_all)
                    case r36 => intro h hh; cases hh
                    case e37 => first | rfl | exact fI (by omega) | (simp_all)
                    case r37 => intro h hh; cases hh
                    case e38 => first | rfl | exact fI (by omega) | (simp_all)
                    case r38 => intro h hh; cases hh
              · first | replace hb29 := dT hb29 | skip
                have hox := oth_y (p := p) (u := u) (by omega) (by omega) (by assumption)
                rw [← hn28] at hox
                have hxn : n28.toNat < ns.length := nxt_lt (hlt (pe p) (List.mem_map_of_mem (List.mem_of_getElem? hpp))) hox.1
                have hfb := fr_bd (n := ns.length) (t := s.toNat) z.2 u
                refine qa rfl (by conv=>lhs;whnf) ?_
                refine qa rfl (by conv=>lhs;whnf) ?_
                refine qo_nil ?_
                refine ev_nil (hK27 _ ?_); clear hK27
                refine good_seq fun K32 hK32 => ?_
                refine gr rfl ?_
                refine em rfl (by conv=>lhs;whnf) ?_
                refine em rfl (by conv=>lhs;whnf) ?_
                refine em rfl (by conv=>lhs;whnf) ?_
                refine em rfl (by conv=>lhs;whnf) ?_
                refine ev_q rfl (q_idxO tE22 rfl rfl rfl (by first | exact Int.natCast_nonneg _ | omega) (by first | omega | (simp; omega)) rfl ?_)
                refine ev_q rfl (q_loadE tA2 rfl rfl (by exact frG (v := n28.toNat) (by omega) (by omega)) rfl ?_)
                refine ei rfl rfl rfl ?_
                intro b33 hb33; cases b33
                · replace hb33 := dF hb33
                  have hmm : n28.toNat ∈ z.1 := Classical.byContradiction fun hm => by have := hD.ne _ hxn hm; omega
                  have hE := wyE_M (i := m) hox.1 hmm
                  rw [hE] at hdE hbd
                  have hbN := hbd.symm.trans hB
                  refine ev_q rfl (q_pickT rfl (by conv=>lhs;whnf) ?_)
                  refine ev_nil (hK32 _ ?_); clear hK32
                  refine good_condF rfl ?_
                  refine good_skip (hK25 _ ?_); clear hK25
                  refine gr rfl ?_
                  refine ei rfl rfl rfl ?_
                  intro n34 hn34
                  replace hn34 := in64 hn34 (by omega) (by omega)
                  refine em rfl (by conv=>lhs;whnf) ?_
                  refine ev_nil ?_
                  clear hK9 hK11 hK18
                  refine ⟨(m + 1, z, V, j), ?_, ?_, ?_⟩
                  · exact ⟨by first | omega | (dsimp only; omega), hdE, hP0, hbN, hQ⟩
                  · first | omega | (dsimp only; omega)
                  · refine sub_weak ?_ ?_
                    · exact weakH_box (boxEq (rfl)) rfl (weakH_row (rowEq (by first | rfl | exact hS)) (weakH_row (rowEq (rfl)) (weakH_none _)))
                    · refine weakE_upd ?e38 ?r38 (weakE_upd ?e37 ?r37 (weakE_upd ?e36 ?r36 (weakE_upd ?e7 ?r7 (weakE_upd ?e5 ?r5 (weakE_upd ?e2 ?r2 (weakE_junk _ _))))))
                      case e2 => first | rfl | exact fI (by omega) | (simp_all)
                      case r2 => intro h hh; simp [refs] at hh; subst hh; rfl
                      case e5 => first | rfl | exact fI (by omega) | (simp_all)
                      case r5 => intro h hh; simp [refs] at hh; subst hh; rfl
                      case e7 => first | rfl | exact fI (by omega) | (first | rfl | exact congrArg (AV.osl 71 _) (by simp; omega))
                      case r7 => intro h hh; simp [refs] at hh; subst hh; rfl
                      case e36 => first | rfl | exact fI (by omega) | (simp_all)
                      case r36 => intro h hh; cases hh
                      case e37 => first | rfl | exact fI (by omega) | (simp_all)
                      case r37 => intro h hh; cases hh
                      case e38 => first | rfl | exact fI (by omega) | (simp_all)
                      case r38 => intro h hh; cases hh
                · replace hb33 := dT hb33
                  have hnm : ¬ n28.toNat ∈ z.1 := fun hm => by have := hD.nn _ hm; omega
                  have hE := wyE_T (i := m) hox.1 hnm
                  rw [hE] at hdE hbd
                  have hbN := hbd.symm.trans hB
                  refine ev_q rfl (q_pickT rfl (by conv=>lhs;whnf) ?_)
                  refine ev_nil (hK32 _ ?_); clear hK32
                  refine good_condT rfl ?_
                  refine good_seq fun K35 hK35 => ?_
                  refine gr rfl ?_
                  refine em rfl (by conv=>lhs;whnf) ?_
                  refine em rfl (by conv=>lhs;whnf) ?_
                  refine em rfl (by conv=>lhs;whnf) ?_
                  refine em rfl (by conv=>lhs;whnf) ?_
                  refine ev_q rfl (q_idxL tE22 rfl rfl rfl (by first | exact Int.natCast_nonneg _ | omega) (by first | omega | (simp; omega)) rfl ?_)
                  refine ev_q rfl (q_loadE tA2 rfl rfl (by exact map_get (hQ.hd hv)) rfl ?_)
                  refine ev_q rfl (q_idxO tE22 rfl rfl rfl (by first | exact Int.natCast_nonneg _ | omega) (by first | omega | (simp; omega)) rfl ?_)
                  refine ev_q rfl (q_loadE tA2 rfl rfl (by exact frG (v := u) rfl (by omega)) rfl ?_)
                  refine ei rfl rfl rfl ?_
                  intro n36 hn36
                  replace hn36 := in64 hn36 (by omega) (by omega)
                  have hS := frR_s (n := ns.length) (s := s.toNat) (ws := z.2) (v := n28.toNat) (u := u) (i := m) (k := n28) (x := n36) (by omega) (by omega)
                  refine ev_q rfl (q_idxO tE22 rfl rfl rfl (by first | exact Int.natCast_nonneg _ | omega) (by first | omega | (simp; omega)) rfl ?_)
                  refine ev_k rfl (k_storeE sz2 rfl (by conv=>lhs;whnf) rfl rfl rfl (Nat.le_of_ble_eq_true rfl) rfl (by exact frG (v := n28.toNat) (by omega) (by omega)) (Nat.le_of_ble_eq_true rfl) rfl ?_)
                  refine ev_nil (hK35 _ ?_); clear hK35
                  refine gr rfl ?_
                  refine em rfl (by conv=>lhs;whnf) ?_
                  refine em rfl (by conv=>lhs;whnf) ?_
                  refine ev_k rfl (k_lit tE22 zA2 rfl rfl (by decide) (by decide) rfl rfl rfl ?_)
                  refine ev_k rfl (k_appL tApp22 rfl rfl (by rw [List.length_map]; have := hQ.len; have := hQ.1; omega) rfl (.inr rfl) (by first | (simp [maxLen]; omega)) (by first | (simp; omega)) ?_)
                  rintro W37 j37 hW37
                  obtain ⟨V2, rfl, hQ2⟩ := hQ.app (v := n28.toNat) (by omega) (by omega) hW37
                  refine ea rfl (by conv=>lhs;whnf) ?_
                  refine ev_nil (hK25 _ ?_); clear hK25
                  refine gr rfl ?_
                  refine ei rfl rfl rfl ?_
                  intro n38 hn38
                  replace hn38 := in64 hn38 (by omega) (by omega)
                  refine em rfl (by conv=>lhs;whnf) ?_
                  refine ev_nil ?_
                  clear hK9 hK11 hK18
                  refine ⟨(m + 1, (z.1 ++ [n28.toNat], z.2 ++ [(n28.toNat, u, m)]), V2, j37), ?_, ?_, ?_⟩
                  · refine ⟨by first | omega | (dsimp only; omega), hdE, ⟨tl ++ [n28.toNat], by show z.1 ++ _ = _; rw [htl, List.append_assoc]⟩, hbN, hQ2⟩
                  · first | omega | (dsimp only; omega)
                  · refine sub_weak ?_ ?_
                    · exact weakH_box (boxEq (rfl)) rfl (weakH_row (rowEq (by first | rfl | exact hS)) (weakH_row (rowEq (rfl)) (weakH_none _)))
                    · refine weakE_upd ?e38 ?r38 (weakE_upd ?e37 ?r37 (weakE_upd ?e36 ?r36 (weakE_upd ?e7 ?r7 (weakE_upd ?e5 ?r5 (weakE_upd ?e2 ?r2 (weakE_junk _ _))))))
                      case e2 => first | rfl | exact fI (by omega) | (simp_all)
                      case r2 => intro h hh; simp [refs] at hh; subst hh; rfl
                      case e5 => first | rfl | exact fI (by omega) | (simp_all)
                      case r5 => intro h hh; simp [refs] at hh; subst hh; rfl
                      case e7 => first | rfl | exact fI (by omega) | (first | rfl | exact congrArg (AV.osl 71 _) (by simp; omega))
                      case r7 => intro h hh; simp [refs] at hh; subst hh; rfl
                      case e36 => first | rfl | exact fI (by omega) | (simp_all)
                      case r36 => intro h hh; cases hh
                      case e37 => first | rfl | exact fI (by omega) | (simp_all)
                      case r37 => intro h hh; cases hh
                      case e38 => first | rfl | exact fI (by omega) | (simp_all)
                      case r38 => intro h hh; cases hh
    · replace hb8 := dT hb8
      refine ev_nil (hK7 _ ?_); clear hK7
      refine good_seq fun K39 hK39 => ?_
      refine good_condT rfl ?_
      refine good_skip (hK39 _ ?_); clear hK39
      refine good_seq fun K40 hK40 => ?_
      refine good_block ?_
      refine good_seq fun K41 hK41 => ?_
      refine gr rfl ?_
      refine em rfl (by conv=>lhs;whnf) ?_
      refine ea rfl (by conv=>lhs;whnf) ?_
      refine ev_nil (hK41 _ ?_); clear hK41
      refine gr rfl ?_
      refine em rfl (by conv=>lhs;whnf) ?_
      refine em rfl (by conv=>lhs;whnf) ?_
      refine ev_q rfl (q_idxO tE22 rfl rfl rfl (by first | exact Int.natCast_nonneg _ | omega) (by first | omega | (simp; omega)) rfl ?_)
      refine ev_k rfl (k_storeE sz2 rfl (by conv=>lhs;whnf) rfl rfl rfl (Nat.le_of_ble_eq_true rfl) rfl (by exact getWd (v := i) (by rw [rpM_len]; omega) rfl) (Nat.le_of_ble_eq_true rfl) rfl ?_)
      refine ev_nil (hK40 _ ?_); clear hK40
      refine gr rfl ?_
      refine ei rfl rfl rfl ?_
      intro n42 hn42
      replace hn42 := in64 hn42 (by omega) (by omega)
      refine em rfl (by conv=>lhs;whnf) ?_
      refine ev_nil ?_
      clear hK4
      refine ⟨i + 1, ?_, ?_, ?_⟩
      · show _ ≤ _; omega
      · first | omega | (simp only []; omega) | (dsimp only; omega)
      · refine sub_weak ?_ ?_
        · exact weakH_box (boxEq (rfl)) rfl (weakH_row (rowEq (by first | exact rpM_s (by omega))) (weakH_none _))
        · refine weakE_upd ?e18 ?r18 (weakE_upd ?e17 ?r17 (weakE_upd ?e5 ?r5 (weakE_upd ?e2 ?r2 (weakE_upd ?e1 ?r1 (weakE_junk _ _)))))
          case e1 => first | rfl | exact fI (by omega) | (simp_all)
          case r1 => intro h hh; cases hh
          case e2 => first | rfl | exact fI (by omega) | (simp_all)
          case r2 => intro h hh; simp [refs] at hh; subst hh; rfl
          case e5 => first | rfl | exact fI (by omega) | (simp_all)
          case r5 => intro h hh; simp [refs] at hh; subst hh; rfl
          case e17 => first | rfl | exact fI (by omega) | (simp_all)
          case r17 => intro h hh; cases hh
          case e18 => first | rfl | exact fI (by omega) | (simp_all)
          case r18 => intro h hh; cases hh

-- impl.PathOf
theorem D_impl_PathOf_X (ns : List Int) (ps : List Pi) (a b : Int) (hn : ns.length ≤ 17592186044416) (hp : ps.length ≤ 2513169434843) (hz : idSz ps) : DenXR Try.prog 28 [] [.agg [.lst 1 (ns.map ci), .lst 6 (ps.map piA)], .s (.int .i64 a), .s (.int .i64 b)] (τ := List Int × Int) (fun (L, c) => ptR ns ps a b L c) (fun (L, c) => [(900002, .row 2 1 (L.map ci))]) (fun (L, c) => .tup [.own 900002 L.length, .s (.int .i64 c)]) := by
  refine denXR_of_good Try.func28 (by decide) rfl (Nat.le_of_ble_eq_true rfl) (Nat.le_of_ble_eq_true rfl) rfl ?_
  refine good_seq fun K1 hK1 => ?_
  refine gr rfl ?_
  refine ev_k rfl (k_box (by conv=>lhs;whnf) rfl rfl rfl ?_)
  refine ea rfl (by conv=>lhs;whnf) ?_
  refine ea rfl (by conv=>lhs;whnf) ?_
  refine ev_nil (hK1 _ ?_); clear hK1
  refine good_seq fun K2 hK2 => ?_
  refine good_block ?_
  refine good_seq fun K3 hK3 => ?_
  refine gr rfl ?_
  refine ev_q rfl (q_loadA tA31 rfl rfl rfl ?_)
  refine ev_q rfl (q_callB rfl rfl (rfl) (D_impl_ValidNetwork ns ps hn hp hz) ?_)
  intro b4 hb4; cases b4
  · first | replace hb4 := dF hb4 | skip
    refine ev_q rfl (q_not rfl rfl ?_)
    refine ea rfl (by conv=>lhs;whnf) ?_
    refine ev_nil (hK3 _ ?_); clear hK3
    refine good_condT rfl ?_
    refine good_seq fun K5 hK5 => ?_
    refine gr rfl ?_
    refine ea rfl (by conv=>lhs;whnf) ?_
    refine ea rfl (by conv=>lhs;whnf) ?_
    refine ev_nil (hK5 _ ?_); clear hK5
    refine good_ret ?_
    repeat first|refine thenQ_ret ?_|refine blockQ_ret ?_
    clear hK2
    refine ex_2 (v := []) (a := 1) ?hF ?hR
    case hF =>
      refine fx_many rfl ?_
      refine fxs_tmp (by conv=>lhs;whnf) ?_
      refine fxs_tmp (by conv=>lhs;whnf) ?_
      refine fx_nil ?_
      exact ⟨_, .tup (.cons (conv_nil rfl (by decide) (by rfl)) (.cons (conv_eq (by first | rfl | exact fI (by first | omega | grind) | (exfalso; first | omega | grind))) (.nil))), weakH_row (rowEq (by first | rfl | (rw [e]; done) | (rw [e]; rfl) | (simp_all; done))) (weakH_none _), refsIn_ok rfl⟩
    case hR =>
      first | exact pt_1 (by assumption) | exact pt_2 (by assumption) (by omega) | exact pt_3 hnk hbb (by omega) | (have eu : (u : Int) = b := (by omega); have hq : PW ns ps a b (u : Int) L := hPW; rw [eu] at hq; exact pt_0 hnk hbb (by omega) hq)
  · first | replace hb4 := dT hb4 | skip
    refine ev_q rfl (q_not rfl rfl ?_)
    refine ea rfl (by conv=>lhs;whnf) ?_
    refine ev_nil (hK3 _ ?_); clear hK3
    refine good_condF rfl ?_
    refine good_seq fun K6 hK6 => ?_
    refine gr rfl ?_
    refine ev_q rfl (q_loadA tA31 rfl rfl rfl ?_)
    refine em rfl (by conv=>lhs;whnf) ?_
    refine ev_q rfl (q_callB rfl rfl (rfl) (D_impl_Network_hasNode _ _ _ hn) ?_)
    intro b7 hb7; cases b7
    · first | replace hb7 := dF hb7 | skip
      refine ev_q rfl (q_not rfl rfl ?_)
      refine em rfl (by conv=>lhs;whnf) ?_
      refine ev_skip rfl ?_
      refine ev_skip rfl ?_
      refine ev_skip rfl ?_
      refine ev_skip rfl ?_
      refine ev_q rfl (q_pickT rfl (by conv=>lhs;whnf) ?_)
      refine ea rfl (by conv=>lhs;whnf) ?_
      refine ev_nil (hK6 _ ?_); clear hK6
      refine good_condT rfl ?_
      refine good_seq fun K8 hK8 => ?_
      refine gr rfl ?_
      refine ea rfl (by conv=>lhs;whnf) ?_
      refine ea rfl (by conv=>lhs;whnf) ?_
      refine ev_nil (hK8 _ ?_); clear hK8
      refine good_ret ?_
      repeat first|refine thenQ_ret ?_|refine blockQ_ret ?_
      clear hK2
      refine ex_2 (v := []) (a := 2) ?hF ?hR
      case hF =>
        refine fx_many rfl ?_
        refine fxs_tmp (by conv=>lhs;whnf) ?_
        refine fxs_tmp (by conv=>lhs;whnf) ?_
        refine fx_nil ?_
        exact ⟨_, .tup (.cons (conv_nil rfl (by decide) (by rfl)) (.cons (conv_eq (by first | rfl | exact fI (by first | omega | grind) | (exfalso; first | omega | grind))) (.nil))), weakH_row (rowEq (by first | rfl | (rw [e]; done) | (rw [e]; rfl) | (simp_all; done))) (weakH_none _), refsIn_ok rfl⟩
      case hR =>
        first | exact pt_1 (by assumption) | exact pt_2 (by assumption) (by omega) | exact pt_3 hnk hbb (by omega) | (have eu : (u : Int) = b := (by omega); have hq : PW ns ps a b (u : Int) L := hPW; rw [eu] at hq; exact pt_0 hnk hbb (by omega) hq)
    · first | replace hb7 := dT hb7 | skip
      refine ev_q rfl (q_not rfl rfl ?_)
      refine em rfl (by conv=>lhs;whnf) ?_
      refine ev_q rfl (q_loadA tA31 rfl rfl rfl ?_)
      refine em rfl (by conv=>lhs;whnf) ?_
      refine ev_q rfl (q_callB rfl rfl (rfl) (D_impl_Network_hasNode _ _ _ hn) ?_)
      intro b9 hb9; cases b9
      · first | replace hb9 := dF hb9 | skip
        refine ev_q rfl (q_not rfl rfl ?_)
        refine ev_q rfl (q_pickF rfl (by conv=>lhs;whnf) ?_)
        refine ea rfl (by conv=>lhs;whnf) ?_
        refine ev_nil (hK6 _ ?_); clear hK6
        refine good_condT rfl ?_
        refine good_seq fun K10 hK10 => ?_
        refine gr rfl ?_
        refine ea rfl (by conv=>lhs;whnf) ?_
        refine ea rfl (by conv=>lhs;whnf) ?_
        refine ev_nil (hK10 _ ?_); clear hK10
        refine good_ret ?_
        repeat first|refine thenQ_ret ?_|refine blockQ_ret ?_
        clear hK2
        refine ex_2 (v := []) (a := 2) ?hF ?hR
        case hF =>
          refine fx_many rfl ?_
          refine fxs_tmp (by conv=>lhs;whnf) ?_
          refine fxs_tmp (by conv=>lhs;whnf) ?_
          refine fx_nil ?_
          exact ⟨_, .tup (.cons (conv_nil rfl (by decide) (by rfl)) (.cons (conv_eq (by first | rfl | exact fI (by first | omega | grind) | (exfalso; first | omega | grind))) (.nil))), weakH_row (rowEq (by first | rfl | (rw [e]; done) | (rw [e]; rfl) | (simp_all; done))) (weakH_none _), refsIn_ok rfl⟩
        case hR =>
          first | exact pt_1 (by assumption) | exact pt_2 (by assumption) (by omega) | exact pt_3 hnk hbb (by omega) | (have eu : (u : Int) = b := (by omega); have hq : PW ns ps a b (u : Int) L := hPW; rw [eu] at hq; exact pt_0 hnk hbb (by omega) hq)
      · first | replace hb9 := dT hb9 | skip
        refine ev_q rfl (q_not rfl rfl ?_)
        refine ev_q rfl (q_pickF rfl (by conv=>lhs;whnf) ?_)
        refine ea rfl (by conv=>lhs;whnf) ?_
        refine ev_nil (hK6 _ ?_); clear hK6
        refine good_condF rfl ?_
        refine good_skip (hK2 _ ?_); clear hK2
        refine good_seq fun K11 hK11 => ?_
        refine gr rfl ?_
        have hnk : netOk ns ps := by assumption
        have h16 := hnk.1.1
        have h20 := hnk.1.2.2
        have hbb : (0 ≤ a ∧ a < ns.length) ∧ (0 ≤ b ∧ b < ns.length) := by omega
        have hFr := (far_ok (es := (ps.map pe)) (n := ns.length) (t := b.toNat) (esF_lt hnk) (by omega)).r
        refine ev_q rfl (q_loadA tA31 rfl rfl rfl ?_)
        refine em rfl (by conv=>lhs;whnf) ?_
        refine ev_k rfl (k_callX [(900001, 900001)] (D_impl_Network_distances ns ps b hn hp hz hnk (by omega)) rfl (rfl) (rfl) trivial ⟨⟨rfl, show (900001 : Nat) < 1000000 by decide⟩, trivial⟩ rfl rfl rfl ?_)
        refine ea rfl (by conv=>lhs;whnf) ?_
        refine ev_nil (hK11 _ ?_); clear hK11
        refine good_seq fun K12 hK12 => ?_
        refine good_seq fun K13 hK13 => ?_
        refine gr rfl ?_
        refine em rfl (by conv=>lhs;whnf) ?_
        refine em rfl (by conv=>lhs;whnf) ?_
        refine ev_q rfl (q_idxO tE22 rfl rfl rfl (by first | exact Int.natCast_nonneg _ | omega) (by omega) rfl ?_)
        refine ev_q rfl (q_loadE tA2 rfl rfl (by exact farG (v := a.toNat) (by omega) (by omega)) rfl ?_)
        refine ei rfl rfl rfl ?_
        intro b14 hb14; cases b14
        · replace hb14 := dF hb14
          have hfa : 0 ≤ far (ps.map pe) ns.length b.toNat a.toNat := by omega
          refine ev_nil (hK13 _ ?_); clear hK13
          refine good_condF rfl ?_
          refine good_skip (hK12 _ ?_); clear hK12
          refine good_seq fun K15 hK15 => ?_
          refine gr rfl ?_
          refine ea rfl (by conv=>lhs;whnf) ?_
          refine ev_nil (hK15 _ ?_); clear hK15
          refine good_seq fun K16 hK16 => ?_
          refine good_seq fun K17 hK17 => ?_
          refine gr rfl ?_
          refine em rfl (by conv=>lhs;whnf) ?_
          refine ea rfl (by conv=>lhs;whnf) ?_
          refine ev_nil (hK17 _ ?_); clear hK17
          refine good_block ?_
          refine good_loop (α := List Int × Nat) (fun (L, u) => { env := upd (upd (upd (upd (upd ((fun _ => .junk)) 2 (.s (.int .i64 b))) 3 (.ptr 3 0)) 8 (.own 900001 ns.length)) 9 (.own 77 L.length)) 10 (.s (.int .i64 ((u : Int)))), H := upd (upd (upd ((fun _ => none)) 77 (some (.row 2 1 (L.map ci)))) 900001 (some (.row 2 1 ((frR ns.length b.toNat (waysF (ps.map pe) ns.length b.toNat).2).map ci)))) 3 (some (.box 31 [.lst 1 (ns.map ci), .lst 6 (ps.map piA)])) }) (fun (L, u) => PW ns ps a b (u : Int) L) (fun (L, u) => (far (ps.map pe) ns.length b.toNat u).toNat) ([], a.toNat) ?_ ?_ ?_
          · show PW ns ps a b ((a.toNat : Nat) : Int) []
            rw [Int.toNat_of_nonneg hbb.1.1]; exact PW_0 hbb.1 hfa
          · refine Sub.trans (sub_nil 9 77 2 1 rfl rfl (by decide)) ?_
            refine sub_weak ?_ ?_
            · exact weakH_box (boxEq (rfl)) rfl (weakH_row (rowEq (rfl)) (weakH_row (rowEq (rfl)) (weakH_none _)))
            · refine weakE_upd ?e10 ?r10 (weakE_upd ?e9 ?r9 (weakE_upd ?e8 ?r8 (weakE_upd ?e3 ?r3 (weakE_upd ?e2 ?r2 (weakE_junk _ _)))))
              case e2 => first | rfl | exact fI (by omega) | (simp_all)
              case r2 => intro h hh; cases hh
              case e3 => first | rfl | exact fI (by omega) | (simp_all)
              case r3 => intro h hh; simp [refs] at hh; subst hh; rfl
              case e8 => first | rfl | exact fI (by omega) | (simp_all)
              case r8 => intro h hh; simp [refs] at hh; subst hh; rfl
              case e9 => first | rfl | exact fI (by omega) | (first | rfl | exact ownEq (by simp))
              case r9 => intro h hh; simp [refs] at hh; subst hh; rfl
              case e10 => first | rfl | exact fI (by omega) | (first | rfl | exact fI (by omega))
              case r10 => intro h hh; cases hh
          · rintro ⟨L, u⟩ hPW
            refine good_seq fun K18 hK18 => ?_
            refine good_seq fun K19 hK19 => ?_
            refine gr rfl ?_
            refine em rfl (by conv=>lhs;whnf) ?_
            refine em rfl (by conv=>lhs;whnf) ?_
            refine ei rfl rfl rfl ?_
            intro b20 hb20; cases b20
            · replace hb20 := neF hb20
              refine ev_nil (hK19 _ ?_); clear hK19
              refine good_condF rfl ?_
              refine good_exit ?_
              repeat first|refine thenQ_exit ?_|refine blockQ_pass rfl ?_
              refine blockQ_exit (hK16 _ ?_); clear hK16
              refine good_seq fun K21 hK21 => ?_
              refine gr rfl ?_
              refine em rfl (by conv=>lhs;whnf) ?_
              refine ea rfl (by conv=>lhs;whnf) ?_
              refine ea rfl (by conv=>lhs;whnf) ?_
              refine ev_nil (hK21 _ ?_); clear hK21
              refine good_weak (sub_move 6 77 900002 rfl rfl rfl (by decide)) ?_
              refine good_ret ?_
              repeat first|refine thenQ_ret ?_|refine blockQ_ret ?_
              clear hK18
              refine ex_2 (v := L) (a := 0) ?hF ?hR
              case hF =>
                refine fx_many rfl ?_
                refine fxs_tmp (by conv=>lhs;whnf) ?_
                refine fxs_tmp (by conv=>lhs;whnf) ?_
                refine fx_nil ?_
                exact ⟨_, .tup (.cons (conv_eq (by first | rfl | (rw [e]; done) | (rw [e]; rfl) | exact ownEq (by first | omega | simp_all))) (.cons (conv_eq (by first | rfl | exact fI (by first | omega | grind) | (exfalso; first | omega | grind))) (.nil))), weakH_row (rowEq (by first | rfl | (rw [e]; done) | (rw [e]; rfl) | (simp_all; done))) (weakH_none _), refsIn_ok rfl⟩
              case hR =>
                first | exact pt_1 (by assumption) | exact pt_2 (by assumption) (by omega) | exact pt_3 hnk hbb (by omega) | (have eu : (u : Int) = b := (by omega); have hq : PW ns ps a b (u : Int) L := hPW; rw [eu] at hq; exact pt_0 hnk hbb (by omega) hq)
            · replace hb20 := neT hb20
              have hat := PW_at hPW
              have hat2 : far (ps.map pe) ns.length b.toNat u = far (ps.map pe) ns.length b.toNat a.toNat - L.length := hat.2.1
              have hat3 : 0 ≤ far (ps.map pe) ns.length b.toNat u := hat.2.2
              have hla := hFr a.toNat (by omega)
              obtain ⟨hf1, kx, px, xx, hkx, hnx, hxn, hfx⟩ := pt_ex hnk hbb.2 (u := u) (by omega) hat.2.2 (by omega)
              refine ev_nil (hK19 _ ?_); clear hK19
              refine good_condT rfl ?_
              refine good_skip (hK18 _ ?_); clear hK18
              refine good_block ?_
              refine good_seq fun K22 hK22 => ?_
              refine gr rfl ?_
              refine ev_q rfl (q_fieldAddrP fO31_1 rfl rfl ?_)
              refine ev_q rfl (q_load tA29 rfl ?_)
              refine ev_q rfl (q_len tEs29 rfl ?_)
              intro n23 hn23
              try simp only [List.length_map] at hn23
              refine em rfl (by conv=>lhs;whnf) ?_
              refine ev_nil (hK22 _ ?_); clear hK22
              refine good_block ?_
              refine good_loop (α := Nat) (fun m => { env := upd (upd (upd (upd (upd (upd (upd (upd ((fun _ => .junk)) 2 (.s (.int .i64 b))) 3 (.ptr 3 0)) 8 (.own 900001 ns.length)) 9 (.own 77 L.length)) 10 (.s (.int .i64 ((u : Int))))) 43 (.lst 6 (ps.map piA))) 44 (.s (.int .i64 ((ps.length : Int))))) 45 (.s (.int .i64 ((m : Int)))), H := upd (upd (upd ((fun _ => none)) 77 (some (.row 2 1 (L.map ci)))) 900001 (some (.row 2 1 ((frR ns.length b.toNat (waysF (ps.map pe) ns.length b.toNat).2).map ci)))) 3 (some (.box 31 [.lst 1 (ns.map ci), .lst 6 (ps.map piA)])) }) (fun m => m ≤ ps.length ∧ ∀ (k : Nat) (q : Pi) (x : Nat), k < m → ps[k]? = some q → nxt (pe q) u = some x → ¬ far (ps.map pe) ns.length b.toNat x = far (ps.map pe) ns.length b.toNat u - 1) (fun m => ps.length - m) 0 ?_ ?_ ?_
              · exact ⟨Nat.zero_le _, fun k q x hk => by omega⟩
              · refine sub_weak ?_ ?_
                · exact weakH_box (boxEq (rfl)) rfl (weakH_row (rowEq (rfl)) (weakH_row (rowEq (rfl)) (weakH_none _)))
                · refine weakE_upd ?e45 ?r45 (weakE_upd ?e44 ?r44 (weakE_upd ?e43 ?r43 (weakE_upd ?e10 ?r10 (weakE_upd ?e9 ?r9 (weakE_upd ?e8 ?r8 (weakE_upd ?e3 ?r3 (weakE_upd ?e2 ?r2 (weakE_junk _ _))))))))
                  case e2 => first | rfl | exact fI (by omega) | (simp_all)
                  case r2 => intro h hh; cases hh
                  case e3 => first | rfl | exact fI (by omega) | (simp_all)
                  case r3 => intro h hh; simp [refs] at hh; subst hh; rfl
                  case e8 => first | rfl | exact fI (by omega) | (simp_all)
                  case r8 => intro h hh; simp [refs] at hh; subst hh; rfl
                  case e9 => first | rfl | exact fI (by omega) | (simp_all)
                  case r9 => intro h hh; simp [refs] at hh; subst hh; rfl
                  case e10 => first | rfl | exact fI (by omega) | (simp_all)
                  case r10 => intro h hh; cases hh
                  case e43 => first | rfl | exact fI (by omega) | (simp_all)
                  case r43 => intro h hh; cases hh
                  case e44 => first | rfl | exact fI (by omega) | (simp_all)
                  case r44 => intro h hh; cases hh
                  case e45 => first | rfl | exact fI (by omega) | (simp_all)
                  case r45 => intro h hh; cases hh
              · rintro m ⟨hI, hno⟩
                refine good_seq fun K24 hK24 => ?_
                refine gr rfl ?_
                refine ei rfl rfl rfl ?_
                intro b25 hb25; cases b25
                · replace hb25 := dF hb25
                  exfalso; exact hno kx px xx (by have := (List.getElem?_eq_some_iff.1 hkx).1; omega) hkx hnx hfx
                replace hb25 := dT hb25
                obtain ⟨p, hpp⟩ := getL (xs := ps) (n := (m : Int)) (by omega) (by omega)
                replace hpp : ps[m]? = some p := hpp
                have hpo := (hnk.2 m p hpp).1
                have hp1 := hpo.1.2.1
                have hp2 := hpo.1.2.2.1
                have hp3 := hpo.1.2.2.2.1
                refine ev_nil (hK24 _ ?_); clear hK24
                refine good_seq fun K26 hK26 => ?_
                refine good_condT rfl ?_
                refine good_skip (hK26 _ ?_); clear hK26
                refine good_seq fun K27 hK27 => ?_
                refine good_block ?_
                refine good_seq fun K28 hK28 => ?_
                refine gr rfl ?_
                refine em rfl (by conv=>lhs;whnf) ?_
                refine ev_q rfl (q_idx tE29 rfl rfl (by first | exact Int.natCast_nonneg _ | omega) (by exact map_get hpp) rfl ?_)
                refine ev_q rfl (q_loadA tA59 rfl rfl rfl ?_)
                refine ev_k rfl (k_alloc zA59 rfl ?_)
                refine ea rfl (by conv=>lhs;whnf) ?_
                refine ev_k rfl (k_store sz59 rfl (by conv=>lhs;whnf) rfl rfl rfl (Nat.le_of_ble_eq_true rfl) rfl ?_)
                refine ev_nil (hK28 _ ?_); clear hK28
                refine good_seq fun K29 hK29 => ?_
                refine gr rfl ?_
                refine ev_q rfl (q_loadA tA59 rfl rfl rfl ?_)
                refine em rfl (by conv=>lhs;whnf) ?_
                refine ev_q rfl (q_call rfl rfl (rfl) (D_impl_Pipe_other _ _ _ _ _ _ _) rfl ?_)
                refine em rfl (by conv=>lhs;whnf) ?_
                refine ev_q rfl (q_extractI rfl rfl ?_)
                intro n30 hn30
                refine ev_q rfl (q_extractB rfl rfl ?_)
                intro b31 hb31; cases b31
                · first | replace hb31 := dF hb31 | skip
                  refine ea rfl (by conv=>lhs;whnf) ?_
                  refine ea rfl (by conv=>lhs;whnf) ?_
                  refine ev_nil (hK29 _ ?_); clear hK29
                  refine good_seq fun K32 hK32 => ?_
                  refine good_draw 13 hmix (by kernel_rfl) rfl ?_
                  refine qm rfl (by conv=>lhs;whnf) ?_
                  refine qm rfl (by conv=>lhs;whnf) ?_
                  refine qo_skip rfl ?_
                  refine qo_skip rfl ?_
                  refine qo_skip rfl ?_
                  refine qo_skip rfl ?_
                  refine qo_skip rfl ?_
                  refine qo_skip rfl ?_
                  refine qo_skip rfl ?_
                  refine qo_skip rfl ?_
                  refine qo_skip rfl ?_
                  refine qo_skip rfl ?_
                  refine qo_q rfl (q_pickF rfl (by conv=>lhs;whnf) ?_)
                  refine qo_nil ?_
                  refine ev_nil (hK32 _ ?_); clear hK32
                  refine good_condF rfl ?_
                  refine good_skip (hK27 _ ?_); clear hK27
                  refine gr rfl ?_
                  refine ei rfl rfl rfl ?_
                  intro n33 hn33
                  replace hn33 := in64 hn33 (by omega) (by omega)
                  refine em rfl (by conv=>lhs;whnf) ?_
                  refine ev_nil ?_
                  clear hK16
                  refine ⟨m + 1, ?_, ?_, ?_⟩
                  · refine ⟨by first | omega | (dsimp only; omega), fun k q x hk hq hx hfq => ?_⟩
                    by_cases c : k = m
                    · subst c; rw [hpp] at hq; cases hq
                      rw [oth_n (p := p) (u := u) (by omega) (by omega) (by assumption)] at hx; cases hx
                    · exact hno k q x (by omega) hq hx hfq
                  · first | omega | (simp only []; omega) | (dsimp only; omega)
                  · refine sub_weak ?_ ?_
                    · exact weakH_box (boxEq (rfl)) rfl (weakH_row (rowEq (rfl)) (weakH_row (rowEq (rfl)) (weakH_none _)))
                    · refine weakE_upd ?e45 ?r45 (weakE_upd ?e44 ?r44 (weakE_upd ?e43 ?r43 (weakE_upd ?e10 ?r10 (weakE_upd ?e9 ?r9 (weakE_upd ?e8 ?r8 (weakE_upd ?e3 ?r3 (weakE_upd ?e2 ?r2 (weakE_junk _ _))))))))
                      case e2 => first | rfl | exact fI (by omega) | (simp_all)
                      case r2 => intro h hh; cases hh
                      case e3 => first | rfl | exact fI (by omega) | (simp_all)
                      case r3 => intro h hh; simp [refs] at hh; subst hh; rfl
                      case e8 => first | rfl | exact fI (by omega) | (simp_all)
                      case r8 => intro h hh; simp [refs] at hh; subst hh; rfl
                      case e9 => first | rfl | exact fI (by omega) | (simp_all)
                      case r9 => intro h hh; simp [refs] at hh; subst hh; rfl
                      case e10 => first | rfl | exact fI (by omega) | (simp_all)
                      case r10 => intro h hh; cases hh
                      case e43 => first | rfl | exact fI (by omega) | (simp_all)
                      case r43 => intro h hh; cases hh
                      case e44 => first | rfl | exact fI (by omega) | (simp_all)
                      case r44 => intro h hh; cases hh
                      case e45 => first | rfl | exact fI (by omega) | (simp_all)
                      case r45 => intro h hh; cases hh
                · first | replace hb31 := dT hb31 | skip
                  have hox := oth_y (p := p) (u := u) (by omega) (by omega) (by assumption)
                  rw [← hn30] at hox
                  have hxn2 : n30.toNat < ns.length := nxt_lt (esF_lt hnk (pe p) (List.mem_map_of_mem (List.mem_of_getElem? hpp))) hox.1
                  have hfr1 := hFr _ hxn2
                  have hfr2 := hFr u (by omega)
                  refine ea rfl (by conv=>lhs;whnf) ?_
                  refine ea rfl (by conv=>lhs;whnf) ?_
                  refine ev_nil (hK29 _ ?_); clear hK29
                  refine good_seq fun K34 hK34 => ?_
                  refine good_draw 13 hmix (by kernel_rfl) rfl ?_
                  refine qm rfl (by conv=>lhs;whnf) ?_
                  refine qm rfl (by conv=>lhs;whnf) ?_
                  refine qm rfl (by conv=>lhs;whnf) ?_
                  refine qm rfl (by conv=>lhs;whnf) ?_
                  refine qo_q rfl (q_idxO tE22 rfl rfl rfl (by first | exact Int.natCast_nonneg _ | omega) (by omega) rfl ?_)
                  refine qo_q rfl (q_loadE tA2 rfl rfl (by exact farG (v := n30.toNat) (by omega) (by omega)) rfl ?_)
                  refine qm rfl (by conv=>lhs;whnf) ?_
                  refine qm rfl (by conv=>lhs;whnf) ?_
                  refine qo_q rfl (q_idxO tE22 rfl rfl rfl (by first | exact Int.natCast_nonneg _ | omega) (by omega) rfl ?_)
                  refine qo_q rfl (q_loadE tA2 rfl rfl (by exact farG (v := u) rfl (by omega)) rfl ?_)
                  refine qo_q rfl (q_int rfl rfl ?_)
                  intro n35 hn35
                  replace hn35 := in64 hn35 (by omega) (by omega)
                  refine qo_q rfl (q_int rfl rfl ?_)
                  intro b36 hb36; cases b36
                  · replace hb36 := eqF hb36
                    refine qo_q rfl (q_pickT rfl (by conv=>lhs;whnf) ?_)
                    refine qo_nil ?_
                    refine ev_nil (hK34 _ ?_); clear hK34
                    refine good_condF rfl ?_
                    refine good_skip (hK27 _ ?_); clear hK27
                    refine gr rfl ?_
                    refine ei rfl rfl rfl ?_
                    intro n37 hn37
                    replace hn37 := in64 hn37 (by omega) (by omega)
                    refine em rfl (by conv=>lhs;whnf) ?_
                    refine ev_nil ?_
                    clear hK16
                    refine ⟨m + 1, ?_, ?_, ?_⟩
                    · refine ⟨by first | omega | (dsimp only; omega), fun k q x hk hq hx hfq => ?_⟩
                      by_cases c : k = m
                      · subst c; rw [hpp] at hq; cases hq
                        rw [hox.1] at hx; cases hx; omega
                      · exact hno k q x (by omega) hq hx hfq
                    · first | omega | (simp only []; omega) | (dsimp only; omega)
                    · refine sub_weak ?_ ?_
                      · exact weakH_box (boxEq (rfl)) rfl (weakH_row (rowEq (rfl)) (weakH_row (rowEq (rfl)) (weakH_none _)))
                      · refine weakE_upd ?e45 ?r45 (weakE_upd ?e44 ?r44 (weakE_upd ?e43 ?r43 (weakE_upd ?e10 ?r10 (weakE_upd ?e9 ?r9 (weakE_upd ?e8 ?r8 (weakE_upd ?e3 ?r3 (weakE_upd ?e2 ?r2 (weakE_junk _ _))))))))
                        case e2 => first | rfl | exact fI (by omega) | (simp_all)
                        case r2 => intro h hh; cases hh
                        case e3 => first | rfl | exact fI (by omega) | (simp_all)
                        case r3 => intro h hh; simp [refs] at hh; subst hh; rfl
                        case e8 => first | rfl | exact fI (by omega) | (simp_all)
                        case r8 => intro h hh; simp [refs] at hh; subst hh; rfl
                        case e9 => first | rfl | exact fI (by omega) | (simp_all)
                        case r9 => intro h hh; simp [refs] at hh; subst hh; rfl
                        case e10 => first | rfl | exact fI (by omega) | (simp_all)
                        case r10 => intro h hh; cases hh
                        case e43 => first | rfl | exact fI (by omega) | (simp_all)
                        case r43 => intro h hh; cases hh
                        case e44 => first | rfl | exact fI (by omega) | (simp_all)
                        case r44 => intro h hh; cases hh
                        case e45 => first | rfl | exact fI (by omega) | (simp_all)
                        case r45 => intro h hh; cases hh
                  · replace hb36 := eqT hb36
                    have hf67 : far (ps.map pe) ns.length b.toNat n30.toNat = far (ps.map pe) ns.length b.toNat u - 1 := by omega
                    have hf68 : 0 ≤ far (ps.map pe) ns.length b.toNat n30.toNat := by omega
                    refine qo_q rfl (q_pickT rfl (by conv=>lhs;whnf) ?_)
                    refine qo_nil ?_
                    refine ev_nil (hK34 _ ?_); clear hK34
                    refine good_condT rfl ?_
                    refine good_seq fun K38 hK38 => ?_
                    refine good_seq fun K39 hK39 => ?_
                    refine gr rfl ?_
                    refine ev_q rfl (q_fieldAddrP fO59_1 rfl rfl ?_)
                    refine ev_q rfl (q_load tA2 rfl ?_)
                    refine em rfl (by conv=>lhs;whnf) ?_
                    refine ei rfl rfl rfl ?_
                    intro b40 hb40; cases b40
                    · replace hb40 := eqF hb40
                      have hPS := PW_s (x := -((m : Int) + 1)) hPW (v := n30) (by omega) ⟨m, p, hpp, .inr ⟨rfl, by omega, nx_tv hox.1 (by omega) (by omega) (by omega)⟩⟩ hf67 hf68
                      refine ev_nil (hK39 _ ?_); clear hK39
                      refine good_condF rfl ?_
                      refine gr rfl ?_
                      refine em rfl (by conv=>lhs;whnf) ?_
                      refine em rfl (by conv=>lhs;whnf) ?_
                      refine ev_q rfl (q_neg rfl ?_)
                      intro n41 hn41
                      replace hn41 := neg64 hn41 (by omega) (by omega)
                      refine ei rfl rfl rfl ?_
                      intro n42 hn42
                      replace hn42 := in64 hn42 (by omega) (by omega)
                      obtain rfl : n42 = -((m : Int) + 1) := by omega
                      refine ev_k rfl (k_lit tE22 zA2 rfl rfl (by decide) (by decide) rfl rfl rfl ?_)
                      refine ev_k rfl (k_app tApp22 rfl rfl (by simp) rfl (.inl rfl) (by first | (simp [maxLen]; omega)) (by first | (simp; omega)) ?_)
                      refine ea rfl (by conv=>lhs;whnf) ?_
                      refine ev_nil (hK38 _ ?_); clear hK38
                      refine good_seq fun K43 hK43 => ?_
                      refine gr rfl ?_
                      refine em rfl (by conv=>lhs;whnf) ?_
                      refine ea rfl (by conv=>lhs;whnf) ?_
                      refine ev_nil (hK43 _ ?_); clear hK43
                      refine good_exit ?_
                      repeat first|refine thenQ_exit ?_|refine blockQ_pass rfl ?_
                      refine blockQ_exit ?_
                      clear hK16 hK27
                      refine ⟨(L ++ [-((m : Int) + 1)], n30.toNat), ?_, ?_, ?_⟩
                      · show PW ns ps a b ((n30.toNat : Nat) : Int) _
                        rw [Int.toNat_of_nonneg (by omega)]; exact hPS
                      · show Int.toNat _ < Int.toNat _; omega
                      · first | refine Sub.trans (sub_move 9 83 77 rfl rfl rfl (by decide)) ?_ | skip
                        refine sub_weak ?_ ?_
                        · exact weakH_box (boxEq (rfl)) rfl (weakH_row (rowEq (rfl)) (weakH_row (rowEq (by rw [List.map_append]; rfl)) (weakH_none _)))
                        · refine weakE_upd ?e10 ?r10 (weakE_upd ?e9 ?r9 (weakE_upd ?e8 ?r8 (weakE_upd ?e3 ?r3 (weakE_upd ?e2 ?r2 (weakE_junk _ _)))))
                          case e2 => first | rfl | exact fI (by omega) | (simp_all)
                          case r2 => intro h hh; cases hh
                          case e3 => first | rfl | exact fI (by omega) | (simp_all)
                          case r3 => intro h hh; simp [refs] at hh; subst hh; rfl
                          case e8 => first | rfl | exact fI (by omega) | (simp_all)
                          case r8 => intro h hh; simp [refs] at hh; subst hh; rfl
                          case e9 => first | rfl | exact fI (by omega) | (first | rfl | exact ownEq (by simp))
                          case r9 => intro h hh; simp [refs] at hh; subst hh; rfl
                          case e10 => first | rfl | exact fI (by omega) | (first | rfl | exact fI (by omega))
                          case r10 => intro h hh; cases hh
                    · replace hb40 := eqT hb40
                      have hPS := PW_s (x := (m : Int) + 1) hPW (v := n30) (by omega) ⟨m, p, hpp, .inl ⟨rfl, by omega, nx_fv hox.1 (by omega) (by omega) (by omega)⟩⟩ hf67 hf68
                      refine ev_nil (hK39 _ ?_); clear hK39
                      refine good_condT rfl ?_
                      refine gr rfl ?_
                      refine em rfl (by conv=>lhs;whnf) ?_
                      refine em rfl (by conv=>lhs;whnf) ?_
                      refine ei rfl rfl rfl ?_
                      intro n44 hn44
                      replace hn44 := in64 hn44 (by omega) (by omega)
                      obtain rfl : n44 = (m : Int) + 1 := by omega
                      refine ev_k rfl (k_lit tE22 zA2 rfl rfl (by decide) (by decide) rfl rfl rfl ?_)
                      refine ev_k rfl (k_app tApp22 rfl rfl (by simp) rfl (.inr rfl) (by first | (simp [maxLen]; omega)) (by first | (simp; omega)) ?_)
                      refine ea rfl (by conv=>lhs;whnf) ?_
                      refine ev_nil (hK38 _ ?_); clear hK38
                      refine good_seq fun K45 hK45 => ?_
                      refine gr rfl ?_
                      refine em rfl (by conv=>lhs;whnf) ?_
                      refine ea rfl (by conv=>lhs;whnf) ?_
                      refine ev_nil (hK45 _ ?_); clear hK45
                      refine good_exit ?_
                      repeat first|refine thenQ_exit ?_|refine blockQ_pass rfl ?_
                      refine blockQ_exit ?_
                      clear hK16 hK27
                      refine ⟨(L ++ [(m : Int) + 1], n30.toNat), ?_, ?_, ?_⟩
                      · show PW ns ps a b ((n30.toNat : Nat) : Int) _
                        rw [Int.toNat_of_nonneg (by omega)]; exact hPS
                      · show Int.toNat _ < Int.toNat _; omega
                      · first | refine Sub.trans (sub_move 9 83 77 rfl rfl rfl (by decide)) ?_ | skip
                        refine sub_weak ?_ ?_
                        · exact weakH_box (boxEq (rfl)) rfl (weakH_row (rowEq (rfl)) (weakH_row (rowEq (by rw [List.map_append]; rfl)) (weakH_none _)))
                        · refine weakE_upd ?e10 ?r10 (weakE_upd ?e9 ?r9 (weakE_upd ?e8 ?r8 (weakE_upd ?e3 ?r3 (weakE_upd ?e2 ?r2 (weakE_junk _ _)))))
                          case e2 => first | rfl | exact fI (by omega) | (simp_all)
                          case r2 => intro h hh; cases hh
                          case e3 => first | rfl | exact fI (by omega) | (simp_all)
                          case r3 => intro h hh; simp [refs] at hh; subst hh; rfl
                          case e8 => first | rfl | exact fI (by omega) | (simp_all)
                          case r8 => intro h hh; simp [refs] at hh; subst hh; rfl
                          case e9 => first | rfl | exact fI (by omega) | (first | rfl | exact ownEq (by simp))
                          case r9 => intro h hh; simp [refs] at hh; subst hh; rfl
                          case e10 => first | rfl | exact fI (by omega) | (first | rfl | exact fI (by omega))
                          case r10 => intro h hh; cases hh
        · replace hb14 := dT hb14
          refine ev_nil (hK13 _ ?_); clear hK13
          refine good_condT rfl ?_
          refine good_seq fun K46 hK46 => ?_
          refine gr rfl ?_
          refine ea rfl (by conv=>lhs;whnf) ?_
          refine ea rfl (by conv=>lhs;whnf) ?_
          refine ev_nil (hK46 _ ?_); clear hK46
          refine good_ret ?_
          repeat first|refine thenQ_ret ?_|refine blockQ_ret ?_
          clear hK12
          refine ex_2 (v := []) (a := 3) ?hF ?hR
          case hF =>
            refine fx_many rfl ?_
            refine fxs_tmp (by conv=>lhs;whnf) ?_
            refine fxs_tmp (by conv=>lhs;whnf) ?_
            refine fx_nil ?_
            exact ⟨_, .tup (.cons (conv_nil rfl (by decide) (by rfl)) (.cons (conv_eq (by first | rfl | exact fI (by first | omega | grind) | (exfalso; first | omega | grind))) (.nil))), weakH_row (rowEq (by first | rfl | (rw [e]; done) | (rw [e]; rfl) | (simp_all; done))) (weakH_none _), refsIn_ok rfl⟩
          case hR =>
            first | exact pt_1 (by assumption) | exact pt_2 (by assumption) (by omega) | exact pt_3 hnk hbb (by omega) | (have eu : (u : Int) = b := (by omega); have hq : PW ns ps a b (u : Int) L := hPW; rw [eu] at hq; exact pt_0 hnk hbb (by omega) hq)
theorem D_impl_PathOf (ns : List Int) (ps : List Pi) (a b : Int) (hn : ns.length ≤ 17592186044416) (hp : ps.length ≤ 2513169434843) (hz : idSz ps) : DenR Try.prog 28 [.agg [.lst 1 (ns.map ci), .lst 6 (ps.map piA)], .s (.int .i64 a), .s (.int .i64 b)] (τ := List Int × Int) (fun (L, c) => ptR ns ps a b L c) (fun (L, c) => .tup [.lst 1 (L.map ci), .s (.int .i64 c)]) :=
  denR_of_denXR (D_impl_PathOf_X ns ps a b hn hp hz) (by rintro ⟨L, c⟩ _; change (some (.tup [.lst 1 (List.take L.length (L.map ci)), .s (.int .i64 c)]) : Option AV) = some (.tup [.lst 1 (L.map ci), .s (.int .i64 c)]); simp only [takeMap])

theorem D_sort_X (xs : List Int) (hx : xs.length ≤ 1000000) : DenX Try.prog 91 [(1000000, .row 2 1 (xs.map ci))] [.own 1000000 xs.length] [(1000000, .row 2 1 ((srtI xs).map ci))] (.tup []) :=
  denX_sort ⟨_, Try.func91, rfl, rfl⟩ (fun blk cap zs w hH hb hs => AnyM.slices_Sort_int Try.sortI blk 0 cap zs w hH hb hs) (fun p cap w => AnyM.slices_Sort_int_none Try.sortI p cap w) (by omega)

-- slices.Index[[]int64,int64]
theorem D_slices_Index_int64_int64 (x : Int) (xs : List Int) (hx : xs.length ≤ 17592186044416) : Den Try.prog 173 [.lst 1 (xs.map ci), .s (.int .i64 x)] (.s (.int .i64 (fiM (fun y => decide (x = y)) xs))) := by
  refine den_of_good Try.func173 (by decide) rfl (Nat.le_of_ble_eq_true rfl) (Nat.le_of_ble_eq_true rfl) ?_
  refine good_seq fun K1 hK1 => ?_
  refine gr rfl ?_
  refine ea rfl (by conv=>lhs;whnf) ?_
  refine ev_nil (hK1 _ ?_); clear hK1
  refine good_seq fun K2 hK2 => ?_
  refine good_seq fun K3 hK3 => ?_
  refine gr rfl ?_
  refine em rfl (by conv=>lhs;whnf) ?_
  refine ev_q rfl (q_len tEs22 rfl ?_)
  intro n4 hn4
  try simp only [List.length_map] at hn4
  refine em rfl (by conv=>lhs;whnf) ?_
  refine ev_nil (hK3 _ ?_); clear hK3
  refine good_block ?_
  refine good_loop (α := Nat) (fun i => { env := upd (upd (upd (upd ((fun _ => .junk)) 0 (.lst 1 (xs.map ci))) 1 (.s (.int .i64 x))) 7 (.s (.int .i64 ((xs.length : Int))))) 8 (.s (.int .i64 i)), H := fun _ => none }) (fun i => i ≤ xs.length ∧ ∀ j q, j < i → xs[j]? = some q → ¬ x = q) (fun i => xs.length - i) 0 ?_ ?_ ?_
  · exact ⟨by omega, fun j u hj => by omega⟩
  · refine sub_weak ?_ ?_
    · exact weakH_none _
    · refine weakE_upd ?e8 ?r8 (weakE_upd ?e7 ?r7 (weakE_upd ?e1 ?r1 (weakE_upd ?e0 ?r0 (weakE_junk _ _))))
      case e0 => first | rfl | exact fI (by omega) | (simp_all)
      case r0 => intro h hh; cases hh
      case e1 => first | rfl | exact fI (by omega) | (simp_all)
      case r1 => intro h hh; cases hh
      case e7 => first | rfl | exact fI (by omega) | (simp_all)
      case r7 => intro h hh; cases hh
      case e8 => first | rfl | exact fI (by omega) | (simp_all)
      case r8 => intro h hh; cases hh
  · rintro i ⟨hI, hJ⟩
    refine good_seq fun K5 hK5 => ?_
    refine gr rfl ?_
    refine ei rfl rfl rfl ?_
    intro b6 hb6; cases b6
    · replace hb6 := dF hb6
      refine ev_nil (hK5 _ ?_); clear hK5
      refine good_seq fun K7 hK7 => ?_
      refine good_condF rfl ?_
      refine good_exit ?_
      repeat first|refine thenQ_exit ?_|refine blockQ_pass rfl ?_
      refine blockQ_exit (hK2 _ ?_); clear hK2
      refine good_seq fun K8 hK8 => ?_
      refine gr rfl ?_
      refine ea rfl (by conv=>lhs;whnf) ?_
      refine ev_nil (hK8 _ ?_); clear hK8
      refine good_ret ?_
      repeat first|refine thenQ_ret ?_|refine blockQ_ret ?_
      refine ret_tmp (st := _) rfl (by conv=>lhs;whnf) rfl ?_
      clear hK7
      first | exact fI (by have e := fi_some (p := fun y => x = y) (i := i) hq hJ (by omega); simp only [fiM, e]) | exact fI (by have e := fi_none (p := fun y => x = y) (all_finI (Q := fun _ q => ¬ x = q) hJ (by omega)); simp only [fiM, e])
    · replace hb6 := dT hb6
      obtain ⟨q, hq⟩ := getL (xs := xs) (n := (i : Int)) (by omega) (by omega)
      replace hq : xs[i]? = some q := hq
      refine ev_nil (hK5 _ ?_); clear hK5
      refine good_seq fun K9 hK9 => ?_
      refine good_condT rfl ?_
      refine good_skip (hK9 _ ?_); clear hK9
      refine good_seq fun K10 hK10 => ?_
      refine good_block ?_
      refine good_seq fun K11 hK11 => ?_
      refine gr rfl ?_
      refine em rfl (by conv=>lhs;whnf) ?_
      refine ea rfl (by conv=>lhs;whnf) ?_
      refine ev_nil (hK11 _ ?_); clear hK11
      refine good_seq fun K12 hK12 => ?_
      refine gr rfl ?_
      refine em rfl (by conv=>lhs;whnf) ?_
      refine em rfl (by conv=>lhs;whnf) ?_
      refine em rfl (by conv=>lhs;whnf) ?_
      refine ev_q rfl (q_idx tE22 rfl rfl (by exact Int.natCast_nonneg _) (by exact map_get hq) rfl ?_)
      refine ev_q rfl (q_load tA2 rfl ?_)
      refine ei rfl rfl rfl ?_
      intro b13 hb13; cases b13
      · replace hb13 := eqF hb13
        refine ev_nil (hK12 _ ?_); clear hK12
        refine good_condF rfl ?_
        refine good_skip (hK10 _ ?_); clear hK10
        refine gr rfl ?_
        refine ei rfl rfl rfl ?_
        intro n14 hn14
        replace hn14 := in64 hn14 (by omega) (by omega)
        refine em rfl (by conv=>lhs;whnf) ?_
        refine ev_nil ?_
        clear hK2
        refine ⟨i + 1, ?_, ?_, ?_⟩
        · exact ⟨by omega, all_extI (Q := fun _ q => ¬ x = q) hJ hq (by omega)⟩
        · first | omega | (simp only []; omega) | (dsimp only; omega)
        · refine sub_weak ?_ ?_
          · exact weakH_none _
          · refine weakE_upd ?e8 ?r8 (weakE_upd ?e7 ?r7 (weakE_upd ?e1 ?r1 (weakE_upd ?e0 ?r0 (weakE_junk _ _))))
            case e0 => first | rfl | exact fI (by omega) | (simp_all)
            case r0 => intro h hh; cases hh
            case e1 => first | rfl | exact fI (by omega) | (simp_all)
            case r1 => intro h hh; cases hh
            case e7 => first | rfl | exact fI (by omega) | (simp_all)
            case r7 => intro h hh; cases hh
            case e8 => first | rfl | exact fI (by omega) | (simp_all)
            case r8 => intro h hh; cases hh
      · replace hb13 := eqT hb13
        refine ev_nil (hK12 _ ?_); clear hK12
        refine good_condT rfl ?_
        refine good_seq fun K15 hK15 => ?_
        refine gr rfl ?_
        refine em rfl (by conv=>lhs;whnf) ?_
        refine ea rfl (by conv=>lhs;whnf) ?_
        refine ev_nil (hK15 _ ?_); clear hK15
        refine good_ret ?_
        repeat first|refine thenQ_ret ?_|refine blockQ_ret ?_
        refine ret_tmp (st := _) rfl (by conv=>lhs;whnf) rfl ?_
        clear hK2 hK10
        first | exact fI (by have e := fi_some (p := fun y => x = y) (i := i) hq hJ (by omega); simp only [fiM, e]) | exact fI (by have e := fi_none (p := fun y => x = y) (all_finI (Q := fun _ q => ¬ x = q) hJ (by omega)); simp only [fiM, e])

-- slices.Contains[[]int64,int64]
theorem D_slices_Contains_int64_int64 (x : Int) (xs : List Int) (hx : xs.length ≤ 17592186044416) : Den Try.prog 126 [.lst 1 (xs.map ci), .s (.int .i64 x)] (.s (.bool (decide (x ∈ xs)))) := by
  refine den_of_good Try.func126 (by decide) rfl (Nat.le_of_ble_eq_true rfl) (Nat.le_of_ble_eq_true rfl) ?_
  refine good_seq fun K1 hK1 => ?_
  refine gr rfl ?_
  refine ea rfl (by conv=>lhs;whnf) ?_
  refine ev_nil (hK1 _ ?_); clear hK1
  refine good_seq fun K2 hK2 => ?_
  refine gr rfl ?_
  refine em rfl (by conv=>lhs;whnf) ?_
  refine em rfl (by conv=>lhs;whnf) ?_
  refine ev_q rfl (q_callI rfl rfl (rfl) (D_slices_Index_int64_int64 x xs hx) ?_)
  intro n3 hn3
  refine ei rfl rfl rfl ?_
  intro b4 hb4; cases b4
  · replace hb4 := dF hb4
    refine ea rfl (by conv=>lhs;whnf) ?_
    refine ev_nil (hK2 _ ?_); clear hK2
    refine good_ret ?_
    repeat first|refine thenQ_ret ?_|refine blockQ_ret ?_
    refine ret_tmp (st := _) rfl (by conv=>lhs;whnf) rfl ?_
    first | exact fT (has_iff.1 (by omega)) | exact fF (fun h => absurd (has_iff.2 h) (by omega))
  · replace hb4 := dT hb4
    refine ea rfl (by conv=>lhs;whnf) ?_
    refine ev_nil (hK2 _ ?_); clear hK2
    refine good_ret ?_
    repeat first|refine thenQ_ret ?_|refine blockQ_ret ?_
    refine ret_tmp (st := _) rfl (by conv=>lhs;whnf) rfl ?_
    first | exact fT (has_iff.1 (by omega)) | exact fF (fun h => absurd (has_iff.2 h) (by omega))

-- (impl.Network).reached
theorem D_impl_Network_reached_C (ns : List Int) (ps : List Pi) (s : Int) (cl : List Int) (hn : ns.length ≤ 17592186044416) (hp : ps.length ≤ 2513169434843) (hz : idSz ps) (ok : netOk ns ps) (hs : 0 ≤ s ∧ s < ns.length) (hcl : cl.length ≤ 17592186044416) : DenX Try.prog 82 [] [.agg [.lst 1 (ns.map ci), .lst 6 (ps.map piA)], .s (.int .i64 s), .lst 1 (cl.map ci)] [(900001, .row 2 1 ((rcS ns ps cl s.toNat).map ci))] (.own 900001 (rcS ns ps cl s.toNat).length) := by
  have h16 := ok.1.1
  have h20 := ok.1.2.2
  have hlt := esC_lt (cl := cl) ok
  refine denX_of_good Try.func82 (by decide) rfl (Nat.le_of_ble_eq_true rfl) (Nat.le_of_ble_eq_true rfl) rfl ?_
  refine good_seq fun K1 hK1 => ?_
  refine gr rfl ?_
  refine ev_k rfl (k_box (by conv=>lhs;whnf) rfl rfl rfl ?_)
  refine ea rfl (by conv=>lhs;whnf) ?_
  refine ev_nil (hK1 _ ?_); clear hK1
  refine good_seq fun K2 hK2 => ?_
  refine gr rfl ?_
  refine em rfl (by conv=>lhs;whnf) ?_
  refine ev_k rfl (k_lit tE22 zA2 rfl rfl (by decide) (by decide) rfl rfl rfl ?_)
  refine ea rfl (by conv=>lhs;whnf) ?_
  refine ev_nil (hK2 _ ?_); clear hK2
  refine good_seq fun K3 hK3 => ?_
  refine good_seq fun K4 hK4 => ?_
  refine gr rfl ?_
  refine ea rfl (by conv=>lhs;whnf) ?_
  refine ev_nil (hK4 _ ?_); clear hK4
  refine good_block ?_
  refine good_loop (α := Nat × List Nat) (fun (k, w) => { env := upd (upd (upd (upd ((fun _ => .junk)) 2 (.lst 1 (cl.map ci))) 3 (.ptr 3 0)) 7 (.own 54 (toI w).length)) 8 (.s (.int .i64 ((k : Int)))), H := upd (upd ((fun _ => none)) 54 (some (.row 2 1 ((toI w).map ci)))) 3 (some (.box 31 [.lst 1 (ns.map ci), .lst 6 (ps.map piA)])) }) (fun (k, w) => k ≤ w.length ∧ Inv (esC ps cl) ns.length s.toNat w ∧ bfO (esC ps cl) (ns.length - k) k w = (found (esC ps cl) ns.length s.toNat)) (fun (k, w) => ns.length - k) (0, [s.toNat]) ?_ ?_ ?_
  · exact ⟨by simp, ⟨by simp, fun v hv => by have e : v = s.toNat := (by simpa using hv); rw [e]; omega, fun v hv => by have e : v = s.toNat := (by simpa using hv); rw [e]; exact .rfl _, by simp⟩, rfl⟩
  · refine Sub.trans (sub_move 7 14 54 rfl rfl rfl (by decide)) ?_
    refine sub_weak ?_ ?_
    · exact weakH_box (boxEq (rfl)) rfl (weakH_row (rowEq (by show [ci s] = [ci ((s.toNat : Nat) : Int)]; rw [show ((s.toNat : Nat) : Int) = s by omega])) (weakH_none _))
    · refine weakE_upd ?e8 ?r8 (weakE_upd ?e7 ?r7 (weakE_upd ?e3 ?r3 (weakE_upd ?e2 ?r2 (weakE_junk _ _))))
      case e2 => first | rfl | exact fI (by omega) | (simp_all)
      case r2 => intro h hh; cases hh
      case e3 => first | rfl | exact fI (by omega) | (simp_all)
      case r3 => intro h hh; simp [refs] at hh; subst hh; rfl
      case e7 => first | rfl | exact fI (by omega) | (simp_all)
      case r7 => intro h hh; simp [refs] at hh; subst hh; rfl
      case e8 => first | rfl | exact fI (by omega) | (simp_all)
      case r8 => intro h hh; cases hh
  · rintro ⟨k, w⟩ ⟨hK, hV, hF⟩
    refine good_seq fun K5 hK5 => ?_
    refine good_seq fun K6 hK6 => ?_
    refine gr rfl ?_
    refine em rfl (by conv=>lhs;whnf) ?_
    refine em rfl (by conv=>lhs;whnf) ?_
    refine ev_q rfl (q_len tEs22 rfl ?_)
    intro n7 hn7
    try simp only [List.length_map] at hn7
    refine ei rfl rfl rfl ?_
    intro b8 hb8; cases b8
    · replace hb8 := dF hb8
      have hkl : w.length ≤ k := by rw [toI_len] at *; omega
      have hln := len_le w hV.nd hV.lt
      refine ev_nil (hK6 _ ?_); clear hK6
      refine good_condF rfl ?_
      refine good_exit ?_
      repeat first|refine thenQ_exit ?_|refine blockQ_pass rfl ?_
      refine blockQ_exit (hK3 _ ?_); clear hK3
      refine good_seq fun K9 hK9 => ?_
      refine gr rfl ?_
      refine em rfl (by conv=>lhs;whnf) ?_
      refine ev_k rfl (k_callX [(1000000, 54)] (D_sort_X (toI w) (by rw [toI_len]; omega)) rfl (rfl) (rfl) ⟨rfl, trivial⟩ ⟨rfl, ⟨rfl, rfl, by first | (simp only [List.length_map, srtI_len]; done) | (simp only [List.length_map, srtI_len]; exact Nat.le_refl _)⟩, trivial⟩ rfl rfl rfl ?_)
      refine ev_nil (hK9 _ ?_); clear hK9
      refine good_seq fun K10 hK10 => ?_
      refine gr rfl ?_
      refine em rfl (by conv=>lhs;whnf) ?_
      refine ea rfl (by conv=>lhs;whnf) ?_
      refine ev_nil (hK10 _ ?_); clear hK10
      refine good_weak (sub_move 6 54 900001 rfl rfl rfl (by decide)) ?_
      refine good_ret ?_
      repeat first|refine thenQ_ret ?_|refine blockQ_ret ?_
      refine fx_tmp rfl (by conv=>lhs;whnf) ?_
      clear hK5
      have e : (found (esC ps cl) ns.length s.toNat) = w := by rw [← hF]; exact bfO_e hkl
      have e3 : rcS ns ps cl s.toNat = srtI (toI w) := by unfold rcS; rw [e]
      have e4 : (rcS ns ps cl s.toNat).length = (toI w).length := by rw [e3, srtI_len]
      exact ⟨_, conv_eq (by first | rfl | (rw [e]; done) | (rw [e]; rfl) | exact ownEq (by first | omega | simp_all)), weakH_row (rowEq (by first | (rw [e3]; done) | (rw [e3]; rfl))) (weakH_none _), refsIn_ok rfl⟩
    · replace hb8 := dT hb8
      have hkl : k < w.length := by rw [toI_len] at *; omega
      obtain ⟨u, hu⟩ : ∃ u, w[k]? = some u := ⟨_, List.getElem?_eq_getElem hkl⟩
      have hln := len_le w hV.nd hV.lt
      refine ev_nil (hK6 _ ?_); clear hK6
      refine good_condT rfl ?_
      refine good_skip (hK5 _ ?_); clear hK5
      refine good_seq fun K11 hK11 => ?_
      refine good_block ?_
      refine good_seq fun K12 hK12 => ?_
      refine gr rfl ?_
      refine ev_q rfl (q_fieldAddrP fO31_1 rfl rfl ?_)
      refine ev_q rfl (q_load tA29 rfl ?_)
      refine ev_q rfl (q_len tEs29 rfl ?_)
      intro n13 hn13
      try simp only [List.length_map] at hn13
      refine em rfl (by conv=>lhs;whnf) ?_
      refine ev_nil (hK12 _ ?_); clear hK12
      refine good_block ?_
      refine good_loop (α := Nat × List Nat) (fun (i, v) => { env := upd (upd (upd (upd (upd (upd (upd ((fun _ => .junk)) 2 (.lst 1 (cl.map ci))) 3 (.ptr 3 0)) 7 (.own 54 (toI v).length)) 8 (.s (.int .i64 ((k : Int))))) 22 (.lst 6 (ps.map piA))) 23 (.s (.int .i64 ((ps.length : Int))))) 24 (.s (.int .i64 ((i : Int)))), H := upd (upd ((fun _ => none)) 54 (some (.row 2 1 ((toI v).map ci)))) 3 (some (.box 31 [.lst 1 (ns.map ci), .lst 6 (ps.map piA)])) }) (fun (i, v) => i ≤ ps.length ∧ Inv (esC ps cl) ns.length s.toNat v ∧ (∃ t, v = w ++ t) ∧ bfI ((esC ps cl).drop i) u v = bfI (esC ps cl) u w) (fun (i, v) => ps.length - i) (0, w) ?_ ?_ ?_
      · exact ⟨Nat.zero_le _, hV, ⟨[], by simp⟩, rfl⟩
      · refine sub_weak ?_ ?_
        · exact weakH_box (boxEq (rfl)) rfl (weakH_row (rowEq (rfl)) (weakH_none _))
        · refine weakE_upd ?e24 ?r24 (weakE_upd ?e23 ?r23 (weakE_upd ?e22 ?r22 (weakE_upd ?e8 ?r8 (weakE_upd ?e7 ?r7 (weakE_upd ?e3 ?r3 (weakE_upd ?e2 ?r2 (weakE_junk _ _)))))))
          case e2 => first | rfl | exact fI (by omega) | (simp_all)
          case r2 => intro h hh; cases hh
          case e3 => first | rfl | exact fI (by omega) | (simp_all)
          case r3 => intro h hh; simp [refs] at hh; subst hh; rfl
          case e7 => first | rfl | exact fI (by omega) | (first | rfl | exact ownEq (by simp [toI_len]))
          case r7 => intro h hh; simp [refs] at hh; subst hh; rfl
          case e8 => first | rfl | exact fI (by omega) | (simp_all)
          case r8 => intro h hh; cases hh
          case e22 => first | rfl | exact fI (by omega) | (simp_all)
          case r22 => intro h hh; cases hh
          case e23 => first | rfl | exact fI (by omega) | (simp_all)
          case r23 => intro h hh; cases hh
          case e24 => first | rfl | exact fI (by omega) | (simp_all)
          case r24 => intro h hh; cases hh
      · rintro ⟨i, v⟩ ⟨hI, hW, hP, hB⟩
        refine good_seq fun K14 hK14 => ?_
        refine gr rfl ?_
        refine ei rfl rfl rfl ?_
        intro b15 hb15; cases b15
        · replace hb15 := dF hb15
          refine ev_nil (hK14 _ ?_); clear hK14
          refine good_seq fun K16 hK16 => ?_
          refine good_condF rfl ?_
          refine good_exit ?_
          repeat first|refine thenQ_exit ?_|refine blockQ_pass rfl ?_
          refine blockQ_exit (hK11 _ ?_); clear hK11
          refine gr rfl ?_
          refine em rfl (by conv=>lhs;whnf) ?_
          refine ei rfl rfl rfl ?_
          intro n17 hn17
          replace hn17 := in64 hn17 (by omega) (by omega)
          refine ea rfl (by conv=>lhs;whnf) ?_
          refine ev_nil ?_
          clear hK3 hK16
          refine ⟨(k + 1, v), ?_, ?_, ?_⟩
          · refine ⟨?_, hW, ?_⟩
            · obtain ⟨t, ht⟩ := hP
              have := congrArg List.length ht
              rw [List.length_append] at this
              show k + 1 ≤ v.length; omega
            · show bfO _ _ (k + 1) v = _
              rw [bfC_end (by omega)] at hB
              rw [← hF, bfO_s hu (by omega), hB]
          · first | omega | (dsimp only; omega)
          · refine sub_weak ?_ ?_
            · exact weakH_box (boxEq (rfl)) rfl (weakH_row (rowEq (rfl)) (weakH_none _))
            · refine weakE_upd ?e8 ?r8 (weakE_upd ?e7 ?r7 (weakE_upd ?e3 ?r3 (weakE_upd ?e2 ?r2 (weakE_junk _ _))))
              case e2 => first | rfl | exact fI (by omega) | (simp_all)
              case r2 => intro h hh; cases hh
              case e3 => first | rfl | exact fI (by omega) | (simp_all)
              case r3 => intro h hh; simp [refs] at hh; subst hh; rfl
              case e7 => first | rfl | exact fI (by omega) | (simp_all)
              case r7 => intro h hh; simp [refs] at hh; subst hh; rfl
              case e8 => first | rfl | exact fI (by omega) | (simp_all)
              case r8 => intro h hh; cases hh
        · replace hb15 := dT hb15
          obtain ⟨p, hpp⟩ := getL (xs := ps) (n := (i : Int)) (by omega) (by omega)
          replace hpp : ps[i]? = some p := hpp
          have hpo := (ok.2 i p hpp).1
          have hp1 := hpo.1.2.1
          have hp2 := hpo.1.2.2.1
          have hlv := len_le v hW.nd hW.lt
          have hP0 := hP
          obtain ⟨t, ht⟩ := hP
          have hv : v[k]? = some u := by rw [ht, List.getElem?_append_left hkl]; exact hu
          have hbd := bfC_d (cl := cl) (u := u) (v := v) hpp
          refine ev_nil (hK14 _ ?_); clear hK14
          refine good_seq fun K18 hK18 => ?_
          refine good_condT rfl ?_
          refine good_skip (hK18 _ ?_); clear hK18
          refine good_seq fun K19 hK19 => ?_
          refine good_block ?_
          refine good_seq fun K20 hK20 => ?_
          refine gr rfl ?_
          refine em rfl (by conv=>lhs;whnf) ?_
          refine ev_q rfl (q_idx tE29 rfl rfl (by exact Int.natCast_nonneg _) (by exact map_get hpp) rfl ?_)
          refine ev_q rfl (q_loadA tA59 rfl rfl rfl ?_)
          refine ev_k rfl (k_alloc zA59 rfl ?_)
          refine ea rfl (by conv=>lhs;whnf) ?_
          refine ev_k rfl (k_store sz59 rfl (by conv=>lhs;whnf) rfl rfl rfl (Nat.le_of_ble_eq_true rfl) rfl ?_)
          refine ev_nil (hK20 _ ?_); clear hK20
          refine good_seq fun K21 hK21 => ?_
          refine good_draw 11 hmix (by kernel_rfl) rfl ?_
          refine qo_q rfl (q_loadA tA59 rfl rfl rfl ?_)
          refine qm rfl (by conv=>lhs;whnf) ?_
          refine qm rfl (by conv=>lhs;whnf) ?_
          refine qo_q rfl (q_idxO tE22 rfl rfl rfl (by exact Int.natCast_nonneg _) (by rw [toI_len]; have := congrArg List.length ht; rw [List.length_append] at this; omega) rfl ?_)
          refine qo_q rfl (q_loadE tA2 rfl rfl (by exact toI_get hv) rfl ?_)
          refine qo_q rfl (q_call rfl rfl (rfl) (D_impl_Pipe_other ..) rfl ?_)
          refine qm rfl (by conv=>lhs;whnf) ?_
          refine qo_q rfl (q_extractI rfl rfl ?_)
          intro n22 hn22
          refine qo_q rfl (q_extractB rfl rfl ?_)
          intro b23 hb23; cases b23
          · first | replace hb23 := dF hb23 | skip
            refine qa rfl (by conv=>lhs;whnf) ?_
            refine qa rfl (by conv=>lhs;whnf) ?_
            refine qo_nil ?_
            refine ev_nil (hK21 _ ?_); clear hK21
            refine good_seq fun K24 hK24 => ?_
            refine gr rfl ?_
            refine em rfl (by conv=>lhs;whnf) ?_
            refine em rfl (by conv=>lhs;whnf) ?_
            refine ev_skip rfl ?_
            refine ev_skip rfl ?_
            refine ev_skip rfl ?_
            refine ev_skip rfl ?_
            refine ev_q rfl (q_pickF rfl (by conv=>lhs;whnf) ?_)
            refine em rfl (by conv=>lhs;whnf) ?_
            refine ev_skip rfl ?_
            refine ev_skip rfl ?_
            refine ev_skip rfl ?_
            refine ev_skip rfl ?_
            refine ev_q rfl (q_pickF rfl (by conv=>lhs;whnf) ?_)
            refine ev_nil (hK24 _ ?_); clear hK24
            refine good_condF rfl ?_
            refine good_skip (hK19 _ ?_); clear hK19
            refine gr rfl ?_
            refine ei rfl rfl rfl ?_
            intro n25 hn25
            replace hn25 := in64 hn25 (by omega) (by omega)
            refine em rfl (by conv=>lhs;whnf) ?_
            refine ev_nil ?_
            clear hK3 hK11
            refine ⟨(i + 1, v), ?_, ?_, ?_⟩
            · refine ⟨by first | omega | (dsimp only; omega), hW, hP0, ?_⟩
              show bfI _ u v = _
              have hE : bfE u v (ecE cl i p) = v := ec_F (List.mem_of_getElem? hv) (oth_n (p := p) (u := u) (by omega) (by omega) (by assumption))
              rw [hE] at hbd; exact hbd.symm.trans hB
            · first | omega | (dsimp only; omega)
            · refine sub_weak ?_ ?_
              · exact weakH_box (boxEq (rfl)) rfl (weakH_row (rowEq (by first | rfl | exact toI_app hox.2)) (weakH_none _))
              · refine weakE_upd ?e24 ?r24 (weakE_upd ?e23 ?r23 (weakE_upd ?e22 ?r22 (weakE_upd ?e8 ?r8 (weakE_upd ?e7 ?r7 (weakE_upd ?e3 ?r3 (weakE_upd ?e2 ?r2 (weakE_junk _ _)))))))
                case e2 => first | rfl | exact fI (by omega) | (simp_all)
                case r2 => intro h hh; cases hh
                case e3 => first | rfl | exact fI (by omega) | (simp_all)
                case r3 => intro h hh; simp [refs] at hh; subst hh; rfl
                case e7 => first | rfl | exact fI (by omega) | (first | rfl | exact ownEq (by simp [toI_len]))
                case r7 => intro h hh; simp [refs] at hh; subst hh; rfl
                case e8 => first | rfl | exact fI (by omega) | (simp_all)
                case r8 => intro h hh; cases hh
                case e22 => first | rfl | exact fI (by omega) | (simp_all)
                case r22 => intro h hh; cases hh
                case e23 => first | rfl | exact fI (by omega) | (simp_all)
                case r23 => intro h hh; cases hh
                case e24 => first | rfl | exact fI (by omega) | (simp_all)
                case r24 => intro h hh; cases hh
          · first | replace hb23 := dT hb23 | skip
            refine qa rfl (by conv=>lhs;whnf) ?_
            refine qa rfl (by conv=>lhs;whnf) ?_
            refine qo_nil ?_
            refine ev_nil (hK21 _ ?_); clear hK21
            refine good_seq fun K26 hK26 => ?_
            refine gr rfl ?_
            refine em rfl (by conv=>lhs;whnf) ?_
            refine em rfl (by conv=>lhs;whnf) ?_
            refine em rfl (by conv=>lhs;whnf) ?_
            refine em rfl (by conv=>lhs;whnf) ?_
            refine ev_q rfl (q_callB rfl rfl (rfl) (D_slices_Contains_int64_int64 _ cl hcl) ?_)
            intro b27 hb27; cases b27
            · first | replace hb27 := dF hb27 | skip
              refine ev_q rfl (q_not rfl rfl ?_)
              refine ev_q rfl (q_pickT rfl (by conv=>lhs;whnf) ?_)
              refine em rfl (by conv=>lhs;whnf) ?_
              refine em rfl (by conv=>lhs;whnf) ?_
              refine em rfl (by conv=>lhs;whnf) ?_
              refine ev_q rfl (q_callB rfl rfl (by change ([.lst 1 (List.take (toI v).length ((toI v).map ci)), .s (.int .i64 (n22))] : List AV) = _; rw [takeMap]) (D_slices_Contains_int64_int64 _ (toI v) (by rw [toI_len]; omega)) ?_)
              intro b28 hb28; cases b28
              · first | replace hb28 := dF hb28 | skip
                refine ev_q rfl (q_not rfl rfl ?_)
                refine ev_q rfl (q_pickT rfl (by conv=>lhs;whnf) ?_)
                refine ev_nil (hK26 _ ?_); clear hK26
                refine good_condT rfl ?_
                refine gr rfl ?_
                refine em rfl (by conv=>lhs;whnf) ?_
                refine em rfl (by conv=>lhs;whnf) ?_
                have hox := oth_y (p := p) (u := u) (by omega) (by omega) (by assumption)
                rw [← hn22] at hox
                have hnm : ¬ n22.toNat ∈ v := fun h => absurd ((toI_mem hox.2).2 h) (by assumption)
                have hec : ecE cl i p = pe p := if_neg (by assumption)
                have hE := bfE_T hox.1 hnm
                have hgm := List.mem_of_getElem? (esC_g (cl := cl) hpp)
                rw [hec] at hgm hbd
                have hiN := bfE_inv (hlt (pe p) hgm) hgm (List.mem_of_getElem? hv) hW
                rw [hE] at hiN hbd
                have hpN : ∃ t, v ++ [n22.toNat] = w ++ t := ⟨t ++ [n22.toNat], by rw [ht, List.append_assoc]⟩
                have hbN := hbd.symm.trans hB
                refine ev_k rfl (k_lit tE22 zA2 rfl rfl (by decide) (by decide) rfl rfl rfl ?_)
                refine ev_k rfl (k_app tApp22 rfl rfl (by first | (simp; done) | (simp [toI_len]; done)) rfl (.inr rfl) (by first | (simp [maxLen]; omega) | (simp [maxLen, toI_len]; omega)) (by first | (simp; omega) | (simp [toI_len]; omega)) ?_)
                refine ea rfl (by conv=>lhs;whnf) ?_
                refine ev_nil (hK19 _ ?_); clear hK19
                refine gr rfl ?_
                refine ei rfl rfl rfl ?_
                intro n29 hn29
                replace hn29 := in64 hn29 (by omega) (by omega)
                refine em rfl (by conv=>lhs;whnf) ?_
                refine ev_nil ?_
                clear hK3 hK11
                refine ⟨(i + 1, v ++ [n22.toNat]), ?_, ?_, ?_⟩
                · exact ⟨by first | omega | (dsimp only; omega), hiN, hpN, hbN⟩
                · first | omega | (dsimp only; omega)
                · refine sub_weak ?_ ?_
                  · exact weakH_box (boxEq (rfl)) rfl (weakH_row (rowEq (by first | rfl | exact toI_app hox.2)) (weakH_none _))
                  · refine weakE_upd ?e24 ?r24 (weakE_upd ?e23 ?r23 (weakE_upd ?e22 ?r22 (weakE_upd ?e8 ?r8 (weakE_upd ?e7 ?r7 (weakE_upd ?e3 ?r3 (weakE_upd ?e2 ?r2 (weakE_junk _ _)))))))
                    case e2 => first | rfl | exact fI (by omega) | (simp_all)
                    case r2 => intro h hh; cases hh
                    case e3 => first | rfl | exact fI (by omega) | (simp_all)
                    case r3 => intro h hh; simp [refs] at hh; subst hh; rfl
                    case e7 => first | rfl | exact fI (by omega) | (first | rfl | exact ownEq (by simp [toI_len]))
                    case r7 => intro h hh; simp [refs] at hh; subst hh; rfl
                    case e8 => first | rfl | exact fI (by omega) | (simp_all)
                    case r8 => intro h hh; cases hh
                    case e22 => first | rfl | exact fI (by omega) | (simp_all)
                    case r22 => intro h hh; cases hh
                    case e23 => first | rfl | exact fI (by omega) | (simp_all)
                    case r23 => intro h hh; cases hh
                    case e24 => first | rfl | exact fI (by omega) | (simp_all)
                    case r24 => intro h hh; cases hh
              · first | replace hb28 := dT hb28 | skip
                refine ev_q rfl (q_not rfl rfl ?_)
                refine ev_q rfl (q_pickT rfl (by conv=>lhs;whnf) ?_)
                refine ev_nil (hK26 _ ?_); clear hK26
                refine good_condF rfl ?_
                refine good_skip (hK19 _ ?_); clear hK19
                refine gr rfl ?_
                refine ei rfl rfl rfl ?_
                intro n30 hn30
                replace hn30 := in64 hn30 (by omega) (by omega)
                refine em rfl (by conv=>lhs;whnf) ?_
                refine ev_nil ?_
                clear hK3 hK11
                refine ⟨(i + 1, v), ?_, ?_, ?_⟩
                · refine ⟨by first | omega | (dsimp only; omega), hW, hP0, ?_⟩
                  show bfI _ u v = _
                  have hox := oth_y (p := p) (u := u) (by omega) (by omega) (by assumption)
                  rw [← hn22] at hox
                  have hE := bfE_M hox.1 ((toI_mem hox.2).1 (by assumption))
                  have hec : ecE cl i p = pe p := if_neg (by assumption)
                  rw [hec, hE] at hbd; exact hbd.symm.trans hB
                · first | omega | (dsimp only; omega)
                · refine sub_weak ?_ ?_
                  · exact weakH_box (boxEq (rfl)) rfl (weakH_row (rowEq (by first | rfl | exact toI_app hox.2)) (weakH_none _))
                  · refine weakE_upd ?e24 ?r24 (weakE_upd ?e23 ?r23 (weakE_upd ?e22 ?r22 (weakE_upd ?e8 ?r8 (weakE_upd ?e7 ?r7 (weakE_upd ?e3 ?r3 (weakE_upd ?e2 ?r2 (weakE_junk _ _)))))))
                    case e2 => first | rfl | exact fI (by omega) | (simp_all)
                    case r2 => intro h hh; cases hh
                    case e3 => first | rfl | exact fI (by omega) | (simp_all)
                    case r3 => intro h hh; simp [refs] at hh; subst hh; rfl
                    case e7 => first | rfl | exact fI (by omega) | (first | rfl | exact ownEq (by simp [toI_len]))
                    case r7 => intro h hh; simp [refs] at hh; subst hh; rfl
                    case e8 => first | rfl | exact fI (by omega) | (simp_all)
                    case r8 => intro h hh; cases hh
                    case e22 => first | rfl | exact fI (by omega) | (simp_all)
                    case r22 => intro h hh; cases hh
                    case e23 => first | rfl | exact fI (by omega) | (simp_all)
                    case r23 => intro h hh; cases hh
                    case e24 => first | rfl | exact fI (by omega) | (simp_all)
                    case r24 => intro h hh; cases hh
            · first | replace hb27 := dT hb27 | skip
              refine ev_q rfl (q_not rfl rfl ?_)
              refine ev_q rfl (q_pickT rfl (by conv=>lhs;whnf) ?_)
              refine em rfl (by conv=>lhs;whnf) ?_
              refine ev_skip rfl ?_
              refine ev_skip rfl ?_
              refine ev_skip rfl ?_
              refine ev_skip rfl ?_
              refine ev_q rfl (q_pickF rfl (by conv=>lhs;whnf) ?_)
              refine ev_nil (hK26 _ ?_); clear hK26
              refine good_condF rfl ?_
              refine good_skip (hK19 _ ?_); clear hK19
              refine gr rfl ?_
              refine ei rfl rfl rfl ?_
              intro n31 hn31
              replace hn31 := in64 hn31 (by omega) (by omega)
              refine em rfl (by conv=>lhs;whnf) ?_
              refine ev_nil ?_
              clear hK3 hK11
              refine ⟨(i + 1, v), ?_, ?_, ?_⟩
              · refine ⟨by first | omega | (dsimp only; omega), hW, hP0, ?_⟩
                show bfI _ u v = _
                have hE : bfE u v (ecE cl i p) = v := ec_C (by assumption) (List.mem_of_getElem? hv)
                rw [hE] at hbd; exact hbd.symm.trans hB
              · first | omega | (dsimp only; omega)
              · refine sub_weak ?_ ?_
                · exact weakH_box (boxEq (rfl)) rfl (weakH_row (rowEq (by first | rfl | exact toI_app hox.2)) (weakH_none _))
                · refine weakE_upd ?e24 ?r24 (weakE_upd ?e23 ?r23 (weakE_upd ?e22 ?r22 (weakE_upd ?e8 ?r8 (weakE_upd ?e7 ?r7 (weakE_upd ?e3 ?r3 (weakE_upd ?e2 ?r2 (weakE_junk _ _)))))))
                  case e2 => first | rfl | exact fI (by omega) | (simp_all)
                  case r2 => intro h hh; cases hh
                  case e3 => first | rfl | exact fI (by omega) | (simp_all)
                  case r3 => intro h hh; simp [refs] at hh; subst hh; rfl
                  case e7 => first | rfl | exact fI (by omega) | (first | rfl | exact ownEq (by simp [toI_len]))
                  case r7 => intro h hh; simp [refs] at hh; subst hh; rfl
                  case e8 => first | rfl | exact fI (by omega) | (simp_all)
                  case r8 => intro h hh; cases hh
                  case e22 => first | rfl | exact fI (by omega) | (simp_all)
                  case r22 => intro h hh; cases hh
                  case e23 => first | rfl | exact fI (by omega) | (simp_all)
                  case r23 => intro h hh; cases hh
                  case e24 => first | rfl | exact fI (by omega) | (simp_all)
                  case r24 => intro h hh; cases hh

-- impl.increasing
theorem D_impl_increasing (xs : List Int) (hx : xs.length ≤ 17592186044416) : Den Try.prog 145 [.lst 1 (xs.map ci)] (.s (.bool (decide (incP xs)))) := by
  refine den_of_good Try.func145 (by decide) rfl (Nat.le_of_ble_eq_true rfl) (Nat.le_of_ble_eq_true rfl) ?_
  refine good_seq fun K1 hK1 => ?_
  refine gr rfl ?_
  refine ea rfl (by conv=>lhs;whnf) ?_
  refine ev_nil (hK1 _ ?_); clear hK1
  refine good_seq fun K2 hK2 => ?_
  refine good_seq fun K3 hK3 => ?_
  refine gr rfl ?_
  refine ea rfl (by conv=>lhs;whnf) ?_
  refine ev_nil (hK3 _ ?_); clear hK3
  refine good_block ?_
  refine good_loop (α := Nat) (fun i => { env := upd (upd ((fun _ => .junk)) 0 (.lst 1 (xs.map ci))) 3 (.s (.int .i64 i)), H := fun _ => none }) (fun i => (1 ≤ i ∧ (i ≤ xs.length ∨ i = 1)) ∧ ∀ j q, j < i → xs[j]? = some q → inAt xs j q) (fun i => xs.length - i) 1 ?_ ?_ ?_
  · exact ⟨by omega, fun j u hj hu y h0 hy => by omega⟩
  · refine sub_weak ?_ ?_
    · exact weakH_none _
    · refine weakE_upd ?e3 ?r3 (weakE_upd ?e0 ?r0 (weakE_junk _ _))
      case e0 => first | rfl | exact fI (by omega) | (simp_all)
      case r0 => intro h hh; cases hh
      case e3 => first | rfl | exact fI (by omega) | (simp_all)
      case r3 => intro h hh; cases hh
  · rintro i ⟨hI, hJ⟩
    refine good_seq fun K4 hK4 => ?_
    refine good_seq fun K5 hK5 => ?_
    refine gr rfl ?_
    refine em rfl (by conv=>lhs;whnf) ?_
    refine em rfl (by conv=>lhs;whnf) ?_
    refine ev_q rfl (q_len tEs22 rfl ?_)
    intro n6 hn6
    try simp only [List.length_map] at hn6
    refine ei rfl rfl rfl ?_
    intro b7 hb7; cases b7
    · replace hb7 := dF hb7
      refine ev_nil (hK5 _ ?_); clear hK5
      refine good_condF rfl ?_
      refine good_exit ?_
      repeat first|refine thenQ_exit ?_|refine blockQ_pass rfl ?_
      refine blockQ_exit (hK2 _ ?_); clear hK2
      refine good_seq fun K8 hK8 => ?_
      refine gr rfl ?_
      refine ea rfl (by conv=>lhs;whnf) ?_
      refine ev_nil (hK8 _ ?_); clear hK8
      refine good_ret ?_
      repeat first|refine thenQ_ret ?_|refine blockQ_ret ?_
      refine ret_tmp (st := _) rfl (by conv=>lhs;whnf) rfl ?_
      clear hK4
      first | exact fT (all_finS (Q := fun j q => inAt xs j q) hJ (by omega)) | exact fF (fun h => by have := h i q hq r (by omega) (by rw [← hr]; congr 1; omega); omega)
    · replace hb7 := dT hb7
      obtain ⟨q, hq⟩ := getL (xs := xs) (n := (i : Int)) (by omega) (by omega)
      replace hq : xs[i]? = some q := hq
      refine ev_nil (hK5 _ ?_); clear hK5
      refine good_condT rfl ?_
      refine good_skip (hK4 _ ?_); clear hK4
      refine good_seq fun K9 hK9 => ?_
      refine good_block ?_
      refine good_seq fun K10 hK10 => ?_
      refine good_draw 10 hmix (by kernel_rfl) rfl ?_
      refine qm rfl (by conv=>lhs;whnf) ?_
      refine qm rfl (by conv=>lhs;whnf) ?_
      refine qo_q rfl (q_idx tE22 rfl rfl (by exact Int.natCast_nonneg _) (by exact map_get hq) rfl ?_)
      refine qo_q rfl (q_load tA2 rfl ?_)
      refine qm rfl (by conv=>lhs;whnf) ?_
      refine qm rfl (by conv=>lhs;whnf) ?_
      refine qo_q rfl (q_int rfl rfl ?_)
      intro n11 hn11
      replace hn11 := in64 hn11 (by omega) (by omega)
      obtain ⟨r, hr⟩ := getL (xs := xs) (n := n11) (by omega) (by omega)
      refine qo_q rfl (q_idx tE22 rfl rfl (by omega) (by exact map_get hr) rfl ?_)
      refine qo_q rfl (q_load tA2 rfl ?_)
      refine qo_q rfl (q_int rfl rfl ?_)
      intro b12 hb12; cases b12
      · replace hb12 := dF hb12
        refine qo_nil ?_
        refine ev_nil (hK10 _ ?_); clear hK10
        refine good_condF rfl ?_
        refine good_skip (hK9 _ ?_); clear hK9
        refine gr rfl ?_
        refine em rfl (by conv=>lhs;whnf) ?_
        refine ei rfl rfl rfl ?_
        intro n13 hn13
        replace hn13 := in64 hn13 (by omega) (by omega)
        refine ea rfl (by conv=>lhs;whnf) ?_
        refine ev_nil ?_
        clear hK2
        refine ⟨i + 1, ?_, ?_, ?_⟩
        · exact ⟨by omega, all_extS (Q := fun j q => inAt xs j q) hJ hq (fun y h0 hy => by first | omega | (have e : some y = some r := hy.symm.trans (by rw [← hr]; congr 1; omega); cases e; omega))⟩
        · first | omega | (simp only []; omega) | (dsimp only; omega)
        · refine sub_weak ?_ ?_
          · exact weakH_none _
          · refine weakE_upd ?e3 ?r3 (weakE_upd ?e0 ?r0 (weakE_junk _ _))
            case e0 => first | rfl | exact fI (by omega) | (simp_all)
            case r0 => intro h hh; cases hh
            case e3 => first | rfl | exact fI (by omega) | (simp_all)
            case r3 => intro h hh; cases hh
      · replace hb12 := dT hb12
        refine qo_nil ?_
        refine ev_nil (hK10 _ ?_); clear hK10
        refine good_condT rfl ?_
        refine good_seq fun K14 hK14 => ?_
        refine gr rfl ?_
        refine ea rfl (by conv=>lhs;whnf) ?_
        refine ev_nil (hK14 _ ?_); clear hK14
        refine good_ret ?_
        repeat first|refine thenQ_ret ?_|refine blockQ_ret ?_
        refine ret_tmp (st := _) rfl (by conv=>lhs;whnf) rfl ?_
        clear hK2 hK9
        first | exact fT (all_finS (Q := fun j q => inAt xs j q) hJ (by omega)) | exact fF (fun h => by have := h i q hq r (by omega) (by rw [← hr]; congr 1; omega); omega)

-- (impl.Network).hasPipes
theorem D_impl_Network_hasPipes (ns : List Int) (ps : List Pi) (xs : List Int) (hn : ns.length ≤ 17592186044416) (hp : ps.length ≤ 2513169434843) (hx : xs.length ≤ 17592186044416) : Den Try.prog 81 [.agg [.lst 1 (ns.map ci), .lst 6 (ps.map piA)], .lst 1 (xs.map ci)] (.s (.bool (decide (risesP xs 0 ((ps.length : Int) - 1))))) := by
  refine den_of_good Try.func81 (by decide) rfl (Nat.le_of_ble_eq_true rfl) (Nat.le_of_ble_eq_true rfl) ?_
  refine good_seq fun K1 hK1 => ?_
  refine gr rfl ?_
  refine ev_k rfl (k_box (by conv=>lhs;whnf) rfl rfl rfl ?_)
  refine ea rfl (by conv=>lhs;whnf) ?_
  refine ev_nil (hK1 _ ?_); clear hK1
  refine good_seq fun K2 hK2 => ?_
  refine gr rfl ?_
  refine em rfl (by conv=>lhs;whnf) ?_
  refine ev_q rfl (q_callB rfl rfl (rfl) (D_impl_increasing xs hx) ?_)
  intro b3 hb3; cases b3
  · first | replace hb3 := dF hb3 | skip
    refine em rfl (by conv=>lhs;whnf) ?_
    refine ev_skip rfl ?_
    refine ev_skip rfl ?_
    refine ev_skip rfl ?_
    refine ev_skip rfl ?_
    refine ev_skip rfl ?_
    refine ev_skip rfl ?_
    refine ev_q rfl (q_pickF rfl (by conv=>lhs;whnf) ?_)
    refine ea rfl (by conv=>lhs;whnf) ?_
    refine ev_nil (hK2 _ ?_); clear hK2
    refine good_ret ?_
    repeat first|refine thenQ_ret ?_|refine blockQ_ret ?_
    refine ret_tmp (st := _) rfl (by conv=>lhs;whnf) rfl ?_
    first | exact fF (fun h => absurd (rises_inc h) (by assumption)) | (subst_vars; first | exact fT (rises_of (by assumption) (by assumption)) | exact fF (fun h => absurd (rises_in h) (by assumption)))
  · first | replace hb3 := dT hb3 | skip
    refine em rfl (by conv=>lhs;whnf) ?_
    refine em rfl (by conv=>lhs;whnf) ?_
    refine ev_q rfl (q_fieldAddrP fO31_1 rfl rfl ?_)
    refine ev_q rfl (q_load tA29 rfl ?_)
    refine ev_q rfl (q_len tEs29 rfl ?_)
    intro n4 hn4
    try simp only [List.length_map] at hn4
    refine ei rfl rfl rfl ?_
    intro n5 hn5
    replace hn5 := in64 hn5 (by omega) (by omega)
    refine ev_q rfl (q_callB rfl rfl (rfl) (D_impl_allWithin xs _ _ hx) ?_)
    intro b6 hb6; cases b6
    · first | replace hb6 := dF hb6 | skip
      refine ev_q rfl (q_pickT rfl (by conv=>lhs;whnf) ?_)
      refine ea rfl (by conv=>lhs;whnf) ?_
      refine ev_nil (hK2 _ ?_); clear hK2
      refine good_ret ?_
      repeat first|refine thenQ_ret ?_|refine blockQ_ret ?_
      refine ret_tmp (st := _) rfl (by conv=>lhs;whnf) rfl ?_
      first | exact fF (fun h => absurd (rises_inc h) (by assumption)) | (subst_vars; first | exact fT (rises_of (by assumption) (by assumption)) | exact fF (fun h => absurd (rises_in h) (by assumption)))
    · first | replace hb6 := dT hb6 | skip
      refine ev_q rfl (q_pickT rfl (by conv=>lhs;whnf) ?_)
      refine ea rfl (by conv=>lhs;whnf) ?_
      refine ev_nil (hK2 _ ?_); clear hK2
      refine good_ret ?_
      repeat first|refine thenQ_ret ?_|refine blockQ_ret ?_
      refine ret_tmp (st := _) rfl (by conv=>lhs;whnf) rfl ?_
      first | exact fF (fun h => absurd (rises_inc h) (by assumption)) | (subst_vars; first | exact fT (rises_of (by assumption) (by assumption)) | exact fF (fun h => absurd (rises_in h) (by assumption)))

-- impl.ReachedWithout
theorem D_impl_ReachedWithout_X (ns : List Int) (ps : List Pi) (s : Int) (cl : List Int) (hn : ns.length ≤ 17592186044416) (hp : ps.length ≤ 2513169434843) (hz : idSz ps) (hcl : cl.length ≤ 17592186044416) : DenX Try.prog 31 [] [.agg [.lst 1 (ns.map ci), .lst 6 (ps.map piA)], .s (.int .i64 s), .lst 1 (cl.map ci)] [(900001, .row 2 1 ((rwR ns ps s cl).map ci))] (.tup [.own 900001 (rwR ns ps s cl).length, .s (.int .i64 (rwC ns ps s cl))]) := by
  refine denX_of_good Try.func31 (by decide) rfl (Nat.le_of_ble_eq_true rfl) (Nat.le_of_ble_eq_true rfl) rfl ?_
  refine good_seq fun K1 hK1 => ?_
  refine gr rfl ?_
  refine ev_k rfl (k_box (by conv=>lhs;whnf) rfl rfl rfl ?_)
  refine ea rfl (by conv=>lhs;whnf) ?_
  refine ea rfl (by conv=>lhs;whnf) ?_
  refine ev_nil (hK1 _ ?_); clear hK1
  refine good_seq fun K2 hK2 => ?_
  refine good_block ?_
  refine good_seq fun K3 hK3 => ?_
  refine gr rfl ?_
  refine ev_q rfl (q_loadA tA31 rfl rfl rfl ?_)
  refine ev_q rfl (q_callB rfl rfl (rfl) (D_impl_ValidNetwork ns ps hn hp hz) ?_)
  intro b4 hb4; cases b4
  · first | replace hb4 := dF hb4 | skip
    refine ev_q rfl (q_not rfl rfl ?_)
    refine ea rfl (by conv=>lhs;whnf) ?_
    refine ev_nil (hK3 _ ?_); clear hK3
    refine good_condT rfl ?_
    refine good_seq fun K5 hK5 => ?_
    refine gr rfl ?_
    refine ea rfl (by conv=>lhs;whnf) ?_
    refine ea rfl (by conv=>lhs;whnf) ?_
    refine ev_nil (hK5 _ ?_); clear hK5
    refine good_ret ?_
    repeat first|refine thenQ_ret ?_|refine blockQ_ret ?_
    refine fx_many rfl ?_
    refine fxs_tmp (by conv=>lhs;whnf) ?_
    refine fxs_tmp (by conv=>lhs;whnf) ?_
    refine fx_nil ?_
    clear hK2
    obtain ⟨e2, e⟩ := (by first | exact rw_1 (by assumption) | exact rw_2 (by assumption) (fun h => by first | omega | exact absurd h.2 (by assumption)) | exact rw_0 (by assumption) ⟨by omega, by assumption⟩ : rwC ns ps s cl = _ ∧ rwR ns ps s cl = _)
    exact ⟨_, .tup (.cons (conv_nil rfl (by decide) (by rw [e]; rfl)) (.cons (conv_eq (by first | rfl | exact fI (by omega) | (exfalso; first | omega | grind))) (.nil))), weakH_row (rowEq (by first | (rw [e]; done) | (rw [e]; rfl))) (weakH_none _), refsIn_ok rfl⟩
  · first | replace hb4 := dT hb4 | skip
    refine ev_q rfl (q_not rfl rfl ?_)
    refine ea rfl (by conv=>lhs;whnf) ?_
    refine ev_nil (hK3 _ ?_); clear hK3
    refine good_condF rfl ?_
    refine good_seq fun K6 hK6 => ?_
    refine gr rfl ?_
    refine ev_q rfl (q_loadA tA31 rfl rfl rfl ?_)
    refine em rfl (by conv=>lhs;whnf) ?_
    refine ev_q rfl (q_callB rfl rfl (rfl) (D_impl_Network_hasNode _ _ _ hn) ?_)
    intro b7 hb7; cases b7
    · first | replace hb7 := dF hb7 | skip
      refine ev_q rfl (q_not rfl rfl ?_)
      refine em rfl (by conv=>lhs;whnf) ?_
      refine ev_skip rfl ?_
      refine ev_skip rfl ?_
      refine ev_skip rfl ?_
      refine ev_skip rfl ?_
      refine ev_q rfl (q_pickT rfl (by conv=>lhs;whnf) ?_)
      refine ea rfl (by conv=>lhs;whnf) ?_
      refine ev_nil (hK6 _ ?_); clear hK6
      refine good_condT rfl ?_
      refine good_seq fun K8 hK8 => ?_
      refine gr rfl ?_
      refine ea rfl (by conv=>lhs;whnf) ?_
      refine ea rfl (by conv=>lhs;whnf) ?_
      refine ev_nil (hK8 _ ?_); clear hK8
      refine good_ret ?_
      repeat first|refine thenQ_ret ?_|refine blockQ_ret ?_
      refine fx_many rfl ?_
      refine fxs_tmp (by conv=>lhs;whnf) ?_
      refine fxs_tmp (by conv=>lhs;whnf) ?_
      refine fx_nil ?_
      clear hK2
      obtain ⟨e2, e⟩ := (by first | exact rw_1 (by assumption) | exact rw_2 (by assumption) (fun h => by first | omega | exact absurd h.2 (by assumption)) | exact rw_0 (by assumption) ⟨by omega, by assumption⟩ : rwC ns ps s cl = _ ∧ rwR ns ps s cl = _)
      exact ⟨_, .tup (.cons (conv_nil rfl (by decide) (by rw [e]; rfl)) (.cons (conv_eq (by first | rfl | exact fI (by omega) | (exfalso; first | omega | grind))) (.nil))), weakH_row (rowEq (by first | (rw [e]; done) | (rw [e]; rfl))) (weakH_none _), refsIn_ok rfl⟩
    · first | replace hb7 := dT hb7 | skip
      refine ev_q rfl (q_not rfl rfl ?_)
      refine em rfl (by conv=>lhs;whnf) ?_
      refine ev_q rfl (q_loadA tA31 rfl rfl rfl ?_)
      refine em rfl (by conv=>lhs;whnf) ?_
      refine ev_q rfl (q_callB rfl rfl (rfl) (D_impl_Network_hasPipes ns ps cl hn hp hcl) ?_)
      intro b9 hb9; cases b9
      · first | replace hb9 := dF hb9 | skip
        refine ev_q rfl (q_not rfl rfl ?_)
        refine ev_q rfl (q_pickF rfl (by conv=>lhs;whnf) ?_)
        refine ea rfl (by conv=>lhs;whnf) ?_
        refine ev_nil (hK6 _ ?_); clear hK6
        refine good_condT rfl ?_
        refine good_seq fun K10 hK10 => ?_
        refine gr rfl ?_
        refine ea rfl (by conv=>lhs;whnf) ?_
        refine ea rfl (by conv=>lhs;whnf) ?_
        refine ev_nil (hK10 _ ?_); clear hK10
        refine good_ret ?_
        repeat first|refine thenQ_ret ?_|refine blockQ_ret ?_
        refine fx_many rfl ?_
        refine fxs_tmp (by conv=>lhs;whnf) ?_
        refine fxs_tmp (by conv=>lhs;whnf) ?_
        refine fx_nil ?_
        clear hK2
        obtain ⟨e2, e⟩ := (by first | exact rw_1 (by assumption) | exact rw_2 (by assumption) (fun h => by first | omega | exact absurd h.2 (by assumption)) | exact rw_0 (by assumption) ⟨by omega, by assumption⟩ : rwC ns ps s cl = _ ∧ rwR ns ps s cl = _)
        exact ⟨_, .tup (.cons (conv_nil rfl (by decide) (by rw [e]; rfl)) (.cons (conv_eq (by first | rfl | exact fI (by omega) | (exfalso; first | omega | grind))) (.nil))), weakH_row (rowEq (by first | (rw [e]; done) | (rw [e]; rfl))) (weakH_none _), refsIn_ok rfl⟩
      · first | replace hb9 := dT hb9 | skip
        refine ev_q rfl (q_not rfl rfl ?_)
        refine ev_q rfl (q_pickF rfl (by conv=>lhs;whnf) ?_)
        refine ea rfl (by conv=>lhs;whnf) ?_
        refine ev_nil (hK6 _ ?_); clear hK6
        refine good_condF rfl ?_
        refine good_skip (hK2 _ ?_); clear hK2
        refine good_seq fun K11 hK11 => ?_
        refine gr rfl ?_
        refine ev_q rfl (q_loadA tA31 rfl rfl rfl ?_)
        refine em rfl (by conv=>lhs;whnf) ?_
        refine em rfl (by conv=>lhs;whnf) ?_
        refine ev_k rfl (k_callX [(900001, 900001)] (D_impl_Network_reached_C ns ps s cl hn hp hz (by assumption) (by omega) hcl) rfl (rfl) (rfl) trivial ⟨⟨rfl, show (900001 : Nat) < 1000000 by decide⟩, trivial⟩ rfl rfl rfl ?_)
        refine ea rfl (by conv=>lhs;whnf) ?_
        refine ea rfl (by conv=>lhs;whnf) ?_
        refine ev_nil (hK11 _ ?_); clear hK11
        refine good_ret ?_
        repeat first|refine thenQ_ret ?_|refine blockQ_ret ?_
        refine fx_many rfl ?_
        refine fxs_tmp (by conv=>lhs;whnf) ?_
        refine fxs_tmp (by conv=>lhs;whnf) ?_
        refine fx_nil ?_
        obtain ⟨e2, e⟩ := (by first | exact rw_1 (by assumption) | exact rw_2 (by assumption) (fun h => by first | omega | exact absurd h.2 (by assumption)) | exact rw_0 (by assumption) ⟨by omega, by assumption⟩ : rwC ns ps s cl = _ ∧ rwR ns ps s cl = _)
        exact ⟨_, .tup (.cons (conv_eq (by first | rfl | (rw [e]; done) | (rw [e]; rfl) | exact ownEq (by first | omega | simp_all))) (.cons (conv_eq (by first | rfl | exact fI (by omega) | (exfalso; first | omega | grind))) (.nil))), weakH_row (rowEq (by first | (rw [e]; done) | (rw [e]; rfl))) (weakH_none _), refsIn_ok rfl⟩
theorem D_impl_ReachedWithout (ns : List Int) (ps : List Pi) (s : Int) (cl : List Int) (hn : ns.length ≤ 17592186044416) (hp : ps.length ≤ 2513169434843) (hz : idSz ps) (hcl : cl.length ≤ 17592186044416) : Den Try.prog 31 [.agg [.lst 1 (ns.map ci), .lst 6 (ps.map piA)], .s (.int .i64 s), .lst 1 (cl.map ci)] (.tup [.lst 1 ((rwR ns ps s cl).map ci), .s (.int .i64 (rwC ns ps s cl))]) :=
  den_of_denX (D_impl_ReachedWithout_X ns ps s cl hn hp hz hcl) (by change (some (.tup [.lst 1 (List.take (rwR ns ps s cl).length ((rwR ns ps s cl).map ci)), .s (.int .i64 (rwC ns ps s cl))]) : Option AV) = some (.tup [.lst 1 ((rwR ns ps s cl).map ci), .s (.int .i64 (rwC ns ps s cl))]); simp only [takeMap])

-- laws.b10Walk
theorem D_laws_b10Walk (ns : List Int) (ps : List Pi) (L : List Int) (a : Int) (P : Nat → Int) (hn : ns.length ≤ 1000) (hp : ps.length ≤ 1000) (hP0 : P 0 = a) (hT : TrW ps L P) (hL : L.length ≤ 1000) : Den Try.prog 29 [.rp [.lst 1 (ns.map ci), .lst 6 (ps.map piA)], .lst 1 (L.map ci), .s (.int .i64 a)] (.s (.int .i64 (P L.length))) := by
  refine den_of_good Try.func29 (by decide) rfl (Nat.le_of_ble_eq_true rfl) (Nat.le_of_ble_eq_true rfl) ?_
  refine good_seq fun K1 hK1 => ?_
  refine gr rfl ?_
  refine ea rfl (by conv=>lhs;whnf) ?_
  refine ev_nil (hK1 _ ?_); clear hK1
  refine good_seq fun K2 hK2 => ?_
  refine gr rfl ?_
  refine em rfl (by conv=>lhs;whnf) ?_
  refine ea rfl (by conv=>lhs;whnf) ?_
  refine ev_nil (hK2 _ ?_); clear hK2
  refine good_seq fun K3 hK3 => ?_
  refine good_seq fun K4 hK4 => ?_
  refine gr rfl ?_
  refine ea rfl (by conv=>lhs;whnf) ?_
  refine ev_nil (hK4 _ ?_); clear hK4
  refine good_block ?_
  refine good_loop (α := Nat) (fun i => { env := upd (upd (upd (upd ((fun _ => .junk)) 0 (.rp [.lst 1 (ns.map ci), .lst 6 (ps.map piA)])) 1 (.lst 1 (L.map ci))) 7 (.s (.int .i64 (P i)))) 8 (.s (.int .i64 ((i : Int)))), H := fun _ => none }) (fun i => i ≤ L.length) (fun i => L.length - i) 0 ?_ ?_ ?_
  · exact Nat.zero_le _
  · refine sub_weak ?_ ?_
    · exact weakH_none _
    · refine weakE_upd ?e8 ?r8 (weakE_upd ?e7 ?r7 (weakE_upd ?e1 ?r1 (weakE_upd ?e0 ?r0 (weakE_junk _ _))))
      case e0 => first | rfl | exact fI (by omega) | (simp_all)
      case r0 => intro h hh; cases hh
      case e1 => first | rfl | exact fI (by omega) | (simp_all)
      case r1 => intro h hh; cases hh
      case e7 => first | rfl | exact fI (by omega) | (first | rfl | exact fI (by omega))
      case r7 => intro h hh; cases hh
      case e8 => first | rfl | exact fI (by omega) | (simp_all)
      case r8 => intro h hh; cases hh
  · rintro i hI
    refine good_seq fun K5 hK5 => ?_
    refine good_seq fun K6 hK6 => ?_
    refine gr rfl ?_
    refine em rfl (by conv=>lhs;whnf) ?_
    refine em rfl (by conv=>lhs;whnf) ?_
    refine ev_q rfl (q_len tEs22 rfl ?_)
    intro n7 hn7
    try simp only [List.length_map] at hn7
    refine ei rfl rfl rfl ?_
    intro b8 hb8; cases b8
    · replace hb8 := dF hb8
      refine ev_nil (hK6 _ ?_); clear hK6
      refine good_condF rfl ?_
      refine good_exit ?_
      repeat first|refine thenQ_exit ?_|refine blockQ_pass rfl ?_
      refine blockQ_exit (hK3 _ ?_); clear hK3
      refine good_seq fun K9 hK9 => ?_
      refine gr rfl ?_
      refine em rfl (by conv=>lhs;whnf) ?_
      refine ea rfl (by conv=>lhs;whnf) ?_
      refine ev_nil (hK9 _ ?_); clear hK9
      refine good_ret ?_
      repeat first|refine thenQ_ret ?_|refine blockQ_ret ?_
      refine ret_tmp (st := _) rfl (by conv=>lhs;whnf) rfl ?_
      clear hK5
      first | (exfalso; omega) | exact fI (by rw [show L.length = i by omega])
    · replace hb8 := dT hb8
      obtain ⟨q, hq⟩ := getL (xs := L) (n := (i : Int)) (by omega) (by omega)
      replace hq : L[i]? = some q := hq
      obtain ⟨k, p, hkp, hst⟩ := hT i q hq
      have hkl := (List.getElem?_eq_some_iff.1 hkp).1
      refine ev_nil (hK6 _ ?_); clear hK6
      refine good_condT rfl ?_
      refine good_skip (hK5 _ ?_); clear hK5
      refine good_seq fun K10 hK10 => ?_
      refine good_block ?_
      refine good_seq fun K11 hK11 => ?_
      refine gr rfl ?_
      refine em rfl (by conv=>lhs;whnf) ?_
      refine em rfl (by conv=>lhs;whnf) ?_
      refine ev_q rfl (q_idx tE22 rfl rfl (by first | exact Int.natCast_nonneg _ | omega) (by exact map_get hq) rfl ?_)
      refine ev_q rfl (q_load tA2 rfl ?_)
      refine ei rfl rfl rfl ?_
      intro n12 hn12
      replace hn12 := in64 hn12 (by omega) (by omega)
      refine ea rfl (by conv=>lhs;whnf) ?_
      refine ev_nil (hK11 _ ?_); clear hK11
      refine good_seq fun K13 hK13 => ?_
      refine good_seq fun K14 hK14 => ?_
      refine gr rfl ?_
      refine em rfl (by conv=>lhs;whnf) ?_
      refine em rfl (by conv=>lhs;whnf) ?_
      refine ev_q rfl (q_idx tE22 rfl rfl (by first | exact Int.natCast_nonneg _ | omega) (by exact map_get hq) rfl ?_)
      refine ev_q rfl (q_load tA2 rfl ?_)
      refine ei rfl rfl rfl ?_
      intro b15 hb15; cases b15
      · replace hb15 := dF hb15
        refine ev_nil (hK14 _ ?_); clear hK14
        refine good_condF rfl ?_
        refine good_skip (hK13 _ ?_); clear hK13
        refine good_seq fun K16 hK16 => ?_
        refine good_seq fun K17 hK17 => ?_
        refine gr rfl ?_
        refine em rfl (by conv=>lhs;whnf) ?_
        refine em rfl (by conv=>lhs;whnf) ?_
        refine ev_q rfl (q_idx tE22 rfl rfl (by first | exact Int.natCast_nonneg _ | omega) (by exact map_get hq) rfl ?_)
        refine ev_q rfl (q_load tA2 rfl ?_)
        refine ei rfl rfl rfl ?_
        intro b18 hb18; cases b18
        rotate_left
        · replace hb18 := eqT hb18
          exfalso; omega
        replace hb18 := eqF hb18
        refine em rfl (by conv=>lhs;whnf) ?_
        refine em rfl (by conv=>lhs;whnf) ?_
        refine ei rfl rfl rfl ?_
        intro b19 hb19; cases b19
        rotate_left
        · replace hb19 := dT hb19
          exfalso; omega
        replace hb19 := dF hb19
        refine ev_q rfl (q_pickF rfl (by conv=>lhs;whnf) ?_)
        refine em rfl (by conv=>lhs;whnf) ?_
        refine em rfl (by conv=>lhs;whnf) ?_
        refine em rfl (by conv=>lhs;whnf) ?_
        refine ev_q rfl (q_nilCheck (by conv=>lhs;whnf) rfl ?_)
        refine ev_q rfl (q_fieldAddr fO31_1 rfl rfl ?_)
        refine ev_q rfl (q_load tA29 rfl ?_)
        refine ev_q rfl (q_len tEs29 rfl ?_)
        intro n20 hn20
        try simp only [List.length_map] at hn20
        refine ei rfl rfl rfl ?_
        intro b21 hb21; cases b21
        rotate_left
        · replace hb21 := dT hb21
          exfalso; omega
        replace hb21 := dF hb21
        refine ev_q rfl (q_pickF rfl (by conv=>lhs;whnf) ?_)
        refine ev_nil (hK17 _ ?_); clear hK17
        refine good_condF rfl ?_
        refine good_skip (hK16 _ ?_); clear hK16
        refine good_seq fun K22 hK22 => ?_
        refine gr rfl ?_
        refine em rfl (by conv=>lhs;whnf) ?_
        refine ev_q rfl (q_nilCheck (by conv=>lhs;whnf) rfl ?_)
        refine ev_q rfl (q_fieldAddr fO31_1 rfl rfl ?_)
        refine ev_q rfl (q_load tA29 rfl ?_)
        refine em rfl (by conv=>lhs;whnf) ?_
        refine ev_q rfl (q_idx tE29 rfl rfl (by first | exact Int.natCast_nonneg _ | omega) (by first | exact map_get (show ps[(n12 : Int).toNat]? = some p by rw [← hkp]; congr 1; omega) | exact map_get (show ps[(?t33 : Int).toNat]? = some p by rw [← hkp]; congr 1; omega)) rfl ?_)
        refine ev_q rfl (q_loadA tA59 rfl rfl rfl ?_)
        refine ev_k rfl (k_alloc zA59 rfl ?_)
        refine ev_k rfl (k_store sz59 rfl (by conv=>lhs;whnf) rfl rfl rfl (Nat.le_of_ble_eq_true rfl) rfl ?_)
        refine ev_nil (hK22 _ ?_); clear hK22
        refine good_seq fun K23 hK23 => ?_
        refine gr rfl ?_
        refine em rfl (by conv=>lhs;whnf) ?_
        refine em rfl (by conv=>lhs;whnf) ?_
        refine ev_q rfl (q_idx tE22 rfl rfl (by first | exact Int.natCast_nonneg _ | omega) (by exact map_get hq) rfl ?_)
        refine ev_q rfl (q_load tA2 rfl ?_)
        refine ei rfl rfl rfl ?_
        intro b24 hb24; cases b24
        · replace hb24 := dF hb24
          refine em rfl (by conv=>lhs;whnf) ?_
          refine ev_skip rfl ?_
          refine ev_skip rfl ?_
          refine ev_skip rfl ?_
          refine ev_skip rfl ?_
          refine ev_q rfl (q_pickF rfl (by conv=>lhs;whnf) ?_)
          refine ev_nil (hK23 _ ?_); clear hK23
          refine good_condF rfl ?_
          refine good_seq fun K25 hK25 => ?_
          refine gr rfl ?_
          refine em rfl (by conv=>lhs;whnf) ?_
          refine em rfl (by conv=>lhs;whnf) ?_
          refine ev_q rfl (q_idx tE22 rfl rfl (by first | exact Int.natCast_nonneg _ | omega) (by exact map_get hq) rfl ?_)
          refine ev_q rfl (q_load tA2 rfl ?_)
          refine ei rfl rfl rfl ?_
          intro b26 hb26; cases b26
          · replace hb26 := dF hb26
            refine em rfl (by conv=>lhs;whnf) ?_
            refine ev_skip rfl ?_
            refine ev_skip rfl ?_
            refine ev_skip rfl ?_
            refine ev_skip rfl ?_
            refine ev_q rfl (q_pickF rfl (by conv=>lhs;whnf) ?_)
            refine ev_nil (hK25 _ ?_); clear hK25
            refine good_condF rfl ?_
            refine good_seq fun K27 hK27 => ?_
            refine gr rfl ?_
            refine ea rfl (by conv=>lhs;whnf) ?_
            refine ev_nil (hK27 _ ?_); clear hK27
            refine good_ret ?_
            repeat first|refine thenQ_ret ?_|refine blockQ_ret ?_
            refine ret_tmp (st := _) rfl (by conv=>lhs;whnf) rfl ?_
            clear hK3 hK10
            first | (exfalso; omega) | exact fI (by rw [show L.length = i by omega])
          · replace hb26 := dT hb26
            refine em rfl (by conv=>lhs;whnf) ?_
            refine ev_q rfl (q_fieldAddrP fO59_2 rfl rfl ?_)
            refine ev_q rfl (q_load tA2 rfl ?_)
            refine em rfl (by conv=>lhs;whnf) ?_
            refine ei rfl rfl rfl ?_
            intro b28 hb28; cases b28
            · replace hb28 := eqF hb28
              refine ev_q rfl (q_pickT rfl (by conv=>lhs;whnf) ?_)
              refine ev_nil (hK25 _ ?_); clear hK25
              refine good_condF rfl ?_
              refine good_seq fun K29 hK29 => ?_
              refine gr rfl ?_
              refine ea rfl (by conv=>lhs;whnf) ?_
              refine ev_nil (hK29 _ ?_); clear hK29
              refine good_ret ?_
              repeat first|refine thenQ_ret ?_|refine blockQ_ret ?_
              refine ret_tmp (st := _) rfl (by conv=>lhs;whnf) rfl ?_
              clear hK3 hK10
              first | (exfalso; omega) | exact fI (by rw [show L.length = i by omega])
            · replace hb28 := eqT hb28
              refine ev_q rfl (q_pickT rfl (by conv=>lhs;whnf) ?_)
              refine ev_nil (hK25 _ ?_); clear hK25
              refine good_condT rfl ?_
              refine gr rfl ?_
              refine ev_q rfl (q_fieldAddrP fO59_1 rfl rfl ?_)
              refine ev_q rfl (q_load tA2 rfl ?_)
              refine ea rfl (by conv=>lhs;whnf) ?_
              refine ev_nil (hK10 _ ?_); clear hK10
              refine gr rfl ?_
              refine em rfl (by conv=>lhs;whnf) ?_
              refine ei rfl rfl rfl ?_
              intro n30 hn30
              replace hn30 := in64 hn30 (by omega) (by omega)
              refine ea rfl (by conv=>lhs;whnf) ?_
              refine ev_nil ?_
              clear hK3
              refine ⟨i + 1, ?_, ?_, ?_⟩
              · show _ ≤ _; omega
              · first | omega | (simp only []; omega) | (dsimp only; omega)
              · refine sub_weak ?_ ?_
                · exact weakH_none _
                · refine weakE_upd ?e8 ?r8 (weakE_upd ?e7 ?r7 (weakE_upd ?e1 ?r1 (weakE_upd ?e0 ?r0 (weakE_junk _ _))))
                  case e0 => first | rfl | exact fI (by omega) | (simp_all)
                  case r0 => intro h hh; cases hh
                  case e1 => first | rfl | exact fI (by omega) | (simp_all)
                  case r1 => intro h hh; cases hh
                  case e7 => first | rfl | exact fI (by omega) | (first | rfl | exact fI (by omega))
                  case r7 => intro h hh; cases hh
                  case e8 => first | rfl | exact fI (by omega) | (simp_all)
                  case r8 => intro h hh; cases hh
        · replace hb24 := dT hb24
          refine em rfl (by conv=>lhs;whnf) ?_
          refine ev_q rfl (q_fieldAddrP fO59_1 rfl rfl ?_)
          refine ev_q rfl (q_load tA2 rfl ?_)
          refine em rfl (by conv=>lhs;whnf) ?_
          refine ei rfl rfl rfl ?_
          intro b31 hb31; cases b31
          · replace hb31 := eqF hb31
            refine ev_q rfl (q_pickT rfl (by conv=>lhs;whnf) ?_)
            refine ev_nil (hK23 _ ?_); clear hK23
            refine good_condF rfl ?_
            refine good_seq fun K32 hK32 => ?_
            refine gr rfl ?_
            refine em rfl (by conv=>lhs;whnf) ?_
            refine em rfl (by conv=>lhs;whnf) ?_
            refine ev_q rfl (q_idx tE22 rfl rfl (by first | exact Int.natCast_nonneg _ | omega) (by exact map_get hq) rfl ?_)
            refine ev_q rfl (q_load tA2 rfl ?_)
            refine ei rfl rfl rfl ?_
            intro b33 hb33; cases b33
            · replace hb33 := dF hb33
              refine em rfl (by conv=>lhs;whnf) ?_
              refine ev_skip rfl ?_
              refine ev_skip rfl ?_
              refine ev_skip rfl ?_
              refine ev_skip rfl ?_
              refine ev_q rfl (q_pickF rfl (by conv=>lhs;whnf) ?_)
              refine ev_nil (hK32 _ ?_); clear hK32
              refine good_condF rfl ?_
              refine good_seq fun K34 hK34 => ?_
              refine gr rfl ?_
              refine ea rfl (by conv=>lhs;whnf) ?_
              refine ev_nil (hK34 _ ?_); clear hK34
              refine good_ret ?_
              repeat first|refine thenQ_ret ?_|refine blockQ_ret ?_
              refine ret_tmp (st := _) rfl (by conv=>lhs;whnf) rfl ?_
              clear hK3 hK10
              first | (exfalso; omega) | exact fI (by rw [show L.length = i by omega])
            · replace hb33 := dT hb33
              refine em rfl (by conv=>lhs;whnf) ?_
              refine ev_q rfl (q_fieldAddrP fO59_2 rfl rfl ?_)
              refine ev_q rfl (q_load tA2 rfl ?_)
              refine em rfl (by conv=>lhs;whnf) ?_
              refine ei rfl rfl rfl ?_
              intro b35 hb35; cases b35
              · replace hb35 := eqF hb35
                refine ev_q rfl (q_pickT rfl (by conv=>lhs;whnf) ?_)
                refine ev_nil (hK32 _ ?_); clear hK32
                refine good_condF rfl ?_
                refine good_seq fun K36 hK36 => ?_
                refine gr rfl ?_
                refine ea rfl (by conv=>lhs;whnf) ?_
                refine ev_nil (hK36 _ ?_); clear hK36
                refine good_ret ?_
                repeat first|refine thenQ_ret ?_|refine blockQ_ret ?_
                refine ret_tmp (st := _) rfl (by conv=>lhs;whnf) rfl ?_
                clear hK3 hK10
                first | (exfalso; omega) | exact fI (by rw [show L.length = i by omega])
              · replace hb35 := eqT hb35
                refine ev_q rfl (q_pickT rfl (by conv=>lhs;whnf) ?_)
                refine ev_nil (hK32 _ ?_); clear hK32
                refine good_condT rfl ?_
                refine gr rfl ?_
                refine ev_q rfl (q_fieldAddrP fO59_1 rfl rfl ?_)
                refine ev_q rfl (q_load tA2 rfl ?_)
                refine ea rfl (by conv=>lhs;whnf) ?_
                refine ev_nil (hK10 _ ?_); clear hK10
                refine gr rfl ?_
                refine em rfl (by conv=>lhs;whnf) ?_
                refine ei rfl rfl rfl ?_
                intro n37 hn37
                replace hn37 := in64 hn37 (by omega) (by omega)
                refine ea rfl (by conv=>lhs;whnf) ?_
                refine ev_nil ?_
                clear hK3
                refine ⟨i + 1, ?_, ?_, ?_⟩
                · show _ ≤ _; omega
                · first | omega | (simp only []; omega) | (dsimp only; omega)
                · refine sub_weak ?_ ?_
                  · exact weakH_none _
                  · refine weakE_upd ?e8 ?r8 (weakE_upd ?e7 ?r7 (weakE_upd ?e1 ?r1 (weakE_upd ?e0 ?r0 (weakE_junk _ _))))
                    case e0 => first | rfl | exact fI (by omega) | (simp_all)
                    case r0 => intro h hh; cases hh
                    case e1 => first | rfl | exact fI (by omega) | (simp_all)
                    case r1 => intro h hh; cases hh
                    case e7 => first | rfl | exact fI (by omega) | (first | rfl | exact fI (by omega))
                    case r7 => intro h hh; cases hh
                    case e8 => first | rfl | exact fI (by omega) | (simp_all)
                    case r8 => intro h hh; cases hh
          · replace hb31 := eqT hb31
            refine ev_q rfl (q_pickT rfl (by conv=>lhs;whnf) ?_)
            refine ev_nil (hK23 _ ?_); clear hK23
            refine good_condT rfl ?_
            refine gr rfl ?_
            refine ev_q rfl (q_fieldAddrP fO59_2 rfl rfl ?_)
            refine ev_q rfl (q_load tA2 rfl ?_)
            refine ea rfl (by conv=>lhs;whnf) ?_
            refine ev_nil (hK10 _ ?_); clear hK10
            refine gr rfl ?_
            refine em rfl (by conv=>lhs;whnf) ?_
            refine ei rfl rfl rfl ?_
            intro n38 hn38
            replace hn38 := in64 hn38 (by omega) (by omega)
            refine ea rfl (by conv=>lhs;whnf) ?_
            refine ev_nil ?_
            clear hK3
            refine ⟨i + 1, ?_, ?_, ?_⟩
            · show _ ≤ _; omega
            · first | omega | (simp only []; omega) | (dsimp only; omega)
            · refine sub_weak ?_ ?_
              · exact weakH_none _
              · refine weakE_upd ?e8 ?r8 (weakE_upd ?e7 ?r7 (weakE_upd ?e1 ?r1 (weakE_upd ?e0 ?r0 (weakE_junk _ _))))
                case e0 => first | rfl | exact fI (by omega) | (simp_all)
                case r0 => intro h hh; cases hh
                case e1 => first | rfl | exact fI (by omega) | (simp_all)
                case r1 => intro h hh; cases hh
                case e7 => first | rfl | exact fI (by omega) | (first | rfl | exact fI (by omega))
                case r7 => intro h hh; cases hh
                case e8 => first | rfl | exact fI (by omega) | (simp_all)
                case r8 => intro h hh; cases hh
      · replace hb15 := dT hb15
        refine ev_nil (hK14 _ ?_); clear hK14
        refine good_condT rfl ?_
        refine gr rfl ?_
        refine em rfl (by conv=>lhs;whnf) ?_
        refine em rfl (by conv=>lhs;whnf) ?_
        refine ev_q rfl (q_idx tE22 rfl rfl (by first | exact Int.natCast_nonneg _ | omega) (by exact map_get hq) rfl ?_)
        refine ev_q rfl (q_load tA2 rfl ?_)
        refine ev_q rfl (q_neg rfl ?_)
        intro n39 hn39
        replace hn39 := neg64 hn39 (by omega) (by omega)
        refine ei rfl rfl rfl ?_
        intro n40 hn40
        replace hn40 := in64 hn40 (by omega) (by omega)
        refine ea rfl (by conv=>lhs;whnf) ?_
        refine ev_nil (hK13 _ ?_); clear hK13
        refine good_seq fun K41 hK41 => ?_
        refine good_seq fun K42 hK42 => ?_
        refine gr rfl ?_
        refine em rfl (by conv=>lhs;whnf) ?_
        refine em rfl (by conv=>lhs;whnf) ?_
        refine ev_q rfl (q_idx tE22 rfl rfl (by first | exact Int.natCast_nonneg _ | omega) (by exact map_get hq) rfl ?_)
        refine ev_q rfl (q_load tA2 rfl ?_)
        refine ei rfl rfl rfl ?_
        intro b43 hb43; cases b43
        rotate_left
        · replace hb43 := eqT hb43
          exfalso; omega
        replace hb43 := eqF hb43
        refine em rfl (by conv=>lhs;whnf) ?_
        refine em rfl (by conv=>lhs;whnf) ?_
        refine ei rfl rfl rfl ?_
        intro b44 hb44; cases b44
        rotate_left
        · replace hb44 := dT hb44
          exfalso; omega
        replace hb44 := dF hb44
        refine ev_q rfl (q_pickF rfl (by conv=>lhs;whnf) ?_)
        refine em rfl (by conv=>lhs;whnf) ?_
        refine em rfl (by conv=>lhs;whnf) ?_
        refine em rfl (by conv=>lhs;whnf) ?_
        refine ev_q rfl (q_nilCheck (by conv=>lhs;whnf) rfl ?_)
        refine ev_q rfl (q_fieldAddr fO31_1 rfl rfl ?_)
        refine ev_q rfl (q_load tA29 rfl ?_)
        refine ev_q rfl (q_len tEs29 rfl ?_)
        intro n45 hn45
        try simp only [List.length_map] at hn45
        refine ei rfl rfl rfl ?_
        intro b46 hb46; cases b46
        rotate_left
        · replace hb46 := dT hb46
          exfalso; omega
        replace hb46 := dF hb46
        refine ev_q rfl (q_pickF rfl (by conv=>lhs;whnf) ?_)
        refine ev_nil (hK42 _ ?_); clear hK42
        refine good_condF rfl ?_
        refine good_skip (hK41 _ ?_); clear hK41
        refine good_seq fun K47 hK47 => ?_
        refine gr rfl ?_
        refine em rfl (by conv=>lhs;whnf) ?_
        refine ev_q rfl (q_nilCheck (by conv=>lhs;whnf) rfl ?_)
        refine ev_q rfl (q_fieldAddr fO31_1 rfl rfl ?_)
        refine ev_q rfl (q_load tA29 rfl ?_)
        refine em rfl (by conv=>lhs;whnf) ?_
        refine ev_q rfl (q_idx tE29 rfl rfl (by first | exact Int.natCast_nonneg _ | omega) (by first | exact map_get (show ps[(n12 : Int).toNat]? = some p by rw [← hkp]; congr 1; omega) | exact map_get (show ps[(n40 : Int).toNat]? = some p by rw [← hkp]; congr 1; omega)) rfl ?_)
        refine ev_q rfl (q_loadA tA59 rfl rfl rfl ?_)
        refine ev_k rfl (k_alloc zA59 rfl ?_)
        refine ev_k rfl (k_store sz59 rfl (by conv=>lhs;whnf) rfl rfl rfl (Nat.le_of_ble_eq_true rfl) rfl ?_)
        refine ev_nil (hK47 _ ?_); clear hK47
        refine good_seq fun K48 hK48 => ?_
        refine gr rfl ?_
        refine em rfl (by conv=>lhs;whnf) ?_
        refine em rfl (by conv=>lhs;whnf) ?_
        refine ev_q rfl (q_idx tE22 rfl rfl (by first | exact Int.natCast_nonneg _ | omega) (by exact map_get hq) rfl ?_)
        refine ev_q rfl (q_load tA2 rfl ?_)
        refine ei rfl rfl rfl ?_
        intro b49 hb49; cases b49
        · replace hb49 := dF hb49
          refine em rfl (by conv=>lhs;whnf) ?_
          refine ev_skip rfl ?_
          refine ev_skip rfl ?_
          refine ev_skip rfl ?_
          refine ev_skip rfl ?_
          refine ev_q rfl (q_pickF rfl (by conv=>lhs;whnf) ?_)
          refine ev_nil (hK48 _ ?_); clear hK48
          refine good_condF rfl ?_
          refine good_seq fun K50 hK50 => ?_
          refine gr rfl ?_
          refine em rfl (by conv=>lhs;whnf) ?_
          refine em rfl (by conv=>lhs;whnf) ?_
          refine ev_q rfl (q_idx tE22 rfl rfl (by first | exact Int.natCast_nonneg _ | omega) (by exact map_get hq) rfl ?_)
          refine ev_q rfl (q_load tA2 rfl ?_)
          refine ei rfl rfl rfl ?_
          intro b51 hb51; cases b51
          · replace hb51 := dF hb51
            refine em rfl (by conv=>lhs;whnf) ?_
            refine ev_skip rfl ?_
            refine ev_skip rfl ?_
            refine ev_skip rfl ?_
            refine ev_skip rfl ?_
            refine ev_q rfl (q_pickF rfl (by conv=>lhs;whnf) ?_)
            refine ev_nil (hK50 _ ?_); clear hK50
            refine good_condF rfl ?_
            refine good_seq fun K52 hK52 => ?_
            refine gr rfl ?_
            refine ea rfl (by conv=>lhs;whnf) ?_
            refine ev_nil (hK52 _ ?_); clear hK52
            refine good_ret ?_
            repeat first|refine thenQ_ret ?_|refine blockQ_ret ?_
            refine ret_tmp (st := _) rfl (by conv=>lhs;whnf) rfl ?_
            clear hK3 hK10
            first | (exfalso; omega) | exact fI (by rw [show L.length = i by omega])
          · replace hb51 := dT hb51
            refine em rfl (by conv=>lhs;whnf) ?_
            refine ev_q rfl (q_fieldAddrP fO59_2 rfl rfl ?_)
            refine ev_q rfl (q_load tA2 rfl ?_)
            refine em rfl (by conv=>lhs;whnf) ?_
            refine ei rfl rfl rfl ?_
            intro b53 hb53; cases b53
            · replace hb53 := eqF hb53
              refine ev_q rfl (q_pickT rfl (by conv=>lhs;whnf) ?_)
              refine ev_nil (hK50 _ ?_); clear hK50
              refine good_condF rfl ?_
              refine good_seq fun K54 hK54 => ?_
              refine gr rfl ?_
              refine ea rfl (by conv=>lhs;whnf) ?_
              refine ev_nil (hK54 _ ?_); clear hK54
              refine good_ret ?_
              repeat first|refine thenQ_ret ?_|refine blockQ_ret ?_
              refine ret_tmp (st := _) rfl (by conv=>lhs;whnf) rfl ?_
              clear hK3 hK10
              first | (exfalso; omega) | exact fI (by rw [show L.length = i by omega])
            · replace hb53 := eqT hb53
              refine ev_q rfl (q_pickT rfl (by conv=>lhs;whnf) ?_)
              refine ev_nil (hK50 _ ?_); clear hK50
              refine good_condT rfl ?_
              refine gr rfl ?_
              refine ev_q rfl (q_fieldAddrP fO59_1 rfl rfl ?_)
              refine ev_q rfl (q_load tA2 rfl ?_)
              refine ea rfl (by conv=>lhs;whnf) ?_
              refine ev_nil (hK10 _ ?_); clear hK10
              refine gr rfl ?_
              refine em rfl (by conv=>lhs;whnf) ?_
              refine ei rfl rfl rfl ?_
              intro n55 hn55
              replace hn55 := in64 hn55 (by omega) (by omega)
              refine ea rfl (by conv=>lhs;whnf) ?_
              refine ev_nil ?_
              clear hK3
              refine ⟨i + 1, ?_, ?_, ?_⟩
              · show _ ≤ _; omega
              · first | omega | (simp only []; omega) | (dsimp only; omega)
              · refine sub_weak ?_ ?_
                · exact weakH_none _
                · refine weakE_upd ?e8 ?r8 (weakE_upd ?e7 ?r7 (weakE_upd ?e1 ?r1 (weakE_upd ?e0 ?r0 (weakE_junk _ _))))
                  case e0 => first | rfl | exact fI (by omega) | (simp_all)
                  case r0 => intro h hh; cases hh
                  case e1 => first | rfl | exact fI (by omega) | (simp_all)
                  case r1 => intro h hh; cases hh
                  case e7 => first | rfl | exact fI (by omega) | (first | rfl | exact fI (by omega))
                  case r7 => intro h hh; cases hh
                  case e8 => first | rfl | exact fI (by omega) | (simp_all)
                  case r8 => intro h hh; cases hh
        · replace hb49 := dT hb49
          refine em rfl (by conv=>lhs;whnf) ?_
          refine ev_q rfl (q_fieldAddrP fO59_1 rfl rfl ?_)
          refine ev_q rfl (q_load tA2 rfl ?_)
          refine em rfl (by conv=>lhs;whnf) ?_
          refine ei rfl rfl rfl ?_
          intro b56 hb56; cases b56
          · replace hb56 := eqF hb56
            refine ev_q rfl (q_pickT rfl (by conv=>lhs;whnf) ?_)
            refine ev_nil (hK48 _ ?_); clear hK48
            refine good_condF rfl ?_
            refine good_seq fun K57 hK57 => ?_
            refine gr rfl ?_
            refine em rfl (by conv=>lhs;whnf) ?_
            refine em rfl (by conv=>lhs;whnf) ?_
            refine ev_q rfl (q_idx tE22 rfl rfl (by first | exact Int.natCast_nonneg _ | omega) (by exact map_get hq) rfl ?_)
            refine ev_q rfl (q_load tA2 rfl ?_)
            refine ei rfl rfl rfl ?_
            intro b58 hb58; cases b58
            · replace hb58 := dF hb58
              refine em rfl (by conv=>lhs;whnf) ?_
              refine ev_skip rfl ?_
              refine ev_skip rfl ?_
              refine ev_skip rfl ?_
              refine ev_skip rfl ?_
              refine ev_q rfl (q_pickF rfl (by conv=>lhs;whnf) ?_)
              refine ev_nil (hK57 _ ?_); clear hK57
              refine good_condF rfl ?_
              refine good_seq fun K59 hK59 => ?_
              refine gr rfl ?_
              refine ea rfl (by conv=>lhs;whnf) ?_
              refine ev_nil (hK59 _ ?_); clear hK59
              refine good_ret ?_
              repeat first|refine thenQ_ret ?_|refine blockQ_ret ?_
              refine ret_tmp (st := _) rfl (by conv=>lhs;whnf) rfl ?_
              clear hK3 hK10
              first | (exfalso; omega) | exact fI (by rw [show L.length = i by omega])
            · replace hb58 := dT hb58
              refine em rfl (by conv=>lhs;whnf) ?_
              refine ev_q rfl (q_fieldAddrP fO59_2 rfl rfl ?_)
              refine ev_q rfl (q_load tA2 rfl ?_)
              refine em rfl (by conv=>lhs;whnf) ?_
              refine ei rfl rfl rfl ?_
              intro b60 hb60; cases b60
              · replace hb60 := eqF hb60
                refine ev_q rfl (q_pickT rfl (by conv=>lhs;whnf) ?_)
                refine ev_nil (hK57 _ ?_); clear hK57
                refine good_condF rfl ?_
                refine good_seq fun K61 hK61 => ?_
                refine gr rfl ?_
                refine ea rfl (by conv=>lhs;whnf) ?_
                refine ev_nil (hK61 _ ?_); clear hK61
                refine good_ret ?_
                repeat first|refine thenQ_ret ?_|refine blockQ_ret ?_
                refine ret_tmp (st := _) rfl (by conv=>lhs;whnf) rfl ?_
                clear hK3 hK10
                first | (exfalso; omega) | exact fI (by rw [show L.length = i by omega])
              · replace hb60 := eqT hb60
                refine ev_q rfl (q_pickT rfl (by conv=>lhs;whnf) ?_)
                refine ev_nil (hK57 _ ?_); clear hK57
                refine good_condT rfl ?_
                refine gr rfl ?_
                refine ev_q rfl (q_fieldAddrP fO59_1 rfl rfl ?_)
                refine ev_q rfl (q_load tA2 rfl ?_)
                refine ea rfl (by conv=>lhs;whnf) ?_
                refine ev_nil (hK10 _ ?_); clear hK10
                refine gr rfl ?_
                refine em rfl (by conv=>lhs;whnf) ?_
                refine ei rfl rfl rfl ?_
                intro n62 hn62
                replace hn62 := in64 hn62 (by omega) (by omega)
                refine ea rfl (by conv=>lhs;whnf) ?_
                refine ev_nil ?_
                clear hK3
                refine ⟨i + 1, ?_, ?_, ?_⟩
                · show _ ≤ _; omega
                · first | omega | (simp only []; omega) | (dsimp only; omega)
                · refine sub_weak ?_ ?_
                  · exact weakH_none _
                  · refine weakE_upd ?e8 ?r8 (weakE_upd ?e7 ?r7 (weakE_upd ?e1 ?r1 (weakE_upd ?e0 ?r0 (weakE_junk _ _))))
                    case e0 => first | rfl | exact fI (by omega) | (simp_all)
                    case r0 => intro h hh; cases hh
                    case e1 => first | rfl | exact fI (by omega) | (simp_all)
                    case r1 => intro h hh; cases hh
                    case e7 => first | rfl | exact fI (by omega) | (first | rfl | exact fI (by omega))
                    case r7 => intro h hh; cases hh
                    case e8 => first | rfl | exact fI (by omega) | (simp_all)
                    case r8 => intro h hh; cases hh
          · replace hb56 := eqT hb56
            refine ev_q rfl (q_pickT rfl (by conv=>lhs;whnf) ?_)
            refine ev_nil (hK48 _ ?_); clear hK48
            refine good_condT rfl ?_
            refine gr rfl ?_
            refine ev_q rfl (q_fieldAddrP fO59_2 rfl rfl ?_)
            refine ev_q rfl (q_load tA2 rfl ?_)
            refine ea rfl (by conv=>lhs;whnf) ?_
            refine ev_nil (hK10 _ ?_); clear hK10
            refine gr rfl ?_
            refine em rfl (by conv=>lhs;whnf) ?_
            refine ei rfl rfl rfl ?_
            intro n63 hn63
            replace hn63 := in64 hn63 (by omega) (by omega)
            refine ea rfl (by conv=>lhs;whnf) ?_
            refine ev_nil ?_
            clear hK3
            refine ⟨i + 1, ?_, ?_, ?_⟩
            · show _ ≤ _; omega
            · first | omega | (simp only []; omega) | (dsimp only; omega)
            · refine sub_weak ?_ ?_
              · exact weakH_none _
              · refine weakE_upd ?e8 ?r8 (weakE_upd ?e7 ?r7 (weakE_upd ?e1 ?r1 (weakE_upd ?e0 ?r0 (weakE_junk _ _))))
                case e0 => first | rfl | exact fI (by omega) | (simp_all)
                case r0 => intro h hh; cases hh
                case e1 => first | rfl | exact fI (by omega) | (simp_all)
                case r1 => intro h hh; cases hh
                case e7 => first | rfl | exact fI (by omega) | (first | rfl | exact fI (by omega))
                case r7 => intro h hh; cases hh
                case e8 => first | rfl | exact fI (by omega) | (simp_all)
                case r8 => intro h hh; cases hh

-- laws.b10Rises
theorem D_laws_b10Rises (xs : List Int) (n : Int) (hx : xs.length ≤ 1000) (hr : ∀ (i : Nat) (x : Int), xs[i]? = some x → (0 ≤ x ∧ x < n) ∧ ∀ y, 0 < i → xs[i - 1]? = some y → y < x) : Den Try.prog 33 [.lst 1 (xs.map ci), .s (.int .i64 n)] (.s (.bool true)) := by
  refine den_of_good Try.func33 (by decide) rfl (Nat.le_of_ble_eq_true rfl) (Nat.le_of_ble_eq_true rfl) ?_
  refine good_seq fun K1 hK1 => ?_
  refine gr rfl ?_
  refine ea rfl (by conv=>lhs;whnf) ?_
  refine ev_nil (hK1 _ ?_); clear hK1
  refine good_seq fun K2 hK2 => ?_
  refine good_seq fun K3 hK3 => ?_
  refine gr rfl ?_
  refine ea rfl (by conv=>lhs;whnf) ?_
  refine ev_nil (hK3 _ ?_); clear hK3
  refine good_block ?_
  refine good_loop (α := Nat) (fun i => { env := upd (upd (upd ((fun _ => .junk)) 0 (.lst 1 (xs.map ci))) 1 (.s (.int .i64 n))) 5 (.s (.int .i64 i)), H := fun _ => none }) (fun i => i ≤ xs.length) (fun i => xs.length - i) 0 ?_ ?_ ?_
  · show 0 ≤ _; omega
  · refine sub_weak ?_ ?_
    · exact weakH_none _
    · refine weakE_upd ?e5 ?r5 (weakE_upd ?e1 ?r1 (weakE_upd ?e0 ?r0 (weakE_junk _ _)))
      case e0 => first | rfl | exact fI (by omega) | (simp_all)
      case r0 => intro h hh; cases hh
      case e1 => first | rfl | exact fI (by omega) | (simp_all)
      case r1 => intro h hh; cases hh
      case e5 => first | rfl | exact fI (by omega) | (simp_all)
      case r5 => intro h hh; cases hh
  · rintro i hI
    refine good_seq fun K4 hK4 => ?_
    refine good_seq fun K5 hK5 => ?_
    refine gr rfl ?_
    refine em rfl (by conv=>lhs;whnf) ?_
    refine em rfl (by conv=>lhs;whnf) ?_
    refine ev_q rfl (q_len tEs22 rfl ?_)
    intro n6 hn6
    try simp only [List.length_map] at hn6
    refine ei rfl rfl rfl ?_
    intro b7 hb7; cases b7
    · replace hb7 := dF hb7
      refine ev_nil (hK5 _ ?_); clear hK5
      refine good_condF rfl ?_
      refine good_exit ?_
      repeat first|refine thenQ_exit ?_|refine blockQ_pass rfl ?_
      refine blockQ_exit (hK2 _ ?_); clear hK2
      refine good_seq fun K8 hK8 => ?_
      refine gr rfl ?_
      refine ea rfl (by conv=>lhs;whnf) ?_
      refine ev_nil (hK8 _ ?_); clear hK8
      refine good_ret ?_
      repeat first|refine thenQ_ret ?_|refine blockQ_ret ?_
      refine ret_tmp (st := _) rfl (by conv=>lhs;whnf) rfl ?_
      clear hK4
      first | rfl | (exfalso; omega)
    · replace hb7 := dT hb7
      obtain ⟨p, hp⟩ := getL (xs := xs) (n := (i : Int)) (by omega) (by omega)
      replace hp : xs[i]? = some p := hp
      have hb := hr i p hp
      refine ev_nil (hK5 _ ?_); clear hK5
      refine good_condT rfl ?_
      refine good_skip (hK4 _ ?_); clear hK4
      refine good_seq fun K9 hK9 => ?_
      refine good_block ?_
      refine good_seq fun K10 hK10 => ?_
      refine good_draw 29 hmix (by kernel_rfl) rfl ?_
      refine qm rfl (by conv=>lhs;whnf) ?_
      refine qm rfl (by conv=>lhs;whnf) ?_
      refine qo_q rfl (q_idx tE22 rfl rfl (by exact Int.natCast_nonneg _) (by exact map_get hp) rfl ?_)
      refine qo_q rfl (q_load tA2 rfl ?_)
      refine qo_q rfl (q_int rfl rfl ?_)
      intro b11 hb11; cases b11
      rotate_left
      · replace hb11 := dT hb11
        exfalso; omega
      replace hb11 := dF hb11
      refine qm rfl (by conv=>lhs;whnf) ?_
      refine qm rfl (by conv=>lhs;whnf) ?_
      refine qm rfl (by conv=>lhs;whnf) ?_
      refine qo_q rfl (q_idx tE22 rfl rfl (by exact Int.natCast_nonneg _) (by exact map_get hp) rfl ?_)
      refine qo_q rfl (q_load tA2 rfl ?_)
      refine qm rfl (by conv=>lhs;whnf) ?_
      refine qo_q rfl (q_int rfl rfl ?_)
      intro b12 hb12; cases b12
      rotate_left
      · replace hb12 := dT hb12
        exfalso; omega
      replace hb12 := dF hb12
      refine qo_q rfl (q_pickF rfl (by conv=>lhs;whnf) ?_)
      refine qm rfl (by conv=>lhs;whnf) ?_
      refine qm rfl (by conv=>lhs;whnf) ?_
      refine qo_q rfl (q_int rfl rfl ?_)
      intro b13 hb13; cases b13
      · replace hb13 := dF hb13
        refine qm rfl (by conv=>lhs;whnf) ?_
        refine qo_skip rfl ?_
        refine qo_skip rfl ?_
        refine qo_skip rfl ?_
        refine qo_skip rfl ?_
        refine qo_skip rfl ?_
        refine qo_skip rfl ?_
        refine qo_skip rfl ?_
        refine qo_skip rfl ?_
        refine qo_skip rfl ?_
        refine qo_skip rfl ?_
        refine qo_q rfl (q_pickF rfl (by conv=>lhs;whnf) ?_)
        refine qo_q rfl (q_pickF rfl (by conv=>lhs;whnf) ?_)
        refine qo_nil ?_
        refine ev_nil (hK10 _ ?_); clear hK10
        refine good_condF rfl ?_
        refine good_skip (hK9 _ ?_); clear hK9
        refine gr rfl ?_
        refine em rfl (by conv=>lhs;whnf) ?_
        refine ei rfl rfl rfl ?_
        intro n14 hn14
        replace hn14 := in64 hn14 (by omega) (by omega)
        refine ea rfl (by conv=>lhs;whnf) ?_
        refine ev_nil ?_
        clear hK2
        refine ⟨i + 1, ?_, ?_, ?_⟩
        · show _ ≤ _; omega
        · first | omega | (simp only []; omega) | (dsimp only; omega)
        · refine sub_weak ?_ ?_
          · exact weakH_none _
          · refine weakE_upd ?e5 ?r5 (weakE_upd ?e1 ?r1 (weakE_upd ?e0 ?r0 (weakE_junk _ _)))
            case e0 => first | rfl | exact fI (by omega) | (simp_all)
            case r0 => intro h hh; cases hh
            case e1 => first | rfl | exact fI (by omega) | (simp_all)
            case r1 => intro h hh; cases hh
            case e5 => first | rfl | exact fI (by omega) | (simp_all)
            case r5 => intro h hh; cases hh
      · replace hb13 := dT hb13
        obtain ⟨y, hy⟩ : ∃ y, xs[i - 1]? = some y := ⟨_, List.getElem?_eq_getElem (by omega)⟩
        have hby := hb.2 y (by omega) hy
        refine qm rfl (by conv=>lhs;whnf) ?_
        refine qm rfl (by conv=>lhs;whnf) ?_
        refine qm rfl (by conv=>lhs;whnf) ?_
        refine qo_q rfl (q_int rfl rfl ?_)
        intro n15 hn15
        replace hn15 := in64 hn15 (by omega) (by omega)
        refine qo_q rfl (q_idx tE22 rfl rfl (by omega) (by exact map_get (show xs[(n15 : Int).toNat]? = some y by rw [← hy]; congr 1; omega)) rfl ?_)
        refine qo_q rfl (q_load tA2 rfl ?_)
        refine qm rfl (by conv=>lhs;whnf) ?_
        refine qm rfl (by conv=>lhs;whnf) ?_
        refine qo_q rfl (q_idx tE22 rfl rfl (by exact Int.natCast_nonneg _) (by exact map_get hp) rfl ?_)
        refine qo_q rfl (q_load tA2 rfl ?_)
        refine qo_q rfl (q_int rfl rfl ?_)
        intro b16 hb16; cases b16
        rotate_left
        · replace hb16 := dT hb16
          exfalso; omega
        replace hb16 := dF hb16
        refine qo_q rfl (q_pickT rfl (by conv=>lhs;whnf) ?_)
        refine qo_q rfl (q_pickF rfl (by conv=>lhs;whnf) ?_)
        refine qo_nil ?_
        refine ev_nil (hK10 _ ?_); clear hK10
        refine good_condF rfl ?_
        refine good_skip (hK9 _ ?_); clear hK9
        refine gr rfl ?_
        refine em rfl (by conv=>lhs;whnf) ?_
        refine ei rfl rfl rfl ?_
        intro n17 hn17
        replace hn17 := in64 hn17 (by omega) (by omega)
        refine ea rfl (by conv=>lhs;whnf) ?_
        refine ev_nil ?_
        clear hK2
        refine ⟨i + 1, ?_, ?_, ?_⟩
        · show _ ≤ _; omega
        · first | omega | (simp only []; omega) | (dsimp only; omega)
        · refine sub_weak ?_ ?_
          · exact weakH_none _
          · refine weakE_upd ?e5 ?r5 (weakE_upd ?e1 ?r1 (weakE_upd ?e0 ?r0 (weakE_junk _ _)))
            case e0 => first | rfl | exact fI (by omega) | (simp_all)
            case r0 => intro h hh; cases hh
            case e1 => first | rfl | exact fI (by omega) | (simp_all)
            case r1 => intro h hh; cases hh
            case e5 => first | rfl | exact fI (by omega) | (simp_all)
            case r5 => intro h hh; cases hh

-- laws.b10Has
theorem D_laws_b10Has (xs : List Int) (x : Int) (hx : xs.length ≤ 17592186044416) : Den Try.prog 32 [.lst 1 (xs.map ci), .s (.int .i64 x)] (.s (.bool (decide (x ∈ xs)))) := by
  refine den_of_good Try.func32 (by decide) rfl (Nat.le_of_ble_eq_true rfl) (Nat.le_of_ble_eq_true rfl) ?_
  refine good_seq fun K1 hK1 => ?_
  refine gr rfl ?_
  refine ea rfl (by conv=>lhs;whnf) ?_
  refine ev_nil (hK1 _ ?_); clear hK1
  refine good_seq fun K2 hK2 => ?_
  refine good_seq fun K3 hK3 => ?_
  refine gr rfl ?_
  refine ea rfl (by conv=>lhs;whnf) ?_
  refine ev_nil (hK3 _ ?_); clear hK3
  refine good_block ?_
  refine good_loop (α := Nat) (fun i => { env := upd (upd (upd ((fun _ => .junk)) 0 (.lst 1 (xs.map ci))) 1 (.s (.int .i64 x))) 5 (.s (.int .i64 i)), H := fun _ => none }) (fun i => i ≤ xs.length ∧ ∀ j q, j < i → xs[j]? = some q → ¬ q = x) (fun i => xs.length - i) 0 ?_ ?_ ?_
  · exact ⟨by omega, fun j u hj => by omega⟩
  · refine sub_weak ?_ ?_
    · exact weakH_none _
    · refine weakE_upd ?e5 ?r5 (weakE_upd ?e1 ?r1 (weakE_upd ?e0 ?r0 (weakE_junk _ _)))
      case e0 => first | rfl | exact fI (by omega) | (simp_all)
      case r0 => intro h hh; cases hh
      case e1 => first | rfl | exact fI (by omega) | (simp_all)
      case r1 => intro h hh; cases hh
      case e5 => first | rfl | exact fI (by omega) | (simp_all)
      case r5 => intro h hh; cases hh
  · rintro i ⟨hI, hJ⟩
    refine good_seq fun K4 hK4 => ?_
    refine good_seq fun K5 hK5 => ?_
    refine gr rfl ?_
    refine em rfl (by conv=>lhs;whnf) ?_
    refine em rfl (by conv=>lhs;whnf) ?_
    refine ev_q rfl (q_len tEs22 rfl ?_)
    intro n6 hn6
    try simp only [List.length_map] at hn6
    refine ei rfl rfl rfl ?_
    intro b7 hb7; cases b7
    · replace hb7 := dF hb7
      refine ev_nil (hK5 _ ?_); clear hK5
      refine good_condF rfl ?_
      refine good_exit ?_
      repeat first|refine thenQ_exit ?_|refine blockQ_pass rfl ?_
      refine blockQ_exit (hK2 _ ?_); clear hK2
      refine good_seq fun K8 hK8 => ?_
      refine gr rfl ?_
      refine ea rfl (by conv=>lhs;whnf) ?_
      refine ev_nil (hK8 _ ?_); clear hK8
      refine good_ret ?_
      repeat first|refine thenQ_ret ?_|refine blockQ_ret ?_
      refine ret_tmp (st := _) rfl (by conv=>lhs;whnf) rfl ?_
      clear hK4
      first | exact fT (by have e : p = x := (by omega); subst e; exact List.mem_of_getElem? hp) | exact fF (fun hm => by obtain ⟨j, hj⟩ := List.getElem?_of_mem hm; exact hJ j _ (by have := (List.getElem?_eq_some_iff.1 hj).1; omega) hj rfl)
    · replace hb7 := dT hb7
      obtain ⟨p, hp⟩ := getL (xs := xs) (n := (i : Int)) (by omega) (by omega)
      replace hp : xs[i]? = some p := hp
      refine ev_nil (hK5 _ ?_); clear hK5
      refine good_condT rfl ?_
      refine good_skip (hK4 _ ?_); clear hK4
      refine good_seq fun K9 hK9 => ?_
      refine good_block ?_
      refine good_seq fun K10 hK10 => ?_
      refine gr rfl ?_
      refine em rfl (by conv=>lhs;whnf) ?_
      refine em rfl (by conv=>lhs;whnf) ?_
      refine ev_q rfl (q_idx tE22 rfl rfl (by exact Int.natCast_nonneg _) (by exact map_get hp) rfl ?_)
      refine ev_q rfl (q_load tA2 rfl ?_)
      refine em rfl (by conv=>lhs;whnf) ?_
      refine ei rfl rfl rfl ?_
      intro b11 hb11; cases b11
      · replace hb11 := eqF hb11
        refine ev_nil (hK10 _ ?_); clear hK10
        refine good_condF rfl ?_
        refine good_skip (hK9 _ ?_); clear hK9
        refine gr rfl ?_
        refine em rfl (by conv=>lhs;whnf) ?_
        refine ei rfl rfl rfl ?_
        intro n12 hn12
        replace hn12 := in64 hn12 (by omega) (by omega)
        refine ea rfl (by conv=>lhs;whnf) ?_
        refine ev_nil ?_
        clear hK2
        refine ⟨i + 1, ?_, ?_, ?_⟩
        · exact ⟨by omega, all_extI (Q := fun _ q => ¬ q = x) hJ hp (by omega)⟩
        · first | omega | (simp only []; omega) | (dsimp only; omega)
        · refine sub_weak ?_ ?_
          · exact weakH_none _
          · refine weakE_upd ?e5 ?r5 (weakE_upd ?e1 ?r1 (weakE_upd ?e0 ?r0 (weakE_junk _ _)))
            case e0 => first | rfl | exact fI (by omega) | (simp_all)
            case r0 => intro h hh; cases hh
            case e1 => first | rfl | exact fI (by omega) | (simp_all)
            case r1 => intro h hh; cases hh
            case e5 => first | rfl | exact fI (by omega) | (simp_all)
            case r5 => intro h hh; cases hh
      · replace hb11 := eqT hb11
        refine ev_nil (hK10 _ ?_); clear hK10
        refine good_condT rfl ?_
        refine good_seq fun K13 hK13 => ?_
        refine gr rfl ?_
        refine ea rfl (by conv=>lhs;whnf) ?_
        refine ev_nil (hK13 _ ?_); clear hK13
        refine good_ret ?_
        repeat first|refine thenQ_ret ?_|refine blockQ_ret ?_
        refine ret_tmp (st := _) rfl (by conv=>lhs;whnf) rfl ?_
        clear hK2 hK9
        first | exact fT (by have e : p = x := (by omega); subst e; exact List.mem_of_getElem? hp) | exact fF (fun hm => by obtain ⟨j, hj⟩ := List.getElem?_of_mem hm; exact hJ j _ (by have := (List.getElem?_eq_some_iff.1 hj).1; omega) hj rfl)

-- laws.b10Long
theorem D_laws_b10Long (cs : List Int)  : Den Try.prog 26 [.lst 1 (cs.map cb)] (.s (.bool (decide ((cs.length : Int) > 1048576)))) := by
  refine den_of_good Try.func26 (by decide) rfl (Nat.le_of_ble_eq_true rfl) (Nat.le_of_ble_eq_true rfl) ?_
  refine good_seq fun K1 hK1 => ?_
  refine gr rfl ?_
  refine ea rfl (by conv=>lhs;whnf) ?_
  refine ev_nil (hK1 _ ?_); clear hK1
  refine good_seq fun K2 hK2 => ?_
  refine gr rfl ?_
  refine em rfl (by conv=>lhs;whnf) ?_
  refine ev_q rfl (q_len tEs39 rfl ?_)
  intro n3 hn3
  try simp only [List.length_map] at hn3
  refine ei rfl rfl rfl ?_
  intro b4 hb4; cases b4
  · replace hb4 := dF hb4
    refine ea rfl (by conv=>lhs;whnf) ?_
    refine ev_nil (hK2 _ ?_); clear hK2
    refine good_ret ?_
    repeat first|refine thenQ_ret ?_|refine blockQ_ret ?_
    refine ret_tmp (st := _) rfl (by conv=>lhs;whnf) rfl ?_
    first | exact fT (by omega) | exact fF (by omega)
  · replace hb4 := dT hb4
    refine ea rfl (by conv=>lhs;whnf) ?_
    refine ev_nil (hK2 _ ?_); clear hK2
    refine good_ret ?_
    repeat first|refine thenQ_ret ?_|refine blockQ_ret ?_
    refine ret_tmp (st := _) rfl (by conv=>lhs;whnf) rfl ?_
    first | exact fT (by omega) | exact fF (by omega)

-- (*spec.l00Src).next
theorem D_spec_l00Src_next (cs : List Int) (a s : Int) (hc : cs.length ≤ 17592186044416) (hb : byteL cs) (ha : 0 ≤ a ∧ a ≤ 3999999999999999999)  : DenXR Try.prog 174 [(1000000, .box 154 (src cs a s))] [.ptr 1000000 0] (τ := Int × Int × Int) (fun (v, a1, s1) => (0 ≤ v ∧ v ≤ 255) ∧ (a ≤ a1 ∧ a1 ≤ a + 1)) (fun (v, a1, s1) => [(1000000, .box 154 (src cs a1 s1))]) (fun (v, a1, s1) => .s (.int .i64 v)) := by
  refine denXR_of_good Try.func174 (by decide) rfl (Nat.le_of_ble_eq_true rfl) (Nat.le_of_ble_eq_true rfl) rfl ?_
  refine good_seq fun K1 hK1 => ?_
  refine gr rfl ?_
  refine ea rfl (by conv=>lhs;whnf) ?_
  refine ev_nil (hK1 _ ?_); clear hK1
  refine good_seq fun K2 hK2 => ?_
  refine gr rfl ?_
  refine ea rfl (by conv=>lhs;whnf) ?_
  refine ev_nil (hK2 _ ?_); clear hK2
  refine good_seq fun K3 hK3 => ?_
  refine good_seq fun K4 hK4 => ?_
  refine good_draw 10 hmix (by kernel_rfl) rfl ?_
  refine qm rfl (by conv=>lhs;whnf) ?_
  refine qo_q rfl (q_nilCheck (by conv=>lhs;whnf) rfl ?_)
  refine qo_q rfl (q_fieldAddrP fO154_1 rfl rfl ?_)
  refine qo_q rfl (q_load tA3 rfl ?_)
  refine qm rfl (by conv=>lhs;whnf) ?_
  refine qo_q rfl (q_nilCheck (by conv=>lhs;whnf) rfl ?_)
  refine qo_q rfl (q_fieldAddrP fO154_0 rfl rfl ?_)
  refine qo_q rfl (q_load tA39 rfl ?_)
  refine qo_q rfl (q_len tEs39 rfl ?_)
  intro n5 hn5
  try simp only [List.length_map] at hn5
  refine qo_q rfl (q_int rfl rfl ?_)
  intro b6 hb6; cases b6
  · replace hb6 := dF hb6
    refine qo_nil ?_
    refine ev_nil (hK4 _ ?_); clear hK4
    refine good_condF rfl ?_
    refine good_skip (hK3 _ ?_); clear hK3
    refine good_seq fun K7 hK7 => ?_
    refine gr rfl ?_
    refine em rfl (by conv=>lhs;whnf) ?_
    refine ev_q rfl (q_nilCheck (by conv=>lhs;whnf) rfl ?_)
    refine ev_q rfl (q_fieldAddrP fO154_1 rfl rfl ?_)
    refine ev_q rfl (q_load tA3 rfl ?_)
    refine ei rfl rfl rfl ?_
    intro n8 hn8
    replace hn8 := in64 hn8 (by omega) (by omega)
    refine ev_q rfl (q_nilCheck (by conv=>lhs;whnf) rfl ?_)
    refine ev_q rfl (q_fieldAddrP fO154_1 rfl rfl ?_)
    refine ev_k rfl (k_store sz3 rfl (by conv=>lhs;whnf) rfl rfl rfl (Nat.le_of_ble_eq_true rfl) rfl ?_)
    refine ev_nil (hK7 _ ?_); clear hK7
    refine good_seq fun K9 hK9 => ?_
    refine gr rfl ?_
    refine em rfl (by conv=>lhs;whnf) ?_
    refine em rfl (by conv=>lhs;whnf) ?_
    refine ev_q rfl (q_nilCheck (by conv=>lhs;whnf) rfl ?_)
    refine ev_q rfl (q_fieldAddrP fO154_2 rfl rfl ?_)
    refine ev_q rfl (q_load tA152 rfl ?_)
    refine ei rfl rfl rfl ?_
    intro n10 hn10
    skip
    refine em rfl (by conv=>lhs;whnf) ?_
    refine ev_q rfl (q_conv tK3 tK152 rfl ?_)
    intro n11 hn11
    skip
    refine ei rfl rfl rfl ?_
    intro n12 hn12
    skip
    refine ei rfl rfl rfl ?_
    intro n13 hn13
    skip
    refine ev_q rfl (q_nilCheck (by conv=>lhs;whnf) rfl ?_)
    refine ev_q rfl (q_fieldAddrP fO154_2 rfl rfl ?_)
    refine ev_k rfl (k_store sz152 rfl (by conv=>lhs;whnf) rfl rfl rfl (Nat.le_of_ble_eq_true rfl) rfl ?_)
    refine ev_nil (hK9 _ ?_); clear hK9
    refine good_seq fun K14 hK14 => ?_
    refine good_seq fun K15 hK15 => ?_
    refine good_draw 10 hmix (by kernel_rfl) rfl ?_
    refine qm rfl (by conv=>lhs;whnf) ?_
    refine qo_q rfl (q_nilCheck (by conv=>lhs;whnf) rfl ?_)
    refine qo_q rfl (q_fieldAddrP fO154_1 rfl rfl ?_)
    refine qo_q rfl (q_load tA3 rfl ?_)
    refine qm rfl (by conv=>lhs;whnf) ?_
    refine qo_q rfl (q_nilCheck (by conv=>lhs;whnf) rfl ?_)
    refine qo_q rfl (q_fieldAddrP fO154_0 rfl rfl ?_)
    refine qo_q rfl (q_load tA39 rfl ?_)
    refine qo_q rfl (q_len tEs39 rfl ?_)
    intro n16 hn16
    try simp only [List.length_map] at hn16
    refine qo_q rfl (q_int rfl rfl ?_)
    intro b17 hb17; cases b17
    · replace hb17 := dF hb17
      refine qo_nil ?_
      refine ev_nil (hK15 _ ?_); clear hK15
      refine good_condF rfl ?_
      refine good_skip (hK14 _ ?_); clear hK14
      refine good_seq fun K18 hK18 => ?_
      refine gr rfl ?_
      refine em rfl (by conv=>lhs;whnf) ?_
      refine ev_q rfl (q_nilCheck (by conv=>lhs;whnf) rfl ?_)
      refine ev_q rfl (q_fieldAddrP fO154_2 rfl rfl ?_)
      refine ev_q rfl (q_load tA152 rfl ?_)
      refine ev_q rfl (q_shr rfl rfl ⟨by omega, ?_⟩)
      intro n19 hn19
      skip
      refine ei rfl rfl rfl ?_
      intro n20 hn20
      have hv := and255 hn20
      refine ev_q rfl (q_conv tK152 tK2 rfl ?_)
      intro n21 hn21
      replace hn21 := in64 hn21 (by omega) (by omega)
      refine ea rfl (by conv=>lhs;whnf) ?_
      refine ev_nil (hK18 _ ?_); clear hK18
      refine good_ret ?_
      repeat first|refine thenQ_ret ?_|refine blockQ_ret ?_
      apply ex_3
      case hF =>
        refine fx_tmp rfl (by conv=>lhs;whnf) ?_
        exact ⟨_, conv_eq (by first | rfl | exact fI (by first | omega | grind) | (exfalso; first | omega | grind)), weakH_box (boxEq (by first | rfl | (rw [e]; done) | (rw [e]; rfl) | (simp_all; done))) rfl (weakH_none _), refsIn_ok rfl⟩
      case hR =>
        exact ⟨by omega, by omega⟩
    · replace hb17 := dT hb17
      refine qo_nil ?_
      refine ev_nil (hK15 _ ?_); clear hK15
      refine good_condT rfl ?_
      refine good_seq fun K22 hK22 => ?_
      refine gr rfl ?_
      refine em rfl (by conv=>lhs;whnf) ?_
      refine ea rfl (by conv=>lhs;whnf) ?_
      refine ev_nil (hK22 _ ?_); clear hK22
      refine good_ret ?_
      repeat first|refine thenQ_ret ?_|refine blockQ_ret ?_
      clear hK14
      apply ex_3
      case hF =>
        refine fx_tmp rfl (by conv=>lhs;whnf) ?_
        exact ⟨_, conv_eq (by first | rfl | exact fI (by first | omega | grind) | (exfalso; first | omega | grind)), weakH_box (boxEq (by first | rfl | (rw [e]; done) | (rw [e]; rfl) | (simp_all; done))) rfl (weakH_none _), refsIn_ok rfl⟩
      case hR =>
        exact ⟨by omega, by omega⟩
  · replace hb6 := dT hb6
    obtain ⟨p, hp⟩ := getL (xs := cs) (n := a) (by omega) (by omega)
    have hpb := hb p (List.mem_of_getElem? hp)
    refine qo_nil ?_
    refine ev_nil (hK4 _ ?_); clear hK4
    refine good_condT rfl ?_
    refine good_draw 12 hmix (by kernel_rfl) rfl ?_
    refine qm rfl (by conv=>lhs;whnf) ?_
    refine qo_q rfl (q_nilCheck (by conv=>lhs;whnf) rfl ?_)
    refine qo_q rfl (q_fieldAddrP fO154_0 rfl rfl ?_)
    refine qo_q rfl (q_load tA39 rfl ?_)
    refine qm rfl (by conv=>lhs;whnf) ?_
    refine qo_q rfl (q_nilCheck (by conv=>lhs;whnf) rfl ?_)
    refine qo_q rfl (q_fieldAddrP fO154_1 rfl rfl ?_)
    refine qo_q rfl (q_load tA3 rfl ?_)
    refine qo_q rfl (q_idx tE39 rfl rfl (by omega) (by exact map_get hp) rfl ?_)
    refine qo_q rfl (q_load tA5 rfl ?_)
    refine qo_q rfl (q_conv tK5 tK3 rfl ?_)
    intro n23 hn23
    replace hn23 := in64 hn23 (by omega) (by omega)
    refine qa rfl (by conv=>lhs;whnf) ?_
    refine qo_nil ?_
    refine ev_nil (hK3 _ ?_); clear hK3
    refine good_seq fun K24 hK24 => ?_
    refine gr rfl ?_
    refine em rfl (by conv=>lhs;whnf) ?_
    refine ev_q rfl (q_nilCheck (by conv=>lhs;whnf) rfl ?_)
    refine ev_q rfl (q_fieldAddrP fO154_1 rfl rfl ?_)
    refine ev_q rfl (q_load tA3 rfl ?_)
    refine ei rfl rfl rfl ?_
    intro n25 hn25
    replace hn25 := in64 hn25 (by omega) (by omega)
    refine ev_q rfl (q_nilCheck (by conv=>lhs;whnf) rfl ?_)
    refine ev_q rfl (q_fieldAddrP fO154_1 rfl rfl ?_)
    refine ev_k rfl (k_store sz3 rfl (by conv=>lhs;whnf) rfl rfl rfl (Nat.le_of_ble_eq_true rfl) rfl ?_)
    refine ev_nil (hK24 _ ?_); clear hK24
    refine good_seq fun K26 hK26 => ?_
    refine gr rfl ?_
    refine em rfl (by conv=>lhs;whnf) ?_
    refine em rfl (by conv=>lhs;whnf) ?_
    refine ev_q rfl (q_nilCheck (by conv=>lhs;whnf) rfl ?_)
    refine ev_q rfl (q_fieldAddrP fO154_2 rfl rfl ?_)
    refine ev_q rfl (q_load tA152 rfl ?_)
    refine ei rfl rfl rfl ?_
    intro n27 hn27
    skip
    refine em rfl (by conv=>lhs;whnf) ?_
    refine ev_q rfl (q_conv tK3 tK152 rfl ?_)
    intro n28 hn28
    skip
    refine ei rfl rfl rfl ?_
    intro n29 hn29
    skip
    refine ei rfl rfl rfl ?_
    intro n30 hn30
    skip
    refine ev_q rfl (q_nilCheck (by conv=>lhs;whnf) rfl ?_)
    refine ev_q rfl (q_fieldAddrP fO154_2 rfl rfl ?_)
    refine ev_k rfl (k_store sz152 rfl (by conv=>lhs;whnf) rfl rfl rfl (Nat.le_of_ble_eq_true rfl) rfl ?_)
    refine ev_nil (hK26 _ ?_); clear hK26
    refine good_seq fun K31 hK31 => ?_
    refine good_seq fun K32 hK32 => ?_
    refine good_draw 10 hmix (by kernel_rfl) rfl ?_
    refine qm rfl (by conv=>lhs;whnf) ?_
    refine qo_q rfl (q_nilCheck (by conv=>lhs;whnf) rfl ?_)
    refine qo_q rfl (q_fieldAddrP fO154_1 rfl rfl ?_)
    refine qo_q rfl (q_load tA3 rfl ?_)
    refine qm rfl (by conv=>lhs;whnf) ?_
    refine qo_q rfl (q_nilCheck (by conv=>lhs;whnf) rfl ?_)
    refine qo_q rfl (q_fieldAddrP fO154_0 rfl rfl ?_)
    refine qo_q rfl (q_load tA39 rfl ?_)
    refine qo_q rfl (q_len tEs39 rfl ?_)
    intro n33 hn33
    try simp only [List.length_map] at hn33
    refine qo_q rfl (q_int rfl rfl ?_)
    intro b34 hb34; cases b34
    · replace hb34 := dF hb34
      refine qo_nil ?_
      refine ev_nil (hK32 _ ?_); clear hK32
      refine good_condF rfl ?_
      refine good_skip (hK31 _ ?_); clear hK31
      refine good_seq fun K35 hK35 => ?_
      refine gr rfl ?_
      refine em rfl (by conv=>lhs;whnf) ?_
      refine ev_q rfl (q_nilCheck (by conv=>lhs;whnf) rfl ?_)
      refine ev_q rfl (q_fieldAddrP fO154_2 rfl rfl ?_)
      refine ev_q rfl (q_load tA152 rfl ?_)
      refine ev_q rfl (q_shr rfl rfl ⟨by omega, ?_⟩)
      intro n36 hn36
      skip
      refine ei rfl rfl rfl ?_
      intro n37 hn37
      have hv := and255 hn37
      refine ev_q rfl (q_conv tK152 tK2 rfl ?_)
      intro n38 hn38
      replace hn38 := in64 hn38 (by omega) (by omega)
      refine ea rfl (by conv=>lhs;whnf) ?_
      refine ev_nil (hK35 _ ?_); clear hK35
      refine good_ret ?_
      repeat first|refine thenQ_ret ?_|refine blockQ_ret ?_
      apply ex_3
      case hF =>
        refine fx_tmp rfl (by conv=>lhs;whnf) ?_
        exact ⟨_, conv_eq (by first | rfl | exact fI (by first | omega | grind) | (exfalso; first | omega | grind)), weakH_box (boxEq (by first | rfl | (rw [e]; done) | (rw [e]; rfl) | (simp_all; done))) rfl (weakH_none _), refsIn_ok rfl⟩
      case hR =>
        exact ⟨by omega, by omega⟩
    · replace hb34 := dT hb34
      refine qo_nil ?_
      refine ev_nil (hK32 _ ?_); clear hK32
      refine good_condT rfl ?_
      refine good_seq fun K39 hK39 => ?_
      refine gr rfl ?_
      refine em rfl (by conv=>lhs;whnf) ?_
      refine ea rfl (by conv=>lhs;whnf) ?_
      refine ev_nil (hK39 _ ?_); clear hK39
      refine good_ret ?_
      repeat first|refine thenQ_ret ?_|refine blockQ_ret ?_
      clear hK31
      apply ex_3
      case hF =>
        refine fx_tmp rfl (by conv=>lhs;whnf) ?_
        exact ⟨_, conv_eq (by first | rfl | exact fI (by first | omega | grind) | (exfalso; first | omega | grind)), weakH_box (boxEq (by first | rfl | (rw [e]; done) | (rw [e]; rfl) | (simp_all; done))) rfl (weakH_none _), refsIn_ok rfl⟩
      case hR =>
        exact ⟨by omega, by omega⟩

-- (*spec.l00Src).pick
theorem D_spec_l00Src_pick (cs : List Int) (a s : Int) (n : Int) (hc : cs.length ≤ 17592186044416) (hb : byteL cs) (ha : 0 ≤ a ∧ a ≤ 3999999999999999998) (hn : -1000000000000 ≤ n ∧ n ≤ 1000000000000) : DenXR Try.prog 131 [(1000000, .box 154 (src cs a s))] [.ptr 1000000 0, .s (.int .i64 n)] (τ := Int × Int × Int) (fun (v, a1, s1) => (0 ≤ v ∧ (v = 0 ∨ v < n)) ∧ (a ≤ a1 ∧ a1 ≤ a + 2)) (fun (v, a1, s1) => [(1000000, .box 154 (src cs a1 s1))]) (fun (v, a1, s1) => .s (.int .i64 v)) := by
  refine denXR_of_good Try.func131 (by decide) rfl (Nat.le_of_ble_eq_true rfl) (Nat.le_of_ble_eq_true rfl) rfl ?_
  refine good_seq fun K1 hK1 => ?_
  refine gr rfl ?_
  refine ea rfl (by conv=>lhs;whnf) ?_
  refine ev_nil (hK1 _ ?_); clear hK1
  refine good_seq fun K2 hK2 => ?_
  refine good_seq fun K3 hK3 => ?_
  refine gr rfl ?_
  refine em rfl (by conv=>lhs;whnf) ?_
  refine ei rfl rfl rfl ?_
  intro b4 hb4; cases b4
  · replace hb4 := dF hb4
    refine ev_nil (hK3 _ ?_); clear hK3
    refine good_condF rfl ?_
    refine good_skip (hK2 _ ?_); clear hK2
    refine good_seq fun K5 hK5 => ?_
    refine gr rfl ?_
    refine em rfl (by conv=>lhs;whnf) ?_
    refine ev_k rfl (k_callR [(1000000, 1000000)] (D_spec_l00Src_next cs _ _  hc hb (by omega)) rfl (rfl) (rfl) ⟨rfl, trivial⟩ rfl (by rintro ⟨v6, a6, s6⟩ ⟨hx6_0, hx6_1⟩; exact ⟨⟨rfl, rfl, trivial⟩, rfl⟩) rfl rfl ?_)
    rintro ⟨v6, a6, s6⟩ ⟨hx6_0, hx6_1⟩
    refine ea rfl (by conv=>lhs;whnf) ?_
    refine ev_nil (hK5 _ ?_); clear hK5
    refine good_seq fun K7 hK7 => ?_
    refine good_seq fun K8 hK8 => ?_
    refine gr rfl ?_
    refine em rfl (by conv=>lhs;whnf) ?_
    refine ei rfl rfl rfl ?_
    intro b9 hb9; cases b9
    · replace hb9 := dF hb9
      refine ev_nil (hK8 _ ?_); clear hK8
      refine good_condF rfl ?_
      refine good_skip (hK7 _ ?_); clear hK7
      refine good_seq fun K10 hK10 => ?_
      refine gr rfl ?_
      refine em rfl (by conv=>lhs;whnf) ?_
      refine em rfl (by conv=>lhs;whnf) ?_
      refine ei rfl rfl rfl ⟨by omega, ?_⟩
      intro n11 hn11
      replace hn11 := remE hn11 (by omega)
      have hr : 0 ≤ n11 ∧ n11 < n := by rw [hn11]; exact ⟨Int.emod_nonneg _ (by omega), Int.emod_lt_of_pos _ (by omega)⟩
      refine ea rfl (by conv=>lhs;whnf) ?_
      refine ev_nil (hK10 _ ?_); clear hK10
      refine good_ret ?_
      repeat first|refine thenQ_ret ?_|refine blockQ_ret ?_
      apply ex_3
      case hF =>
        refine fx_tmp rfl (by conv=>lhs;whnf) ?_
        exact ⟨_, conv_eq (by first | rfl | exact fI (by first | omega | grind) | (exfalso; first | omega | grind)), weakH_box (boxEq (by first | rfl | (rw [e]; done) | (rw [e]; rfl) | (simp_all; done))) rfl (weakH_none _), refsIn_ok rfl⟩
      case hR =>
        exact ⟨by omega, by omega⟩
    · replace hb9 := dT hb9
      refine ev_nil (hK8 _ ?_); clear hK8
      refine good_condT rfl ?_
      refine gr rfl ?_
      refine em rfl (by conv=>lhs;whnf) ?_
      refine ei rfl rfl rfl ?_
      intro n12 hn12
      replace hn12 := in64 hn12 (by omega) (by omega)
      refine em rfl (by conv=>lhs;whnf) ?_
      refine ev_k rfl (k_callR [(1000000, 1000000)] (D_spec_l00Src_next cs _ _  hc hb (by omega)) rfl (rfl) (rfl) ⟨rfl, trivial⟩ rfl (by rintro ⟨v13, a13, s13⟩ ⟨hx13_0, hx13_1⟩; exact ⟨⟨rfl, rfl, trivial⟩, rfl⟩) rfl rfl ?_)
      rintro ⟨v13, a13, s13⟩ ⟨hx13_0, hx13_1⟩
      refine ei rfl rfl rfl ?_
      intro n14 hn14
      replace hn14 := in64 hn14 (by omega) (by omega)
      refine ea rfl (by conv=>lhs;whnf) ?_
      refine ev_nil (hK7 _ ?_); clear hK7
      refine good_seq fun K15 hK15 => ?_
      refine gr rfl ?_
      refine em rfl (by conv=>lhs;whnf) ?_
      refine em rfl (by conv=>lhs;whnf) ?_
      refine ei rfl rfl rfl ⟨by omega, ?_⟩
      intro n16 hn16
      replace hn16 := remE hn16 (by omega)
      have hr : 0 ≤ n16 ∧ n16 < n := by rw [hn16]; exact ⟨Int.emod_nonneg _ (by omega), Int.emod_lt_of_pos _ (by omega)⟩
      refine ea rfl (by conv=>lhs;whnf) ?_
      refine ev_nil (hK15 _ ?_); clear hK15
      refine good_ret ?_
      repeat first|refine thenQ_ret ?_|refine blockQ_ret ?_
      apply ex_3
      case hF =>
        refine fx_tmp rfl (by conv=>lhs;whnf) ?_
        exact ⟨_, conv_eq (by first | rfl | exact fI (by first | omega | grind) | (exfalso; first | omega | grind)), weakH_box (boxEq (by first | rfl | (rw [e]; done) | (rw [e]; rfl) | (simp_all; done))) rfl (weakH_none _), refsIn_ok rfl⟩
      case hR =>
        exact ⟨by omega, by omega⟩
  · replace hb4 := dT hb4
    refine ev_nil (hK3 _ ?_); clear hK3
    refine good_condT rfl ?_
    refine good_seq fun K17 hK17 => ?_
    refine gr rfl ?_
    refine ea rfl (by conv=>lhs;whnf) ?_
    refine ev_nil (hK17 _ ?_); clear hK17
    refine good_ret ?_
    repeat first|refine thenQ_ret ?_|refine blockQ_ret ?_
    clear hK2
    apply ex_3
    case hF =>
      refine fx_tmp rfl (by conv=>lhs;whnf) ?_
      exact ⟨_, conv_eq (by first | rfl | exact fI (by first | omega | grind) | (exfalso; first | omega | grind)), weakH_box (boxEq (by first | rfl | (rw [e]; done) | (rw [e]; rfl) | (simp_all; done))) rfl (weakH_none _), refsIn_ok rfl⟩
    case hR =>
      exact ⟨by omega, by omega⟩

-- (*spec.l00Src).one
theorem D_spec_l00Src_one (cs : List Int) (a s : Int) (n : Int) (hc : cs.length ≤ 17592186044416) (hb : byteL cs) (ha : 0 ≤ a ∧ a ≤ 3999999999999999998) (hn : -1000000000000 ≤ n ∧ n ≤ 1000000000000) : DenXR Try.prog 133 [(1000000, .box 154 (src cs a s))] [.ptr 1000000 0, .s (.int .i64 n)] (τ := Bool × Int × Int) (fun (v, a1, s1) => a ≤ a1 ∧ a1 ≤ a + 2) (fun (v, a1, s1) => [(1000000, .box 154 (src cs a1 s1))]) (fun (v, a1, s1) => .s (.bool v)) := by
  refine denXR_of_good Try.func133 (by decide) rfl (Nat.le_of_ble_eq_true rfl) (Nat.le_of_ble_eq_true rfl) rfl ?_
  refine good_seq fun K1 hK1 => ?_
  refine gr rfl ?_
  refine ea rfl (by conv=>lhs;whnf) ?_
  refine ev_nil (hK1 _ ?_); clear hK1
  refine good_seq fun K2 hK2 => ?_
  refine gr rfl ?_
  refine em rfl (by conv=>lhs;whnf) ?_
  refine em rfl (by conv=>lhs;whnf) ?_
  refine ev_k rfl (k_callR [(1000000, 1000000)] (D_spec_l00Src_pick cs _ _ _ hc hb (by omega) (by omega)) rfl (rfl) (rfl) ⟨rfl, trivial⟩ rfl (by rintro ⟨v3, a3, s3⟩ ⟨hx3_0, hx3_1⟩; exact ⟨⟨rfl, rfl, trivial⟩, rfl⟩) rfl rfl ?_)
  rintro ⟨v3, a3, s3⟩ ⟨hx3_0, hx3_1⟩
  refine ei rfl rfl rfl ?_
  intro b4 hb4; cases b4
  · replace hb4 := eqF hb4
    refine ea rfl (by conv=>lhs;whnf) ?_
    refine ev_nil (hK2 _ ?_); clear hK2
    refine good_ret ?_
    repeat first|refine thenQ_ret ?_|refine blockQ_ret ?_
    apply ex_3
    case hF =>
      refine fx_tmp rfl (by conv=>lhs;whnf) ?_
      exact ⟨_, conv_eq (by first | rfl | exact fT (by first | omega | grind) | exact fF (by first | omega | grind) | exact fT' (by first | omega | grind) | (exfalso; first | omega | grind)), weakH_box (boxEq (by first | rfl | (rw [e]; done) | (rw [e]; rfl) | (simp_all; done))) rfl (weakH_none _), refsIn_ok rfl⟩
    case hR =>
      exact ⟨by omega, by omega⟩
  · replace hb4 := eqT hb4
    refine ea rfl (by conv=>lhs;whnf) ?_
    refine ev_nil (hK2 _ ?_); clear hK2
    refine good_ret ?_
    repeat first|refine thenQ_ret ?_|refine blockQ_ret ?_
    apply ex_3
    case hF =>
      refine fx_tmp rfl (by conv=>lhs;whnf) ?_
      exact ⟨_, conv_eq (by first | rfl | exact fT (by first | omega | grind) | exact fF (by first | omega | grind) | exact fT' (by first | omega | grind) | (exfalso; first | omega | grind)), weakH_box (boxEq (by first | rfl | (rw [e]; done) | (rw [e]; rfl) | (simp_all; done))) rfl (weakH_none _), refsIn_ok rfl⟩
    case hR =>
      exact ⟨by omega, by omega⟩

-- (*spec.l00Src).among
theorem D_spec_l00Src_among (cs : List Int) (a s : Int) (xs : List Int) (hc : cs.length ≤ 17592186044416) (hb : byteL cs) (ha : 0 ≤ a ∧ a ≤ 3999999999999999998) (hx : 1 ≤ xs.length ∧ xs.length ≤ 1000000) : DenXR Try.prog 67 [(1000000, .box 154 (src cs a s)), (1000001, .row 2 1 (xs.map ci))] [.ptr 1000000 0, .own 1000001 xs.length] (τ := Int × Int × Int) (fun (v, a1, s1) => (v ∈ xs) ∧ (a ≤ a1 ∧ a1 ≤ a + 2)) (fun (v, a1, s1) => [(1000000, .box 154 (src cs a1 s1)), (1000001, .row 2 1 (xs.map ci))]) (fun (v, a1, s1) => .s (.int .i64 v)) := by
  refine denXR_of_good Try.func67 (by decide) rfl (Nat.le_of_ble_eq_true rfl) (Nat.le_of_ble_eq_true rfl) rfl ?_
  refine good_seq fun K1 hK1 => ?_
  refine gr rfl ?_
  refine ea rfl (by conv=>lhs;whnf) ?_
  refine ev_nil (hK1 _ ?_); clear hK1
  refine good_seq fun K2 hK2 => ?_
  refine gr rfl ?_
  refine em rfl (by conv=>lhs;whnf) ?_
  refine em rfl (by conv=>lhs;whnf) ?_
  refine em rfl (by conv=>lhs;whnf) ?_
  refine ev_q rfl (q_len tEs22 rfl ?_)
  intro n3 hn3
  try simp only [List.length_map] at hn3
  refine ev_k rfl (k_callR [(1000000, 1000000)] (D_spec_l00Src_pick cs _ _ _ hc hb (by omega) (by omega)) rfl (rfl) (rfl) ⟨rfl, trivial⟩ rfl (by rintro ⟨v4, a4, s4⟩ ⟨hx4_0, hx4_1⟩; exact ⟨⟨rfl, rfl, trivial⟩, rfl⟩) rfl rfl ?_)
  rintro ⟨v4, a4, s4⟩ ⟨hx4_0, hx4_1⟩
  obtain ⟨p, hp⟩ := getL (xs := xs) (n := v4) (by omega) (by omega)
  refine ev_q rfl (q_idxO tE22 rfl rfl rfl (by omega) (by omega) rfl ?_)
  refine ev_q rfl (q_loadE tA2 rfl rfl (by exact map_get hp) rfl ?_)
  refine ea rfl (by conv=>lhs;whnf) ?_
  refine ev_nil (hK2 _ ?_); clear hK2
  refine good_ret ?_
  repeat first|refine thenQ_ret ?_|refine blockQ_ret ?_
  apply ex_3
  case hF =>
    refine fx_tmp rfl (by conv=>lhs;whnf) ?_
    exact ⟨_, conv_eq (by first | rfl | exact fI (by first | omega | grind) | (exfalso; first | omega | grind)), weakH_box (boxEq (by first | rfl | (rw [e]; done) | (rw [e]; rfl) | (simp_all; done))) rfl (weakH_row (rowEq (by first | rfl | (rw [e]; done) | (rw [e]; rfl) | (simp_all; done))) (weakH_none _)), refsIn_ok rfl⟩
  case hR =>
    exact ⟨List.mem_of_getElem? hp, by omega, by omega⟩

-- spec.l00From
theorem D_spec_l00From (cs : List Int)  : DenX Try.prog 65 [] [.lst 1 (cs.map cb)] [(5, .box 154 (src cs 0 0))] (.ptr 5 0) := by
  refine denX_of_good Try.func65 (by decide) rfl (Nat.le_of_ble_eq_true rfl) (Nat.le_of_ble_eq_true rfl) rfl ?_
  refine good_seq fun K1 hK1 => ?_
  refine gr rfl ?_
  refine ea rfl (by conv=>lhs;whnf) ?_
  refine ev_nil (hK1 _ ?_); clear hK1
  refine good_seq fun K2 hK2 => ?_
  refine gr rfl ?_
  refine em rfl (by conv=>lhs;whnf) ?_
  refine ev_k rfl (k_build zA154 pl154 (rfl) ?_)
  refine ev_k rfl (k_box (by conv=>lhs;whnf) rfl rfl rfl ?_)
  refine ea rfl (by conv=>lhs;whnf) ?_
  refine ev_nil (hK2 _ ?_); clear hK2
  refine good_ret ?_
  repeat first|refine thenQ_ret ?_|refine blockQ_ret ?_
  refine fx_tmp rfl (by conv=>lhs;whnf) ?_
  exact ⟨_, conv_eq (by first | rfl | (rw [e]; done) | (rw [e]; rfl) | exact ownEq (by first | omega | simp_all)), weakH_box (boxEq (by first | rfl | (rw [e]; done) | (rw [e]; rfl) | (simp_all; done))) rfl (weakH_none _), refsIn_ok rfl⟩

-- spec.l03DrawOk
theorem D_spec_l03DrawOk (cs : List Int) (a s : Int) (nm : ByteArray) (f t : Int) (hc : cs.length ≤ 17592186044416) (hb : byteL cs) (ha : 0 ≤ a ∧ a ≤ 3999999999999999994)  : DenXR Try.prog 134 [(1000000, .box 154 (src cs a s))] [.ptr 1000000 0, .s (.string nm), .s (.int .i64 f), .s (.int .i64 t)] (τ := Pi × Int × Int) (fun (v, a1, s1) => (v.id = nm ∧ v.fm = f ∧ v.tt = t ∧ dpB v) ∧ (a ≤ a1 ∧ a1 ≤ a + 6)) (fun (v, a1, s1) => [(1000000, .box 154 (src cs a1 s1))]) (fun (v, a1, s1) => .agg [.s (.string v.id), .s (.int .i64 (v.fm)), .s (.int .i64 (v.tt)), .s (.int .i64 (v.le)), .s (.int .i64 (v.di)), .s (.int .i64 (v.lo))]) := by
  refine denXR_of_good Try.func134 (by decide) rfl (Nat.le_of_ble_eq_true rfl) (Nat.le_of_ble_eq_true rfl) rfl ?_
  refine good_seq fun K1 hK1 => ?_
  refine gr rfl ?_
  refine ev_k rfl (k_alloc zA59 rfl ?_)
  refine ev_nil (hK1 _ ?_); clear hK1
  refine good_seq fun K2 hK2 => ?_
  refine gr rfl ?_
  refine em rfl (by conv=>lhs;whnf) ?_
  refine em rfl (by conv=>lhs;whnf) ?_
  refine em rfl (by conv=>lhs;whnf) ?_
  refine em rfl (by conv=>lhs;whnf) ?_
  refine ev_k rfl (k_callR [(1000000, 1000000)] (D_spec_l00Src_pick cs _ _ _ hc hb (by omega) (by omega)) rfl (rfl) (rfl) ⟨rfl, trivial⟩ rfl (by rintro ⟨v3, a3, s3⟩ ⟨hx3_0, hx3_1⟩; exact ⟨⟨rfl, rfl, trivial⟩, rfl⟩) rfl rfl ?_)
  rintro ⟨v3, a3, s3⟩ ⟨hx3_0, hx3_1⟩
  refine ei rfl rfl rfl ?_
  intro n4 hn4
  replace hn4 := in64 hn4 (by omega) (by omega)
  refine ev_k rfl (k_build zA59 pl59 (rfl) ?_)
  refine ev_k rfl (k_alloc zA59 rfl ?_)
  refine ev_k rfl (k_store sz59 rfl (by conv=>lhs;whnf) rfl rfl rfl (Nat.le_of_ble_eq_true rfl) rfl ?_)
  refine ev_nil (hK2 _ ?_); clear hK2
  refine good_seq fun K5 hK5 => ?_
  refine good_weak (st' := { env := upd (upd (upd ((fun _ => .junk)) 0 (.ptr 1000000 0)) 8 (.ptr 8 0)) 9 (.ptr 9 0), H := upd (upd (upd ((fun _ => none)) 9 (some (.box 59 [.s (.string nm), .s (.int .i64 f), .s (.int .i64 t), .s (.int .i64 (n4)), .s (.int .i64 0), .s (.int .i64 0)]))) 8 (some (.box 59 [.s (.string ⟨#[]⟩), .s (.int .i64 0), .s (.int .i64 0), .s (.int .i64 0), .s (.int .i64 0), .s (.int .i64 0)]))) 1000000 (some (.box 154 (src cs a3 s3))) }) ?_ ?_
  · refine sub_weak ?_ ?_
    · exact weakH_box (boxEq (rfl)) rfl (weakH_box (boxEq (rfl)) rfl (weakH_box (boxEq (rfl)) rfl (weakH_none _)))
    · refine weakE_upd ?e9 ?r9 (weakE_upd ?e8 ?r8 (weakE_upd ?e0 ?r0 (weakE_junk _ _)))
      case e0 => first | rfl | exact fI (by omega) | (rfl)
      case r0 => intro h hh; simp [refs] at hh; subst hh; rfl
      case e8 => first | rfl | exact fI (by omega) | (rfl)
      case r8 => intro h hh; simp [refs] at hh; subst hh; rfl
      case e9 => first | rfl | exact fI (by omega) | (rfl)
      case r9 => intro h hh; simp [refs] at hh; subst hh; rfl
  refine gr rfl ?_
  refine em rfl (by conv=>lhs;whnf) ?_
  refine ev_k rfl (k_callR [(1000000, 1000000)] (D_spec_l00Src_pick cs _ _ _ hc hb (by omega) (by omega)) rfl (rfl) (rfl) ⟨rfl, trivial⟩ rfl (by rintro ⟨v6, a6, s6⟩ ⟨hx6_0, hx6_1⟩; exact ⟨⟨rfl, rfl, trivial⟩, rfl⟩) rfl rfl ?_)
  rintro ⟨v6, a6, s6⟩ ⟨hx6_0, hx6_1⟩
  refine ei rfl rfl rfl ?_
  intro n7 hn7
  replace hn7 := in64 hn7 (by omega) (by omega)
  refine ei rfl rfl rfl ?_
  intro n8 hn8
  replace hn8 := in64 hn8 (by omega) (by omega)
  refine ev_q rfl (q_fieldAddrP fO59_4 rfl rfl ?_)
  refine ev_k rfl (k_store sz2 rfl (by conv=>lhs;whnf) rfl rfl rfl (Nat.le_of_ble_eq_true rfl) rfl ?_)
  refine ev_nil (hK5 _ ?_); clear hK5
  refine good_seq fun K9 hK9 => ?_
  refine good_weak (st' := { env := upd (upd (upd ((fun _ => .junk)) 0 (.ptr 1000000 0)) 8 (.ptr 8 0)) 9 (.ptr 9 0), H := upd (upd (upd ((fun _ => none)) 9 (some (.box 59 [.s (.string nm), .s (.int .i64 f), .s (.int .i64 t), .s (.int .i64 (n4)), .s (.int .i64 (n8)), .s (.int .i64 0)]))) 8 (some (.box 59 [.s (.string ⟨#[]⟩), .s (.int .i64 0), .s (.int .i64 0), .s (.int .i64 0), .s (.int .i64 0), .s (.int .i64 0)]))) 1000000 (some (.box 154 (src cs a6 s6))) }) ?_ ?_
  · refine sub_weak ?_ ?_
    · exact weakH_box (boxEq (rfl)) rfl (weakH_box (boxEq (rfl)) rfl (weakH_box (boxEq (rfl)) rfl (weakH_none _)))
    · refine weakE_upd ?e9 ?r9 (weakE_upd ?e8 ?r8 (weakE_upd ?e0 ?r0 (weakE_junk _ _)))
      case e0 => first | rfl | exact fI (by omega) | (rfl)
      case r0 => intro h hh; simp [refs] at hh; subst hh; rfl
      case e8 => first | rfl | exact fI (by omega) | (rfl)
      case r8 => intro h hh; simp [refs] at hh; subst hh; rfl
      case e9 => first | rfl | exact fI (by omega) | (rfl)
      case r9 => intro h hh; simp [refs] at hh; subst hh; rfl
  refine gr rfl ?_
  refine em rfl (by conv=>lhs;whnf) ?_
  refine ev_k rfl (k_callR [(1000000, 1000000)] (D_spec_l00Src_pick cs _ _ _ hc hb (by omega) (by omega)) rfl (rfl) (rfl) ⟨rfl, trivial⟩ rfl (by rintro ⟨v10, a10, s10⟩ ⟨hx10_0, hx10_1⟩; exact ⟨⟨rfl, rfl, trivial⟩, rfl⟩) rfl rfl ?_)
  rintro ⟨v10, a10, s10⟩ ⟨hx10_0, hx10_1⟩
  refine ei rfl rfl rfl ?_
  intro n11 hn11
  replace hn11 := in64 hn11 (by omega) (by omega)
  refine ev_q rfl (q_fieldAddrP fO59_5 rfl rfl ?_)
  refine ev_k rfl (k_store sz2 rfl (by conv=>lhs;whnf) rfl rfl rfl (Nat.le_of_ble_eq_true rfl) rfl ?_)
  refine ev_nil (hK9 _ ?_); clear hK9
  refine good_seq fun K12 hK12 => ?_
  refine good_weak (st' := { env := upd (upd (upd ((fun _ => .junk)) 0 (.ptr 1000000 0)) 8 (.ptr 8 0)) 9 (.ptr 9 0), H := upd (upd (upd ((fun _ => none)) 9 (some (.box 59 [.s (.string nm), .s (.int .i64 f), .s (.int .i64 t), .s (.int .i64 (n4)), .s (.int .i64 (n8)), .s (.int .i64 (n11))]))) 8 (some (.box 59 [.s (.string ⟨#[]⟩), .s (.int .i64 0), .s (.int .i64 0), .s (.int .i64 0), .s (.int .i64 0), .s (.int .i64 0)]))) 1000000 (some (.box 154 (src cs a10 s10))) }) ?_ ?_
  · refine sub_weak ?_ ?_
    · exact weakH_box (boxEq (rfl)) rfl (weakH_box (boxEq (rfl)) rfl (weakH_box (boxEq (rfl)) rfl (weakH_none _)))
    · refine weakE_upd ?e9 ?r9 (weakE_upd ?e8 ?r8 (weakE_upd ?e0 ?r0 (weakE_junk _ _)))
      case e0 => first | rfl | exact fI (by omega) | (rfl)
      case r0 => intro h hh; simp [refs] at hh; subst hh; rfl
      case e8 => first | rfl | exact fI (by omega) | (rfl)
      case r8 => intro h hh; simp [refs] at hh; subst hh; rfl
      case e9 => first | rfl | exact fI (by omega) | (rfl)
      case r9 => intro h hh; simp [refs] at hh; subst hh; rfl
  refine gr rfl ?_
  refine ev_q rfl (q_loadA tA59 rfl rfl rfl ?_)
  refine ev_k rfl (k_store sz59 rfl (by conv=>lhs;whnf) rfl rfl rfl (Nat.le_of_ble_eq_true rfl) rfl ?_)
  refine ev_nil (hK12 _ ?_); clear hK12
  refine good_ret ?_
  repeat first|refine thenQ_ret ?_|refine blockQ_ret ?_
  refine ex_3 (v := ⟨nm, f, t, n4, n8, n11⟩) (a := a10) (b := s10) ?hF ?hR
  case hF =>
    refine fx_cell rfl tA59 rfl rfl rfl ?_
    exact ⟨_, conv_eq (by first | rfl | exact fAgg1 (by first | rfl | exact ownEq (by first | done | omega | (simp; done)) | (simp_all; done)) (fAgg1 (by first | rfl | exact fI (by first | omega | grind) | (exfalso; first | omega | grind)) (fAgg1 (by first | rfl | exact fI (by first | omega | grind) | (exfalso; first | omega | grind)) (fAgg1 (by first | rfl | exact fI (by first | omega | grind) | (exfalso; first | omega | grind)) (fAgg1 (by first | rfl | exact fI (by first | omega | grind) | (exfalso; first | omega | grind)) (fAgg1 (by first | rfl | exact fI (by first | omega | grind) | (exfalso; first | omega | grind)) (rfl))))))), weakH_box (boxEq (by first | rfl | (rw [e]; done) | (rw [e]; rfl) | (simp_all; done))) rfl (weakH_none _), refsIn_ok rfl⟩
  case hR =>
    exact ⟨⟨rfl, rfl, rfl, by unfold dpB; dsimp only; omega⟩, by omega⟩

-- spec.l04Ids
theorem D_spec_l04Ids   : DenX Try.prog 132 [] [] [(900001, .row 9 1 (idL.map sAV))] (.own 900001 12) := by
  refine denX_of_good Try.func132 (by decide) rfl (Nat.le_of_ble_eq_true rfl) (Nat.le_of_ble_eq_true rfl) rfl ?_
  refine good_seq fun K1 hK1 => ?_
  refine gr rfl ?_
  refine ea rfl (by conv=>lhs;whnf) ?_
  refine ev_nil (hK1 _ ?_); clear hK1
  refine good_seq fun K2 hK2 => ?_
  refine gr rfl ?_
  refine ev_k rfl (k_lit tE155 zA9 rfl rfl (by decide) (by decide) rfl rfl rfl ?_)
  refine ea rfl (by conv=>lhs;whnf) ?_
  refine ev_nil (hK2 _ ?_); clear hK2
  refine good_weak (sub_move 0 1 900001 rfl rfl rfl (by decide)) ?_
  refine good_ret ?_
  repeat first|refine thenQ_ret ?_|refine blockQ_ret ?_
  refine fx_tmp rfl (by conv=>lhs;whnf) ?_
  exact ⟨_, conv_eq (by first | rfl | (rw [e]; done) | (rw [e]; rfl) | exact ownEq (by first | omega | simp_all)), weakH_row (rowEq (by first | rfl | (rw [e]; done) | (rw [e]; rfl) | (simp_all; done))) (weakH_none _), refsIn_ok rfl⟩

end Go.Proofs.Ytkgnbjgnddfojaa.DFnWays
