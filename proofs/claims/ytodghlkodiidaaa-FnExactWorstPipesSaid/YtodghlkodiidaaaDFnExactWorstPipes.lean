/- Walks through the functions that FnExactWorstPipes reaches: what each answers. -/
import Derived.Test.YtodghlkodiidaaaDFnExactWorstPipesa
set_option linter.unusedVariables false
set_option linter.unusedSimpArgs false
namespace Go.Proofs.Ytodghlkodiidaaa.DFnExactWorstPipes
open Go Go.RowKit Go.Proofs Go.Proofs.Ytodghlkodiidaaa Go.Proofs.Ytodghlkodiidaaa.Ev
-- spec.l04Ok
set_option maxRecDepth 20000 in
set_option maxHeartbeats 2000000 in
theorem D_spec_l04Ok (ns : List Int) (ps : List Pi) (hn : ns.length ≤ 17592186044416) (hp : ps.length ≤ 2513169434843) (hz : idSz ps) : Den Try.prog 19 [.rp [.lst 1 (ns.map ci), .lst 6 (ps.map piA)]] (.s (.bool (decide (netOk ns ps)))) := by
  refine den_of_good Try.func19 (by decide) rfl (Nat.le_of_ble_eq_true rfl) (Nat.le_of_ble_eq_true rfl) ?_
  refine good_seq fun K1 hK1 => ?_
  refine good_region rfl ?_
  refine ev_q rfl (q_assign (by conv => lhs; whnf) ?_)
  refine ev_nil (hK1 _ ?_); clear hK1
  refine good_seq fun K2 hK2 => ?_
  refine good_seq fun K3 hK3 => ?_
  refine good_region rfl ?_
  refine ev_q rfl (q_assign (by conv => lhs; whnf) ?_)
  refine ev_nil (hK3 _ ?_); clear hK3
  refine good_block ?_
  refine good_loop (α := Nat) (fun k => { env := upd (upd ((fun _ => .junk)) 0 (.rp [.lst 1 (ns.map ci), .lst 6 (ps.map piA)])) 3 (.s (.int .i64 k)), H := fun _ => none }) (fun k => k ≤ ns.length ∧ ∀ j q, j < k → ns[j]? = some q → (-100000) ≤ q ∧ q ≤ 100000) (fun k => ns.length - k) 0 ?_ ?_ ?_
  · exact ⟨by omega, fun j u hj => by omega⟩
  · refine sub_weak ?_ ?_
    · exact weakH_none _
    · refine weakE_upd ?e3 ?r3 (weakE_upd ?e0 ?r0 (weakE_junk _ _))
      case e0 => first | rfl | exact fI (by omega) | (simp_all)
      case r0 => intro h hh; cases hh
      case e3 => first | rfl | exact fI (by omega) | (simp_all)
      case r3 => intro h hh; cases hh
  · rintro k ⟨hIk, hJk⟩
    refine good_seq fun K4 hK4 => ?_
    refine good_seq fun K5 hK5 => ?_
    refine good_region rfl ?_
    refine ev_q rfl (q_move (by conv => lhs; whnf) ?_)
    refine ev_q rfl (q_move (by conv => lhs; whnf) ?_)
    refine ev_q rfl (q_nilCheck (by conv => lhs; whnf) rfl ?_)
    refine ev_q rfl (q_fieldAddr fO31_0 rfl rfl ?_)
    refine ev_q rfl (q_load tA22 rfl ?_)
    refine ev_q rfl (q_len tEs22 rfl ?_)
    intro n6 hn6
    try simp only [List.length_map] at hn6
    refine ev_q rfl (q_int rfl rfl ?_)
    intro b7 hb7; cases b7
    · replace hb7 := dF hb7
      refine ev_nil (hK5 _ ?_); clear hK5
      refine good_condF rfl ?_
      refine good_exit ?_
      repeat (first | refine thenQ_exit ?_ | refine blockQ_pass rfl ?_)
      refine blockQ_exit (hK2 _ ?_); clear hK2
      refine good_seq fun K8 hK8 => ?_
      refine good_seq fun K9 hK9 => ?_
      refine good_region rfl ?_
      refine ev_q rfl (q_move (by conv => lhs; whnf) ?_)
      refine ev_q rfl (q_nilCheck (by conv => lhs; whnf) rfl ?_)
      refine ev_q rfl (q_fieldAddr fO31_0 rfl rfl ?_)
      refine ev_q rfl (q_load tA22 rfl ?_)
      refine ev_q rfl (q_len tEs22 rfl ?_)
      intro n10 hn10
      try simp only [List.length_map] at hn10
      refine ev_q rfl (q_int rfl rfl ?_)
      intro b11 hb11; cases b11
      · replace hb11 := dF hb11
        refine ev_q rfl (q_move (by conv => lhs; whnf) ?_)
        refine ev_q rfl (q_move (by conv => lhs; whnf) ?_)
        refine ev_q rfl (q_nilCheck (by conv => lhs; whnf) rfl ?_)
        refine ev_q rfl (q_fieldAddr fO31_0 rfl rfl ?_)
        refine ev_q rfl (q_load tA22 rfl ?_)
        refine ev_q rfl (q_len tEs22 rfl ?_)
        intro n12 hn12
        try simp only [List.length_map] at hn12
        refine ev_q rfl (q_int rfl rfl ?_)
        intro b13 hb13; cases b13
        · replace hb13 := dF hb13
          refine ev_q rfl (q_pickF rfl (by conv => lhs; whnf) ?_)
          refine ev_q rfl (q_move (by conv => lhs; whnf) ?_)
          refine ev_q rfl (q_move (by conv => lhs; whnf) ?_)
          refine ev_q rfl (q_nilCheck (by conv => lhs; whnf) rfl ?_)
          refine ev_q rfl (q_fieldAddr fO31_1 rfl rfl ?_)
          refine ev_q rfl (q_load tA29 rfl ?_)
          refine ev_q rfl (q_len tEs29 rfl ?_)
          intro n14 hn14
          try simp only [List.length_map] at hn14
          refine ev_q rfl (q_int rfl rfl ?_)
          intro b15 hb15; cases b15
          · replace hb15 := dF hb15
            refine ev_q rfl (q_pickF rfl (by conv => lhs; whnf) ?_)
            refine ev_nil (hK9 _ ?_); clear hK9
            refine good_condF rfl ?_
            refine good_skip (hK8 _ ?_); clear hK8
            refine good_seq fun K16 hK16 => ?_
            refine good_seq fun K17 hK17 => ?_
            refine good_region rfl ?_
            refine ev_q rfl (q_assign (by conv => lhs; whnf) ?_)
            refine ev_nil (hK17 _ ?_); clear hK17
            refine good_block ?_
            have hw : within ns (-100000) 100000 := all_finI (Q := fun _ q => (-100000) ≤ q ∧ q ≤ 100000) hJk (by omega)
            refine good_loop (α := Nat) (fun i => { env := upd (upd ((fun _ => .junk)) 0 (.rp [.lst 1 (ns.map ci), .lst 6 (ps.map piA)])) 4 (.s (.int .i64 i)), H := fun _ => none }) (fun i => i ≤ ps.length ∧ ∀ j p, j < i → ps[j]? = some p → piAt ns ps j p) (fun i => ps.length - i) 0 ?_ ?_ ?_
            · exact ⟨by omega, fun j u hj => by omega⟩
            · refine sub_weak ?_ ?_
              · exact weakH_none _
              · refine weakE_upd ?e4 ?r4 (weakE_upd ?e0 ?r0 (weakE_junk _ _))
                case e0 => first | rfl | exact fI (by omega) | (simp_all)
                case r0 => intro h hh; cases hh
                case e4 => first | rfl | exact fI (by omega) | (simp_all)
                case r4 => intro h hh; cases hh
            · rintro i ⟨hI, hJ⟩
              refine good_seq fun K18 hK18 => ?_
              refine good_seq fun K19 hK19 => ?_
              refine good_region rfl ?_
              refine ev_q rfl (q_move (by conv => lhs; whnf) ?_)
              refine ev_q rfl (q_move (by conv => lhs; whnf) ?_)
              refine ev_q rfl (q_nilCheck (by conv => lhs; whnf) rfl ?_)
              refine ev_q rfl (q_fieldAddr fO31_1 rfl rfl ?_)
              refine ev_q rfl (q_load tA29 rfl ?_)
              refine ev_q rfl (q_len tEs29 rfl ?_)
              intro n20 hn20
              try simp only [List.length_map] at hn20
              refine ev_q rfl (q_int rfl rfl ?_)
              intro b21 hb21; cases b21
              · replace hb21 := dF hb21
                refine ev_nil (hK19 _ ?_); clear hK19
                refine good_condF rfl ?_
                refine good_exit ?_
                repeat (first | refine thenQ_exit ?_ | refine blockQ_pass rfl ?_)
                refine blockQ_exit (hK16 _ ?_); clear hK16
                refine good_seq fun K22 hK22 => ?_
                refine good_region rfl ?_
                refine ev_q rfl (q_assign (by conv => lhs; whnf) ?_)
                refine ev_nil (hK22 _ ?_); clear hK22
                refine good_ret ?_
                repeat (first | refine thenQ_ret ?_ | refine blockQ_ret ?_)
                refine ret_tmp (st := _) rfl (by conv => lhs; whnf) rfl ?_
                clear hK4 hK18
                first | exact fT ⟨⟨⟨by omega, by omega⟩, by assumption, by omega⟩, all_finS (Q := fun j p => piAt ns ps j p) hJ (by omega)⟩ | exact fF (fun h => by have h1 := h.1; first | omega | (have := h1.2.1 _ _ hpk; omega)) | exact fF (net_no hpp (fun ⟨h1, h2⟩ => by first | exact absurd h1 (by assumption) | exact hE (h2 q (by omega) (by rw [← hq]; congr 1; omega))))
              · replace hb21 := dT hb21
                obtain ⟨p, hpp⟩ := getL (xs := ps) (n := (i : Int)) (by omega) (by omega)
                replace hpp : ps[i]? = some p := hpp
                have hzp := hz i p hpp
                refine ev_nil (hK19 _ ?_); clear hK19
                refine good_condT rfl ?_
                refine good_skip (hK18 _ ?_); clear hK18
                refine good_seq fun K23 hK23 => ?_
                refine good_block ?_
                refine good_seq fun K24 hK24 => ?_
                refine good_draw 33 hmix (by kernel_rfl) rfl ?_
                refine qo_q rfl (q_move (by conv => lhs; whnf) ?_)
                refine qo_q rfl (q_move (by conv => lhs; whnf) ?_)
                refine qo_q rfl (q_nilCheck (by conv => lhs; whnf) rfl ?_)
                refine qo_q rfl (q_fieldAddr fO31_1 rfl rfl ?_)
                refine qo_q rfl (q_load tA29 rfl ?_)
                refine qo_q rfl (q_move (by conv => lhs; whnf) ?_)
                refine qo_q rfl (q_idx tE29 rfl rfl (by exact Int.natCast_nonneg _) (by exact map_get hpp) rfl ?_)
                refine qo_q rfl (q_callB rfl rfl (rfl) (D_spec_l04Fits ns ps _ _ _ _ _ _ hn (by assumption)) ?_)
                intro b25 hb25; cases b25
                · first | replace hb25 := dF hb25 | skip
                  refine qo_q rfl (q_not rfl rfl ?_)
                  refine qo_q rfl (q_move (by conv => lhs; whnf) ?_)
                  refine qo_skip rfl ?_
                  refine qo_skip rfl ?_
                  refine qo_skip rfl ?_
                  refine qo_skip rfl ?_
                  refine qo_skip rfl ?_
                  refine qo_skip rfl ?_
                  refine qo_skip rfl ?_
                  refine qo_skip rfl ?_
                  refine qo_skip rfl ?_
                  refine qo_skip rfl ?_
                  refine qo_skip rfl ?_
                  refine qo_skip rfl ?_
                  refine qo_skip rfl ?_
                  refine qo_skip rfl ?_
                  refine qo_skip rfl ?_
                  refine qo_skip rfl ?_
                  refine qo_skip rfl ?_
                  refine qo_skip rfl ?_
                  refine qo_skip rfl ?_
                  refine qo_skip rfl ?_
                  refine qo_skip rfl ?_
                  refine qo_skip rfl ?_
                  refine qo_q rfl (q_pickT rfl (by conv => lhs; whnf) ?_)
                  refine qo_nil ?_
                  refine ev_nil (hK24 _ ?_); clear hK24
                  refine good_condT rfl ?_
                  refine good_seq fun K26 hK26 => ?_
                  refine good_region rfl ?_
                  refine ev_q rfl (q_assign (by conv => lhs; whnf) ?_)
                  refine ev_nil (hK26 _ ?_); clear hK26
                  refine good_ret ?_
                  repeat (first | refine thenQ_ret ?_ | refine blockQ_ret ?_)
                  refine ret_tmp (st := _) rfl (by conv => lhs; whnf) rfl ?_
                  clear hK4 hK16 hK23
                  first | exact fT ⟨⟨⟨by omega, by omega⟩, by assumption, by omega⟩, all_finS (Q := fun j p => piAt ns ps j p) hJ (by omega)⟩ | exact fF (fun h => by have h1 := h.1; first | omega | (have := h1.2.1 _ _ hpk; omega)) | exact fF (net_no hpp (fun ⟨h1, h2⟩ => by first | exact absurd h1 (by assumption) | exact hE (h2 q (by omega) (by rw [← hq]; congr 1; omega))))
                · first | replace hb25 := dT hb25 | skip
                  refine qo_q rfl (q_not rfl rfl ?_)
                  refine qo_q rfl (q_move (by conv => lhs; whnf) ?_)
                  refine qo_q rfl (q_move (by conv => lhs; whnf) ?_)
                  refine qo_q rfl (q_int rfl rfl ?_)
                  intro b27 hb27; cases b27
                  · replace hb27 := dF hb27
                    refine qo_q rfl (q_move (by conv => lhs; whnf) ?_)
                    refine qo_skip rfl ?_
                    refine qo_skip rfl ?_
                    refine qo_skip rfl ?_
                    refine qo_skip rfl ?_
                    refine qo_skip rfl ?_
                    refine qo_skip rfl ?_
                    refine qo_skip rfl ?_
                    refine qo_skip rfl ?_
                    refine qo_skip rfl ?_
                    refine qo_skip rfl ?_
                    refine qo_skip rfl ?_
                    refine qo_skip rfl ?_
                    refine qo_skip rfl ?_
                    refine qo_skip rfl ?_
                    refine qo_skip rfl ?_
                    refine qo_skip rfl ?_
                    refine qo_skip rfl ?_
                    refine qo_skip rfl ?_
                    refine qo_q rfl (q_pickF rfl (by conv => lhs; whnf) ?_)
                    refine qo_q rfl (q_pickF rfl (by conv => lhs; whnf) ?_)
                    refine qo_nil ?_
                    refine ev_nil (hK24 _ ?_); clear hK24
                    refine good_condF rfl ?_
                    refine good_skip (hK23 _ ?_); clear hK23
                    refine good_region rfl ?_
                    refine ev_q rfl (q_move (by conv => lhs; whnf) ?_)
                    refine ev_q rfl (q_int rfl rfl ?_)
                    intro n28 hn28
                    replace hn28 := in64 hn28 (by omega) (by omega)
                    refine ev_q rfl (q_assign (by conv => lhs; whnf) ?_)
                    refine ev_nil ?_
                    clear hK4 hK16
                    refine ⟨i + 1, ?_, ?_, ?_⟩
                    · refine ⟨by omega, all_extS (Q := fun j p => piAt ns ps j p) hJ hpp ?_⟩
                      first | exact ⟨by assumption, fun y h0 hy => by first | omega | (have e : some y = some q := hy.symm.trans (by rw [← hq]; congr 1; omega); cases e; exact hE)⟩
                    · first | omega | (simp only []; omega) | (dsimp only; omega)
                    · refine sub_weak ?_ ?_
                      · exact weakH_none _
                      · refine weakE_upd ?e4 ?r4 (weakE_upd ?e0 ?r0 (weakE_junk _ _))
                        case e0 => first | rfl | exact fI (by omega) | (simp_all)
                        case r0 => intro h hh; cases hh
                        case e4 => first | rfl | exact fI (by omega) | (simp_all)
                        case r4 => intro h hh; cases hh
                  · replace hb27 := dT hb27
                    refine qo_q rfl (q_move (by conv => lhs; whnf) ?_)
                    refine qo_q rfl (q_move (by conv => lhs; whnf) ?_)
                    refine qo_q rfl (q_nilCheck (by conv => lhs; whnf) rfl ?_)
                    refine qo_q rfl (q_fieldAddr fO31_1 rfl rfl ?_)
                    refine qo_q rfl (q_load tA29 rfl ?_)
                    refine qo_q rfl (q_move (by conv => lhs; whnf) ?_)
                    refine qo_q rfl (q_int rfl rfl ?_)
                    intro n29 hn29
                    replace hn29 := in64 hn29 (by omega) (by omega)
                    obtain ⟨q, hq⟩ := getL (xs := ps) (n := n29) (by omega) (by omega)
                    refine qo_q rfl (q_idx tE29 rfl rfl (by omega) (by exact map_get hq) rfl ?_)
                    refine qo_q rfl (q_fieldAddr fO47_0 rfl rfl ?_)
                    refine qo_q rfl (q_load tA9 rfl ?_)
                    refine qo_q rfl (q_move (by conv => lhs; whnf) ?_)
                    refine qo_q rfl (q_nilCheck (by conv => lhs; whnf) rfl ?_)
                    refine qo_q rfl (q_fieldAddr fO31_1 rfl rfl ?_)
                    refine qo_q rfl (q_load tA29 rfl ?_)
                    refine qo_q rfl (q_move (by conv => lhs; whnf) ?_)
                    refine qo_q rfl (q_idx tE29 rfl rfl (by exact Int.natCast_nonneg _) (by exact map_get hpp) rfl ?_)
                    refine qo_q rfl (q_fieldAddr fO47_0 rfl rfl ?_)
                    refine qo_q rfl (q_load tA9 rfl ?_)
                    refine qo_q rfl (q_str rfl rfl ?_)
                    intro b30 hb30; cases b30
                    · have hE := lt_ge hb30
                      refine qo_q rfl (q_pickT rfl (by conv => lhs; whnf) ?_)
                      refine qo_q rfl (q_pickF rfl (by conv => lhs; whnf) ?_)
                      refine qo_nil ?_
                      refine ev_nil (hK24 _ ?_); clear hK24
                      refine good_condF rfl ?_
                      refine good_skip (hK23 _ ?_); clear hK23
                      refine good_region rfl ?_
                      refine ev_q rfl (q_move (by conv => lhs; whnf) ?_)
                      refine ev_q rfl (q_int rfl rfl ?_)
                      intro n31 hn31
                      replace hn31 := in64 hn31 (by omega) (by omega)
                      refine ev_q rfl (q_assign (by conv => lhs; whnf) ?_)
                      refine ev_nil ?_
                      clear hK4 hK16
                      refine ⟨i + 1, ?_, ?_, ?_⟩
                      · refine ⟨by omega, all_extS (Q := fun j p => piAt ns ps j p) hJ hpp ?_⟩
                        first | exact ⟨by assumption, fun y h0 hy => by first | omega | (have e : some y = some q := hy.symm.trans (by rw [← hq]; congr 1; omega); cases e; exact hE)⟩
                      · first | omega | (simp only []; omega) | (dsimp only; omega)
                      · refine sub_weak ?_ ?_
                        · exact weakH_none _
                        · refine weakE_upd ?e4 ?r4 (weakE_upd ?e0 ?r0 (weakE_junk _ _))
                          case e0 => first | rfl | exact fI (by omega) | (simp_all)
                          case r0 => intro h hh; cases hh
                          case e4 => first | rfl | exact fI (by omega) | (simp_all)
                          case r4 => intro h hh; cases hh
                    · have hE := nlt_ge hb30
                      refine qo_q rfl (q_pickT rfl (by conv => lhs; whnf) ?_)
                      refine qo_q rfl (q_pickF rfl (by conv => lhs; whnf) ?_)
                      refine qo_nil ?_
                      refine ev_nil (hK24 _ ?_); clear hK24
                      refine good_condT rfl ?_
                      refine good_seq fun K32 hK32 => ?_
                      refine good_region rfl ?_
                      refine ev_q rfl (q_assign (by conv => lhs; whnf) ?_)
                      refine ev_nil (hK32 _ ?_); clear hK32
                      refine good_ret ?_
                      repeat (first | refine thenQ_ret ?_ | refine blockQ_ret ?_)
                      refine ret_tmp (st := _) rfl (by conv => lhs; whnf) rfl ?_
                      clear hK4 hK16 hK23
                      first | exact fT ⟨⟨⟨by omega, by omega⟩, by assumption, by omega⟩, all_finS (Q := fun j p => piAt ns ps j p) hJ (by omega)⟩ | exact fF (fun h => by have h1 := h.1; first | omega | (have := h1.2.1 _ _ hpk; omega)) | exact fF (net_no hpp (fun ⟨h1, h2⟩ => by first | exact absurd h1 (by assumption) | exact hE (h2 q (by omega) (by rw [← hq]; congr 1; omega))))
          · replace hb15 := dT hb15
            refine ev_q rfl (q_pickF rfl (by conv => lhs; whnf) ?_)
            refine ev_nil (hK9 _ ?_); clear hK9
            refine good_condT rfl ?_
            refine good_seq fun K33 hK33 => ?_
            refine good_region rfl ?_
            refine ev_q rfl (q_assign (by conv => lhs; whnf) ?_)
            refine ev_nil (hK33 _ ?_); clear hK33
            refine good_ret ?_
            repeat (first | refine thenQ_ret ?_ | refine blockQ_ret ?_)
            refine ret_tmp (st := _) rfl (by conv => lhs; whnf) rfl ?_
            clear hK4 hK8
            first | exact fT ⟨⟨⟨by omega, by omega⟩, by assumption, by omega⟩, all_finS (Q := fun j p => piAt ns ps j p) hJ (by omega)⟩ | exact fF (fun h => by have h1 := h.1; first | omega | (have := h1.2.1 _ _ hpk; omega)) | exact fF (net_no hpp (fun ⟨h1, h2⟩ => by first | exact absurd h1 (by assumption) | exact hE (h2 q (by omega) (by rw [← hq]; congr 1; omega))))
        · replace hb13 := dT hb13
          refine ev_q rfl (q_pickF rfl (by conv => lhs; whnf) ?_)
          refine ev_q rfl (q_move (by conv => lhs; whnf) ?_)
          refine ev_skip rfl ?_
          refine ev_skip rfl ?_
          refine ev_skip rfl ?_
          refine ev_skip rfl ?_
          refine ev_skip rfl ?_
          refine ev_skip rfl ?_
          refine ev_q rfl (q_pickT rfl (by conv => lhs; whnf) ?_)
          refine ev_nil (hK9 _ ?_); clear hK9
          refine good_condT rfl ?_
          refine good_seq fun K34 hK34 => ?_
          refine good_region rfl ?_
          refine ev_q rfl (q_assign (by conv => lhs; whnf) ?_)
          refine ev_nil (hK34 _ ?_); clear hK34
          refine good_ret ?_
          repeat (first | refine thenQ_ret ?_ | refine blockQ_ret ?_)
          refine ret_tmp (st := _) rfl (by conv => lhs; whnf) rfl ?_
          clear hK4 hK8
          first | exact fT ⟨⟨⟨by omega, by omega⟩, by assumption, by omega⟩, all_finS (Q := fun j p => piAt ns ps j p) hJ (by omega)⟩ | exact fF (fun h => by have h1 := h.1; first | omega | (have := h1.2.1 _ _ hpk; omega)) | exact fF (net_no hpp (fun ⟨h1, h2⟩ => by first | exact absurd h1 (by assumption) | exact hE (h2 q (by omega) (by rw [← hq]; congr 1; omega))))
      · replace hb11 := dT hb11
        refine ev_q rfl (q_move (by conv => lhs; whnf) ?_)
        refine ev_skip rfl ?_
        refine ev_skip rfl ?_
        refine ev_skip rfl ?_
        refine ev_skip rfl ?_
        refine ev_skip rfl ?_
        refine ev_skip rfl ?_
        refine ev_q rfl (q_pickT rfl (by conv => lhs; whnf) ?_)
        refine ev_q rfl (q_move (by conv => lhs; whnf) ?_)
        refine ev_skip rfl ?_
        refine ev_skip rfl ?_
        refine ev_skip rfl ?_
        refine ev_skip rfl ?_
        refine ev_skip rfl ?_
        refine ev_skip rfl ?_
        refine ev_q rfl (q_pickT rfl (by conv => lhs; whnf) ?_)
        refine ev_nil (hK9 _ ?_); clear hK9
        refine good_condT rfl ?_
        refine good_seq fun K35 hK35 => ?_
        refine good_region rfl ?_
        refine ev_q rfl (q_assign (by conv => lhs; whnf) ?_)
        refine ev_nil (hK35 _ ?_); clear hK35
        refine good_ret ?_
        repeat (first | refine thenQ_ret ?_ | refine blockQ_ret ?_)
        refine ret_tmp (st := _) rfl (by conv => lhs; whnf) rfl ?_
        clear hK4 hK8
        first | exact fT ⟨⟨⟨by omega, by omega⟩, by assumption, by omega⟩, all_finS (Q := fun j p => piAt ns ps j p) hJ (by omega)⟩ | exact fF (fun h => by have h1 := h.1; first | omega | (have := h1.2.1 _ _ hpk; omega)) | exact fF (net_no hpp (fun ⟨h1, h2⟩ => by first | exact absurd h1 (by assumption) | exact hE (h2 q (by omega) (by rw [← hq]; congr 1; omega))))
    · replace hb7 := dT hb7
      obtain ⟨pk, hpk⟩ := getL (xs := ns) (n := (k : Int)) (by omega) (by omega)
      replace hpk : ns[k]? = some pk := hpk
      refine ev_nil (hK5 _ ?_); clear hK5
      refine good_condT rfl ?_
      refine good_skip (hK4 _ ?_); clear hK4
      refine good_seq fun K36 hK36 => ?_
      refine good_block ?_
      refine good_seq fun K37 hK37 => ?_
      refine good_region rfl ?_
      refine ev_q rfl (q_move (by conv => lhs; whnf) ?_)
      refine ev_q rfl (q_nilCheck (by conv => lhs; whnf) rfl ?_)
      refine ev_q rfl (q_fieldAddr fO31_0 rfl rfl ?_)
      refine ev_q rfl (q_load tA22 rfl ?_)
      refine ev_q rfl (q_move (by conv => lhs; whnf) ?_)
      refine ev_q rfl (q_idx tE22 rfl rfl (by exact Int.natCast_nonneg _) (by exact map_get hpk) rfl ?_)
      refine ev_q rfl (q_load tA2 rfl ?_)
      refine ev_q rfl (q_callB rfl rfl (rfl) (D_spec_l00In ..) ?_)
      intro b38 hb38; cases b38
      · first | replace hb38 := dF hb38 | skip
        refine ev_q rfl (q_not rfl rfl ?_)
        refine ev_nil (hK37 _ ?_); clear hK37
        refine good_condT rfl ?_
        refine good_seq fun K39 hK39 => ?_
        refine good_region rfl ?_
        refine ev_q rfl (q_assign (by conv => lhs; whnf) ?_)
        refine ev_nil (hK39 _ ?_); clear hK39
        refine good_ret ?_
        repeat (first | refine thenQ_ret ?_ | refine blockQ_ret ?_)
        refine ret_tmp (st := _) rfl (by conv => lhs; whnf) rfl ?_
        clear hK2 hK36
        first | exact fT ⟨⟨⟨by omega, by omega⟩, by assumption, by omega⟩, all_finS (Q := fun j p => piAt ns ps j p) hJ (by omega)⟩ | exact fF (fun h => by have h1 := h.1; first | omega | (have := h1.2.1 _ _ hpk; omega)) | exact fF (net_no hpp (fun ⟨h1, h2⟩ => by first | exact absurd h1 (by assumption) | exact hE (h2 q (by omega) (by rw [← hq]; congr 1; omega))))
      · first | replace hb38 := dT hb38 | skip
        refine ev_q rfl (q_not rfl rfl ?_)
        refine ev_nil (hK37 _ ?_); clear hK37
        refine good_condF rfl ?_
        refine good_skip (hK36 _ ?_); clear hK36
        refine good_region rfl ?_
        refine ev_q rfl (q_move (by conv => lhs; whnf) ?_)
        refine ev_q rfl (q_int rfl rfl ?_)
        intro n40 hn40
        replace hn40 := in64 hn40 (by omega) (by omega)
        refine ev_q rfl (q_assign (by conv => lhs; whnf) ?_)
        refine ev_nil ?_
        clear hK2
        refine ⟨k + 1, ?_, ?_, ?_⟩
        · exact ⟨by omega, all_extI (Q := fun _ q => (-100000) ≤ q ∧ q ≤ 100000) hJk hpk (by omega)⟩
        · first | omega | (simp only []; omega) | (dsimp only; omega)
        · refine sub_weak ?_ ?_
          · exact weakH_none _
          · refine weakE_upd ?e3 ?r3 (weakE_upd ?e0 ?r0 (weakE_junk _ _))
            case e0 => first | rfl | exact fI (by omega) | (simp_all)
            case r0 => intro h hh; cases hh
            case e3 => first | rfl | exact fI (by omega) | (simp_all)
            case r3 => intro h hh; cases hh

-- slices.insertionSortCmpFunc[int64]
set_option maxRecDepth 20000 in
set_option maxHeartbeats 2000000 in
theorem D_slices_insertionSortCmpFunc_X (f : Nat) (caps : List AV) (K : Int → Int) (cf : Int → Int → Int) (n : Nat) (b : Int) (hn : n ≤ 1000) (hf : ∀ x y : Int, 0 ≤ x → x < n → 0 ≤ y → y < n → Den Try.prog f (ci x :: ci y :: caps) (.s (.int .i64 (cf x y)))) (hcf : ∀ x y : Int, cf x y < 0 ↔ K y < K x) (hbn : b = (n : Int)) : DenX Try.prog 75 [(1000000, .row 2 1 ((iot n).map ci))] [.own 1000000 n, .s (.int .i64 0), .s (.int .i64 b), .fn f caps] [(1000000, .row 2 1 ((wl K n).map ci))] (.tup []) := by
  refine denX_of_good Try.func75 (by decide) rfl (Nat.le_of_ble_eq_true rfl) (Nat.le_of_ble_eq_true rfl) rfl ?_
  refine good_seq fun K1 hK1 => ?_
  refine good_region rfl ?_
  refine ev_q rfl (q_move (by conv => lhs; whnf) ?_)
  refine ev_q rfl (q_int rfl rfl ?_)
  intro n2 hn2
  replace hn2 := in64 hn2 (by omega) (by omega)
  refine ev_q rfl (q_assign (by conv => lhs; whnf) ?_)
  refine ev_nil (hK1 _ ?_); clear hK1
  refine good_block ?_
  refine good_loop (α := List Int × Nat) (fun (S, i) => { env := upd (upd (upd (upd (upd ((fun _ => .junk)) 0 (.own 1000000 n)) 1 (.s (.int .i64 0))) 2 (.s (.int .i64 b))) 3 (.fn f caps)) 8 (.s (.int .i64 ((i : Int)))), H := upd ((fun _ => none)) 1000000 (some (.row 2 1 ((rowS S n).map ci))) }) (fun (S, i) => ((1 ≤ S.length ∧ i = S.length ∧ i ≤ n) ∨ (n = 0 ∧ i = 1 ∧ S.length = 0)) ∧ insOk K S) (fun (S, i) => n - i) (if n = 0 then [] else [0], 1) ?_ ?_ ?_
  · exact ⟨by by_cases h : n = 0 <;> simp [h] <;> omega, iot_ok0⟩
  · refine sub_weak ?_ ?_
    · exact weakH_row (rowEq (by rw [← rowS_x0])) (weakH_none _)
    · refine weakE_upd ?e8 ?r8 (weakE_upd ?e3 ?r3 (weakE_upd ?e2 ?r2 (weakE_upd ?e1 ?r1 (weakE_upd ?e0 ?r0 (weakE_junk _ _)))))
      case e0 => first | rfl | exact fI (by omega) | (simp_all)
      case r0 => intro h hh; simp [refs] at hh; subst hh; rfl
      case e1 => first | rfl | exact fI (by omega) | (simp_all)
      case r1 => intro h hh; cases hh
      case e2 => first | rfl | exact fI (by omega) | (simp_all)
      case r2 => intro h hh; cases hh
      case e3 => first | rfl | exact fI (by omega) | (simp_all)
      case r3 => intro h hh; cases hh
      case e8 => first | rfl | exact fI (by omega) | (simp_all)
      case r8 => intro h hh; cases hh
  · rintro ⟨S, i⟩ ⟨hI, hS⟩
    refine good_seq fun K3 hK3 => ?_
    refine good_seq fun K4 hK4 => ?_
    refine good_region rfl ?_
    refine ev_q rfl (q_move (by conv => lhs; whnf) ?_)
    refine ev_q rfl (q_move (by conv => lhs; whnf) ?_)
    refine ev_q rfl (q_int rfl rfl ?_)
    intro b5 hb5; cases b5
    · replace hb5 := dF hb5
      refine ev_nil (hK4 _ ?_); clear hK4
      refine good_condF rfl ?_
      refine good_exit ?_
      repeat (first | refine thenQ_exit ?_ | refine blockQ_pass rfl ?_)
      refine blockQ_exit ?_
      refine fx_many rfl ?_
      refine fx_nil ?_
      clear hK3
      exact ⟨_, .tup (.nil), weakH_row (rowEq (by rw [rowS_full (by omega), wl_eq hS (by omega)])) (weakH_none _), refsIn_ok rfl⟩
    · replace hb5 := dT hb5
      refine ev_nil (hK4 _ ?_); clear hK4
      refine good_condT rfl ?_
      refine good_skip (hK3 _ ?_); clear hK3
      refine good_seq fun K6 hK6 => ?_
      refine good_block ?_
      refine good_seq fun K7 hK7 => ?_
      refine good_region rfl ?_
      refine ev_q rfl (q_move (by conv => lhs; whnf) ?_)
      refine ev_q rfl (q_assign (by conv => lhs; whnf) ?_)
      refine ev_nil (hK7 _ ?_); clear hK7
      refine good_block ?_
      refine good_loop (α := List Int × List Int) (fun (A, B) => { env := upd (upd (upd (upd (upd (upd ((fun _ => .junk)) 0 (.own 1000000 n)) 1 (.s (.int .i64 0))) 2 (.s (.int .i64 b))) 3 (.fn f caps)) 8 (.s (.int .i64 ((i : Int))))) 9 (.s (.int .i64 ((A.length : Int)))), H := upd ((fun _ => none)) 1000000 (some (.row 2 1 ((rowAB A B n).map ci))) }) (fun (A, B) => (A.length + B.length = i ∧ insOk K (A ++ B)) ∧ ∀ x ∈ B, K x < K i) (fun (A, B) => A.length) (S, []) ?_ ?_ ?_
      · exact ⟨⟨by simp only [List.length_nil]; omega, by simpa using hS⟩, fun x hx => by cases hx⟩
      · refine sub_weak ?_ ?_
        · exact weakH_row (rowEq (by rw [rowS_AB (by omega)])) (weakH_none _)
        · refine weakE_upd ?e9 ?r9 (weakE_upd ?e8 ?r8 (weakE_upd ?e3 ?r3 (weakE_upd ?e2 ?r2 (weakE_upd ?e1 ?r1 (weakE_upd ?e0 ?r0 (weakE_junk _ _))))))
          case e0 => first | rfl | exact fI (by omega) | (simp_all)
          case r0 => intro h hh; simp [refs] at hh; subst hh; rfl
          case e1 => first | rfl | exact fI (by omega) | (simp_all)
          case r1 => intro h hh; cases hh
          case e2 => first | rfl | exact fI (by omega) | (simp_all)
          case r2 => intro h hh; cases hh
          case e3 => first | rfl | exact fI (by omega) | (simp_all)
          case r3 => intro h hh; cases hh
          case e8 => first | rfl | exact fI (by omega) | (simp_all)
          case r8 => intro h hh; cases hh
          case e9 => first | rfl | exact fI (by omega) | (simp_all)
          case r9 => intro h hh; cases hh
      · rintro ⟨A, B⟩ ⟨hJ, hB⟩
        refine good_seq fun K8 hK8 => ?_
        refine good_seq fun K9 hK9 => ?_
        refine good_draw 17 hmix (by kernel_rfl) rfl ?_
        refine qo_q rfl (q_move (by conv => lhs; whnf) ?_)
        refine qo_q rfl (q_move (by conv => lhs; whnf) ?_)
        refine qo_q rfl (q_int rfl rfl ?_)
        intro b10 hb10; cases b10
        · replace hb10 := dF hb10
          have hend := ins_end hJ.1 hJ.2 hB (.inl (by omega))
          refine qo_q rfl (q_move (by conv => lhs; whnf) ?_)
          refine qo_skip rfl ?_
          refine qo_skip rfl ?_
          refine qo_skip rfl ?_
          refine qo_skip rfl ?_
          refine qo_skip rfl ?_
          refine qo_skip rfl ?_
          refine qo_skip rfl ?_
          refine qo_skip rfl ?_
          refine qo_skip rfl ?_
          refine qo_skip rfl ?_
          refine qo_skip rfl ?_
          refine qo_skip rfl ?_
          refine qo_q rfl (q_pickF rfl (by conv => lhs; whnf) ?_)
          refine qo_nil ?_
          refine ev_nil (hK9 _ ?_); clear hK9
          refine good_condF rfl ?_
          refine good_exit ?_
          repeat (first | refine thenQ_exit ?_ | refine blockQ_pass rfl ?_)
          refine blockQ_exit (hK6 _ ?_); clear hK6
          refine good_region rfl ?_
          refine ev_q rfl (q_move (by conv => lhs; whnf) ?_)
          refine ev_q rfl (q_int rfl rfl ?_)
          intro n11 hn11
          replace hn11 := in64 hn11 (by omega) (by omega)
          refine ev_q rfl (q_assign (by conv => lhs; whnf) ?_)
          refine ev_nil ?_
          clear hK8
          refine ⟨(A ++ (i : Int) :: B, i + 1), ?_, ?_, ?_⟩
          · exact ⟨.inl (by simp; omega), hend⟩
          · first | omega | (dsimp only; omega)
          · refine sub_weak ?_ ?_
            · exact weakH_row (rowEq (by rw [rowAB_S, hJ.1])) (weakH_none _)
            · refine weakE_upd ?e8 ?r8 (weakE_upd ?e3 ?r3 (weakE_upd ?e2 ?r2 (weakE_upd ?e1 ?r1 (weakE_upd ?e0 ?r0 (weakE_junk _ _)))))
              case e0 => first | rfl | exact fI (by omega) | (simp_all)
              case r0 => intro h hh; simp [refs] at hh; subst hh; rfl
              case e1 => first | rfl | exact fI (by omega) | (simp_all)
              case r1 => intro h hh; cases hh
              case e2 => first | rfl | exact fI (by omega) | (simp_all)
              case r2 => intro h hh; cases hh
              case e3 => first | rfl | exact fI (by omega) | (simp_all)
              case r3 => intro h hh; cases hh
              case e8 => first | rfl | exact fI (by omega) | (simp_all)
              case r8 => intro h hh; cases hh
        · replace hb10 := dT hb10
          obtain ⟨A', a, hAe⟩ := last_ex (A := A) (by omega)
          have hal : A.length = A'.length + 1 := by rw [hAe]; simp
          have hab := ins_mem hJ.2 (x := a) (by rw [hAe]; simp)
          have hlen : (A ++ B).length = i := by rw [List.length_append]; exact hJ.1
          refine qo_q rfl (q_move (by conv => lhs; whnf) ?_)
          refine qo_q rfl (q_move (by conv => lhs; whnf) ?_)
          refine qo_q rfl (q_move (by conv => lhs; whnf) ?_)
          refine qo_q rfl (q_move (by conv => lhs; whnf) ?_)
          refine qo_q rfl (q_idxO tE22 rfl rfl rfl (by omega) (by omega) rfl ?_)
          refine qo_q rfl (q_loadE tA2 rfl rfl (by exact map_get rowAB_v) rfl ?_)
          refine qo_q rfl (q_move (by conv => lhs; whnf) ?_)
          refine qo_q rfl (q_move (by conv => lhs; whnf) ?_)
          refine qo_q rfl (q_int rfl rfl ?_)
          intro n12 hn12
          replace hn12 := in64 hn12 (by omega) (by omega)
          have en : n12.toNat = A'.length := by omega
          have hea : (rowAB A B n)[n12.toNat]? = some a := rowAB_a hAe en
          refine qo_q rfl (q_idxO tE22 rfl rfl rfl (by omega) (by omega) rfl ?_)
          refine qo_q rfl (q_loadE tA2 rfl rfl (by exact map_get hea) rfl ?_)
          refine qo_q rfl (q_callI rfl rfl (rfl) (hf _ _ (by omega) (by omega) (by omega) (by omega)) ?_)
          intro n13 hn13
          refine qo_q rfl (q_int rfl rfl ?_)
          intro b14 hb14; cases b14
          · replace hb14 := dF hb14
            have hend := ins_end hJ.1 hJ.2 hB (.inr ⟨A', a, hAe, fun h => by have h2 := (hcf ((A.length + B.length : Nat) : Int) a).2 (by rw [hJ.1]; exact h); omega⟩)
            refine qo_q rfl (q_pickT rfl (by conv => lhs; whnf) ?_)
            refine qo_nil ?_
            refine ev_nil (hK9 _ ?_); clear hK9
            refine good_condF rfl ?_
            refine good_exit ?_
            repeat (first | refine thenQ_exit ?_ | refine blockQ_pass rfl ?_)
            refine blockQ_exit (hK6 _ ?_); clear hK6
            refine good_region rfl ?_
            refine ev_q rfl (q_move (by conv => lhs; whnf) ?_)
            refine ev_q rfl (q_int rfl rfl ?_)
            intro n15 hn15
            replace hn15 := in64 hn15 (by omega) (by omega)
            refine ev_q rfl (q_assign (by conv => lhs; whnf) ?_)
            refine ev_nil ?_
            clear hK8
            refine ⟨(A ++ (i : Int) :: B, i + 1), ?_, ?_, ?_⟩
            · exact ⟨.inl (by simp; omega), hend⟩
            · first | omega | (dsimp only; omega)
            · refine sub_weak ?_ ?_
              · exact weakH_row (rowEq (by rw [rowAB_S, hJ.1])) (weakH_none _)
              · refine weakE_upd ?e8 ?r8 (weakE_upd ?e3 ?r3 (weakE_upd ?e2 ?r2 (weakE_upd ?e1 ?r1 (weakE_upd ?e0 ?r0 (weakE_junk _ _)))))
                case e0 => first | rfl | exact fI (by omega) | (simp_all)
                case r0 => intro h hh; simp [refs] at hh; subst hh; rfl
                case e1 => first | rfl | exact fI (by omega) | (simp_all)
                case r1 => intro h hh; cases hh
                case e2 => first | rfl | exact fI (by omega) | (simp_all)
                case r2 => intro h hh; cases hh
                case e3 => first | rfl | exact fI (by omega) | (simp_all)
                case r3 => intro h hh; cases hh
                case e8 => first | rfl | exact fI (by omega) | (simp_all)
                case r8 => intro h hh; cases hh
          · replace hb14 := dT hb14
            have hka : K a < K ((A.length + B.length : Nat) : Int) := (hcf _ _).1 (by omega)
            refine qo_q rfl (q_pickT rfl (by conv => lhs; whnf) ?_)
            refine qo_nil ?_
            refine ev_nil (hK9 _ ?_); clear hK9
            refine good_condT rfl ?_
            refine good_skip (hK8 _ ?_); clear hK8
            refine good_seq fun K16 hK16 => ?_
            refine good_block ?_
            refine good_any 18 (listed := #[false, false, false, false, false, false, false, false, false, false, false, false, false, false, false, false, false, false]) rfl rfl hmix rfl ?_
            refine tn_first_q (i := 0) (listed' := #[true, false, false, false, false, false, false, false, false, false, false, false, false, false, false, false, false, false]) rfl rfl (by kernel_rfl) rfl (q_move (by conv => lhs; whnf) ?_)
            refine tn_first_q (i := 1) (listed' := #[true, true, false, false, false, false, false, false, false, false, false, false, false, false, false, false, false, false]) rfl rfl (by kernel_rfl) rfl (q_move (by conv => lhs; whnf) ?_)
            refine tn_first_q (i := 5) (listed' := #[true, true, false, false, false, true, false, false, false, false, false, false, false, false, false, false, false, false]) rfl rfl (by kernel_rfl) rfl (q_move (by conv => lhs; whnf) ?_)
            refine tn_first_q (i := 6) (listed' := #[true, true, false, false, false, true, true, false, false, false, false, false, false, false, false, false, false, false]) rfl rfl (by kernel_rfl) rfl (q_move (by conv => lhs; whnf) ?_)
            refine tn_first_q (i := 7) (listed' := #[true, true, false, false, false, true, true, true, false, false, false, false, false, false, false, false, false, false]) rfl rfl (by kernel_rfl) rfl (q_int rfl rfl ?_)
            intro n17 hn17
            replace hn17 := in64 hn17 (by omega) (by omega)
            have en2 : n17.toNat = A'.length := by omega
            have hea2 : (rowAB A B n)[n17.toNat]? = some a := rowAB_a hAe en2
            refine tn_first_q (i := 8) (listed' := #[true, true, false, false, false, true, true, true, true, false, false, false, false, false, false, false, false, false]) rfl rfl (by kernel_rfl) rfl (q_idxO tE22 rfl rfl rfl (by omega) (by omega) rfl ?_)
            refine tn_first_q (i := 9) (listed' := #[true, true, false, false, false, true, true, true, true, true, false, false, false, false, false, false, false, false]) rfl rfl (by kernel_rfl) rfl (q_loadE tA2 rfl rfl (by exact map_get hea2) rfl ?_)
            refine tn_first_q (i := 10) (listed' := #[true, true, false, false, false, true, true, true, true, true, true, false, false, false, false, false, false, false]) rfl rfl (by kernel_rfl) rfl (q_move (by conv => lhs; whnf) ?_)
            refine tn_first_q (i := 11) (listed' := #[true, true, false, false, false, true, true, true, true, true, true, true, false, false, false, false, false, false]) rfl rfl (by kernel_rfl) rfl (q_move (by conv => lhs; whnf) ?_)
            refine tn_first_q (i := 12) (listed' := #[true, true, false, false, false, true, true, true, true, true, true, true, true, false, false, false, false, false]) rfl rfl (by kernel_rfl) rfl (q_idxO tE22 rfl rfl rfl (by omega) (by omega) rfl ?_)
            refine tn_first_q (i := 13) (listed' := #[true, true, false, false, false, true, true, true, true, true, true, true, true, true, false, false, false, false]) rfl rfl (by kernel_rfl) rfl (q_loadE tA2 rfl rfl (by exact map_get rowAB_v) rfl ?_)
            refine tn_first_q (i := 14) (listed' := #[true, true, false, false, false, true, true, true, true, true, true, true, true, true, true, false, false, false]) rfl rfl (by kernel_rfl) rfl (q_idxO tE22 rfl rfl rfl (by omega) (by omega) rfl ?_)
            refine tn_step [2, 3, 15] (by kernel_rfl) rfl ?_
            refine ⟨?_, ?_, ?_, trivial⟩
            · refine tn_q (listed' := #[true, true, true, false, false, true, true, true, true, true, true, true, true, true, true, false, false, false]) rfl rfl rfl (q_move (by conv => lhs; whnf) ?_)
              refine tn_step [3, 15] (by kernel_rfl) rfl ?_
              refine ⟨?_, ?_, trivial⟩
              · refine tn_q (listed' := #[true, true, true, true, false, true, true, true, true, true, true, true, true, true, true, false, false, false]) rfl rfl rfl (q_move (by conv => lhs; whnf) ?_)
                refine tn_step [4, 15] (by kernel_rfl) rfl ?_
                refine ⟨?_, ?_, trivial⟩
                · refine tn_q (listed' := #[true, true, true, true, true, true, true, true, true, true, true, true, true, true, true, false, false, false]) rfl rfl rfl (q_int rfl rfl ?_)
                  intro n18 hn18
                  replace hn18 := in64 hn18 (by omega) (by omega)
                  refine tn_step [15] (by kernel_rfl) rfl ?_
                  refine ⟨?_, trivial⟩
                  · refine tn_k (listed' := #[true, true, true, true, true, true, true, true, true, true, true, true, true, true, true, true, false, false]) rfl rfl rfl rfl (k_storeE sz2 rfl (by conv => lhs; whnf) rfl rfl rfl (Nat.le_of_ble_eq_true rfl) rfl (by exact map_get rowAB_v) (Nat.le_of_ble_eq_true rfl) rfl ?_)
                    have en3 : n18.toNat = A'.length := by omega
                    have hea3 : (rowAB A B n)[n18.toNat]? = some a := rowAB_a hAe en3
                    refine tn_first_q (i := 16) (listed' := #[true, true, true, true, true, true, true, true, true, true, true, true, true, true, true, true, true, false]) rfl rfl (by kernel_rfl) rfl (q_idxO tE22 rfl rfl rfl (by omega) (by omega) rfl ?_)
                    refine tn_step [17] (by kernel_rfl) rfl ?_
                    refine ⟨?_, trivial⟩
                    · refine tn_k (listed' := #[true, true, true, true, true, true, true, true, true, true, true, true, true, true, true, true, true, true]) rfl rfl rfl rfl (k_storeE sz2 rfl (by conv => lhs; whnf) rfl rfl rfl (Nat.le_of_ble_eq_true rfl) rfl (by rw [List.getElem?_set_ne (by omega)]; exact map_get hea3) (Nat.le_of_ble_eq_true rfl) rfl ?_)
                      refine tn_end (by kernel_rfl) (hK16 _ ?_); clear hK16
                      refine good_region rfl ?_
                      refine ev_q rfl (q_move (by conv => lhs; whnf) ?_)
                      refine ev_q rfl (q_int rfl rfl ?_)
                      intro n19 hn19
                      replace hn19 := in64 hn19 (by omega) (by omega)
                      refine ev_q rfl (q_assign (by conv => lhs; whnf) ?_)
                      refine ev_nil ?_
                      clear hK6
                      refine ⟨(A', a :: B), ?_, ?_, ?_⟩
                      · exact ⟨⟨by simp only [List.length_cons]; omega, by have h2 := hJ.2; rw [hAe] at h2; simpa using h2⟩, fun x hx => (List.mem_cons.1 hx).elim (fun e => by rw [e, ← hJ.1]; exact hka) (fun e => hB x e)⟩
                      · first | omega | (dsimp only; omega)
                      · refine sub_weak ?_ ?_
                        · exact weakH_row (rowEq (by exact rowAB_sw hAe en3)) (weakH_none _)
                        · refine weakE_upd ?e9 ?r9 (weakE_upd ?e8 ?r8 (weakE_upd ?e3 ?r3 (weakE_upd ?e2 ?r2 (weakE_upd ?e1 ?r1 (weakE_upd ?e0 ?r0 (weakE_junk _ _))))))
                          case e0 => first | rfl | exact fI (by omega) | (simp_all)
                          case r0 => intro h hh; simp [refs] at hh; subst hh; rfl
                          case e1 => first | rfl | exact fI (by omega) | (simp_all)
                          case r1 => intro h hh; cases hh
                          case e2 => first | rfl | exact fI (by omega) | (simp_all)
                          case r2 => intro h hh; cases hh
                          case e3 => first | rfl | exact fI (by omega) | (simp_all)
                          case r3 => intro h hh; cases hh
                          case e8 => first | rfl | exact fI (by omega) | (simp_all)
                          case r8 => intro h hh; cases hh
                          case e9 => first | rfl | exact fI (by omega) | (simp_all)
                          case r9 => intro h hh; cases hh
                · refine tn_k (listed' := #[true, true, true, true, false, true, true, true, true, true, true, true, true, true, true, true, false, false]) rfl rfl rfl rfl (k_storeE sz2 rfl (by conv => lhs; whnf) rfl rfl rfl (Nat.le_of_ble_eq_true rfl) rfl (by exact map_get rowAB_v) (Nat.le_of_ble_eq_true rfl) rfl ?_)
                  refine tn_first_q (i := 4) (listed' := #[true, true, true, true, true, true, true, true, true, true, true, true, true, true, true, true, false, false]) rfl rfl (by kernel_rfl) rfl (q_int rfl rfl ?_)
                  intro n20 hn20
                  replace hn20 := in64 hn20 (by omega) (by omega)
                  have en3 : n20.toNat = A'.length := by omega
                  have hea3 : (rowAB A B n)[n20.toNat]? = some a := rowAB_a hAe en3
                  refine tn_first_q (i := 16) (listed' := #[true, true, true, true, true, true, true, true, true, true, true, true, true, true, true, true, true, false]) rfl rfl (by kernel_rfl) rfl (q_idxO tE22 rfl rfl rfl (by omega) (by omega) rfl ?_)
                  refine tn_step [17] (by kernel_rfl) rfl ?_
                  refine ⟨?_, trivial⟩
                  · refine tn_k (listed' := #[true, true, true, true, true, true, true, true, true, true, true, true, true, true, true, true, true, true]) rfl rfl rfl rfl (k_storeE sz2 rfl (by conv => lhs; whnf) rfl rfl rfl (Nat.le_of_ble_eq_true rfl) rfl (by rw [List.getElem?_set_ne (by omega)]; exact map_get hea3) (Nat.le_of_ble_eq_true rfl) rfl ?_)
                    refine tn_end (by kernel_rfl) (hK16 _ ?_); clear hK16
                    refine good_region rfl ?_
                    refine ev_q rfl (q_move (by conv => lhs; whnf) ?_)
                    refine ev_q rfl (q_int rfl rfl ?_)
                    intro n21 hn21
                    replace hn21 := in64 hn21 (by omega) (by omega)
                    refine ev_q rfl (q_assign (by conv => lhs; whnf) ?_)
                    refine ev_nil ?_
                    clear hK6
                    refine ⟨(A', a :: B), ?_, ?_, ?_⟩
                    · exact ⟨⟨by simp only [List.length_cons]; omega, by have h2 := hJ.2; rw [hAe] at h2; simpa using h2⟩, fun x hx => (List.mem_cons.1 hx).elim (fun e => by rw [e, ← hJ.1]; exact hka) (fun e => hB x e)⟩
                    · first | omega | (dsimp only; omega)
                    · refine sub_weak ?_ ?_
                      · exact weakH_row (rowEq (by exact rowAB_sw hAe en3)) (weakH_none _)
                      · refine weakE_upd ?e9 ?r9 (weakE_upd ?e8 ?r8 (weakE_upd ?e3 ?r3 (weakE_upd ?e2 ?r2 (weakE_upd ?e1 ?r1 (weakE_upd ?e0 ?r0 (weakE_junk _ _))))))
                        case e0 => first | rfl | exact fI (by omega) | (simp_all)
                        case r0 => intro h hh; simp [refs] at hh; subst hh; rfl
                        case e1 => first | rfl | exact fI (by omega) | (simp_all)
                        case r1 => intro h hh; cases hh
                        case e2 => first | rfl | exact fI (by omega) | (simp_all)
                        case r2 => intro h hh; cases hh
                        case e3 => first | rfl | exact fI (by omega) | (simp_all)
                        case r3 => intro h hh; cases hh
                        case e8 => first | rfl | exact fI (by omega) | (simp_all)
                        case r8 => intro h hh; cases hh
                        case e9 => first | rfl | exact fI (by omega) | (simp_all)
                        case r9 => intro h hh; cases hh
              · refine tn_k (listed' := #[true, true, true, false, false, true, true, true, true, true, true, true, true, true, true, true, false, false]) rfl rfl rfl rfl (k_storeE sz2 rfl (by conv => lhs; whnf) rfl rfl rfl (Nat.le_of_ble_eq_true rfl) rfl (by exact map_get rowAB_v) (Nat.le_of_ble_eq_true rfl) rfl ?_)
                refine tn_first_q (i := 3) (listed' := #[true, true, true, true, false, true, true, true, true, true, true, true, true, true, true, true, false, false]) rfl rfl (by kernel_rfl) rfl (q_move (by conv => lhs; whnf) ?_)
                refine tn_first_q (i := 4) (listed' := #[true, true, true, true, true, true, true, true, true, true, true, true, true, true, true, true, false, false]) rfl rfl (by kernel_rfl) rfl (q_int rfl rfl ?_)
                intro n22 hn22
                replace hn22 := in64 hn22 (by omega) (by omega)
                have en3 : n22.toNat = A'.length := by omega
                have hea3 : (rowAB A B n)[n22.toNat]? = some a := rowAB_a hAe en3
                refine tn_first_q (i := 16) (listed' := #[true, true, true, true, true, true, true, true, true, true, true, true, true, true, true, true, true, false]) rfl rfl (by kernel_rfl) rfl (q_idxO tE22 rfl rfl rfl (by omega) (by omega) rfl ?_)
                refine tn_step [17] (by kernel_rfl) rfl ?_
                refine ⟨?_, trivial⟩
                · refine tn_k (listed' := #[true, true, true, true, true, true, true, true, true, true, true, true, true, true, true, true, true, true]) rfl rfl rfl rfl (k_storeE sz2 rfl (by conv => lhs; whnf) rfl rfl rfl (Nat.le_of_ble_eq_true rfl) rfl (by rw [List.getElem?_set_ne (by omega)]; exact map_get hea3) (Nat.le_of_ble_eq_true rfl) rfl ?_)
                  refine tn_end (by kernel_rfl) (hK16 _ ?_); clear hK16
                  refine good_region rfl ?_
                  refine ev_q rfl (q_move (by conv => lhs; whnf) ?_)
                  refine ev_q rfl (q_int rfl rfl ?_)
                  intro n23 hn23
                  replace hn23 := in64 hn23 (by omega) (by omega)
                  refine ev_q rfl (q_assign (by conv => lhs; whnf) ?_)
                  refine ev_nil ?_
                  clear hK6
                  refine ⟨(A', a :: B), ?_, ?_, ?_⟩
                  · exact ⟨⟨by simp only [List.length_cons]; omega, by have h2 := hJ.2; rw [hAe] at h2; simpa using h2⟩, fun x hx => (List.mem_cons.1 hx).elim (fun e => by rw [e, ← hJ.1]; exact hka) (fun e => hB x e)⟩
                  · first | omega | (dsimp only; omega)
                  · refine sub_weak ?_ ?_
                    · exact weakH_row (rowEq (by exact rowAB_sw hAe en3)) (weakH_none _)
                    · refine weakE_upd ?e9 ?r9 (weakE_upd ?e8 ?r8 (weakE_upd ?e3 ?r3 (weakE_upd ?e2 ?r2 (weakE_upd ?e1 ?r1 (weakE_upd ?e0 ?r0 (weakE_junk _ _))))))
                      case e0 => first | rfl | exact fI (by omega) | (simp_all)
                      case r0 => intro h hh; simp [refs] at hh; subst hh; rfl
                      case e1 => first | rfl | exact fI (by omega) | (simp_all)
                      case r1 => intro h hh; cases hh
                      case e2 => first | rfl | exact fI (by omega) | (simp_all)
                      case r2 => intro h hh; cases hh
                      case e3 => first | rfl | exact fI (by omega) | (simp_all)
                      case r3 => intro h hh; cases hh
                      case e8 => first | rfl | exact fI (by omega) | (simp_all)
                      case r8 => intro h hh; cases hh
                      case e9 => first | rfl | exact fI (by omega) | (simp_all)
                      case r9 => intro h hh; cases hh
            · refine tn_q (listed' := #[true, true, false, true, false, true, true, true, true, true, true, true, true, true, true, false, false, false]) rfl rfl rfl (q_move (by conv => lhs; whnf) ?_)
              refine tn_step [2, 4, 15] (by kernel_rfl) rfl ?_
              refine ⟨?_, ?_, ?_, trivial⟩
              · refine tn_q (listed' := #[true, true, true, true, false, true, true, true, true, true, true, true, true, true, true, false, false, false]) rfl rfl rfl (q_move (by conv => lhs; whnf) ?_)
                refine tn_step [4, 15] (by kernel_rfl) rfl ?_
                refine ⟨?_, ?_, trivial⟩
                · refine tn_q (listed' := #[true, true, true, true, true, true, true, true, true, true, true, true, true, true, true, false, false, false]) rfl rfl rfl (q_int rfl rfl ?_)
                  intro n24 hn24
                  replace hn24 := in64 hn24 (by omega) (by omega)
                  refine tn_step [15] (by kernel_rfl) rfl ?_
                  refine ⟨?_, trivial⟩
                  · refine tn_k (listed' := #[true, true, true, true, true, true, true, true, true, true, true, true, true, true, true, true, false, false]) rfl rfl rfl rfl (k_storeE sz2 rfl (by conv => lhs; whnf) rfl rfl rfl (Nat.le_of_ble_eq_true rfl) rfl (by exact map_get rowAB_v) (Nat.le_of_ble_eq_true rfl) rfl ?_)
                    have en3 : n24.toNat = A'.length := by omega
                    have hea3 : (rowAB A B n)[n24.toNat]? = some a := rowAB_a hAe en3
                    refine tn_first_q (i := 16) (listed' := #[true, true, true, true, true, true, true, true, true, true, true, true, true, true, true, true, true, false]) rfl rfl (by kernel_rfl) rfl (q_idxO tE22 rfl rfl rfl (by omega) (by omega) rfl ?_)
                    refine tn_step [17] (by kernel_rfl) rfl ?_
                    refine ⟨?_, trivial⟩
                    · refine tn_k (listed' := #[true, true, true, true, true, true, true, true, true, true, true, true, true, true, true, true, true, true]) rfl rfl rfl rfl (k_storeE sz2 rfl (by conv => lhs; whnf) rfl rfl rfl (Nat.le_of_ble_eq_true rfl) rfl (by rw [List.getElem?_set_ne (by omega)]; exact map_get hea3) (Nat.le_of_ble_eq_true rfl) rfl ?_)
                      refine tn_end (by kernel_rfl) (hK16 _ ?_); clear hK16
                      refine good_region rfl ?_
                      refine ev_q rfl (q_move (by conv => lhs; whnf) ?_)
                      refine ev_q rfl (q_int rfl rfl ?_)
                      intro n25 hn25
                      replace hn25 := in64 hn25 (by omega) (by omega)
                      refine ev_q rfl (q_assign (by conv => lhs; whnf) ?_)
                      refine ev_nil ?_
                      clear hK6
                      refine ⟨(A', a :: B), ?_, ?_, ?_⟩
                      · exact ⟨⟨by simp only [List.length_cons]; omega, by have h2 := hJ.2; rw [hAe] at h2; simpa using h2⟩, fun x hx => (List.mem_cons.1 hx).elim (fun e => by rw [e, ← hJ.1]; exact hka) (fun e => hB x e)⟩
                      · first | omega | (dsimp only; omega)
                      · refine sub_weak ?_ ?_
                        · exact weakH_row (rowEq (by exact rowAB_sw hAe en3)) (weakH_none _)
                        · refine weakE_upd ?e9 ?r9 (weakE_upd ?e8 ?r8 (weakE_upd ?e3 ?r3 (weakE_upd ?e2 ?r2 (weakE_upd ?e1 ?r1 (weakE_upd ?e0 ?r0 (weakE_junk _ _))))))
                          case e0 => first | rfl | exact fI (by omega) | (simp_all)
                          case r0 => intro h hh; simp [refs] at hh; subst hh; rfl
                          case e1 => first | rfl | exact fI (by omega) | (simp_all)
                          case r1 => intro h hh; cases hh
                          case e2 => first | rfl | exact fI (by omega) | (simp_all)
                          case r2 => intro h hh; cases hh
                          case e3 => first | rfl | exact fI (by omega) | (simp_all)
                          case r3 => intro h hh; cases hh
                          case e8 => first | rfl | exact fI (by omega) | (simp_all)
                          case r8 => intro h hh; cases hh
                          case e9 => first | rfl | exact fI (by omega) | (simp_all)
                          case r9 => intro h hh; cases hh
                · refine tn_k (listed' := #[true, true, true, true, false, true, true, true, true, true, true, true, true, true, true, true, false, false]) rfl rfl rfl rfl (k_storeE sz2 rfl (by conv => lhs; whnf) rfl rfl rfl (Nat.le_of_ble_eq_true rfl) rfl (by exact map_get rowAB_v) (Nat.le_of_ble_eq_true rfl) rfl ?_)
                  refine tn_first_q (i := 4) (listed' := #[true, true, true, true, true, true, true, true, true, true, true, true, true, true, true, true, false, false]) rfl rfl (by kernel_rfl) rfl (q_int rfl rfl ?_)
                  intro n26 hn26
                  replace hn26 := in64 hn26 (by omega) (by omega)
                  have en3 : n26.toNat = A'.length := by omega
                  have hea3 : (rowAB A B n)[n26.toNat]? = some a := rowAB_a hAe en3
                  refine tn_first_q (i := 16) (listed' := #[true, true, true, true, true, true, true, true, true, true, true, true, true, true, true, true, true, false]) rfl rfl (by kernel_rfl) rfl (q_idxO tE22 rfl rfl rfl (by omega) (by omega) rfl ?_)
                  refine tn_step [17] (by kernel_rfl) rfl ?_
                  refine ⟨?_, trivial⟩
                  · refine tn_k (listed' := #[true, true, true, true, true, true, true, true, true, true, true, true, true, true, true, true, true, true]) rfl rfl rfl rfl (k_storeE sz2 rfl (by conv => lhs; whnf) rfl rfl rfl (Nat.le_of_ble_eq_true rfl) rfl (by rw [List.getElem?_set_ne (by omega)]; exact map_get hea3) (Nat.le_of_ble_eq_true rfl) rfl ?_)
                    refine tn_end (by kernel_rfl) (hK16 _ ?_); clear hK16
                    refine good_region rfl ?_
                    refine ev_q rfl (q_move (by conv => lhs; whnf) ?_)
                    refine ev_q rfl (q_int rfl rfl ?_)
                    intro n27 hn27
                    replace hn27 := in64 hn27 (by omega) (by omega)
                    refine ev_q rfl (q_assign (by conv => lhs; whnf) ?_)
                    refine ev_nil ?_
                    clear hK6
                    refine ⟨(A', a :: B), ?_, ?_, ?_⟩
                    · exact ⟨⟨by simp only [List.length_cons]; omega, by have h2 := hJ.2; rw [hAe] at h2; simpa using h2⟩, fun x hx => (List.mem_cons.1 hx).elim (fun e => by rw [e, ← hJ.1]; exact hka) (fun e => hB x e)⟩
                    · first | omega | (dsimp only; omega)
                    · refine sub_weak ?_ ?_
                      · exact weakH_row (rowEq (by exact rowAB_sw hAe en3)) (weakH_none _)
                      · refine weakE_upd ?e9 ?r9 (weakE_upd ?e8 ?r8 (weakE_upd ?e3 ?r3 (weakE_upd ?e2 ?r2 (weakE_upd ?e1 ?r1 (weakE_upd ?e0 ?r0 (weakE_junk _ _))))))
                        case e0 => first | rfl | exact fI (by omega) | (simp_all)
                        case r0 => intro h hh; simp [refs] at hh; subst hh; rfl
                        case e1 => first | rfl | exact fI (by omega) | (simp_all)
                        case r1 => intro h hh; cases hh
                        case e2 => first | rfl | exact fI (by omega) | (simp_all)
                        case r2 => intro h hh; cases hh
                        case e3 => first | rfl | exact fI (by omega) | (simp_all)
                        case r3 => intro h hh; cases hh
                        case e8 => first | rfl | exact fI (by omega) | (simp_all)
                        case r8 => intro h hh; cases hh
                        case e9 => first | rfl | exact fI (by omega) | (simp_all)
                        case r9 => intro h hh; cases hh
              · refine tn_q (listed' := #[true, true, false, true, true, true, true, true, true, true, true, true, true, true, true, false, false, false]) rfl rfl rfl (q_int rfl rfl ?_)
                intro n28 hn28
                replace hn28 := in64 hn28 (by omega) (by omega)
                refine tn_step [2, 15] (by kernel_rfl) rfl ?_
                refine ⟨?_, ?_, trivial⟩
                · refine tn_q (listed' := #[true, true, true, true, true, true, true, true, true, true, true, true, true, true, true, false, false, false]) rfl rfl rfl (q_move (by conv => lhs; whnf) ?_)
                  refine tn_step [15] (by kernel_rfl) rfl ?_
                  refine ⟨?_, trivial⟩
                  · refine tn_k (listed' := #[true, true, true, true, true, true, true, true, true, true, true, true, true, true, true, true, false, false]) rfl rfl rfl rfl (k_storeE sz2 rfl (by conv => lhs; whnf) rfl rfl rfl (Nat.le_of_ble_eq_true rfl) rfl (by exact map_get rowAB_v) (Nat.le_of_ble_eq_true rfl) rfl ?_)
                    have en3 : n28.toNat = A'.length := by omega
                    have hea3 : (rowAB A B n)[n28.toNat]? = some a := rowAB_a hAe en3
                    refine tn_first_q (i := 16) (listed' := #[true, true, true, true, true, true, true, true, true, true, true, true, true, true, true, true, true, false]) rfl rfl (by kernel_rfl) rfl (q_idxO tE22 rfl rfl rfl (by omega) (by omega) rfl ?_)
                    refine tn_step [17] (by kernel_rfl) rfl ?_
                    refine ⟨?_, trivial⟩
                    · refine tn_k (listed' := #[true, true, true, true, true, true, true, true, true, true, true, true, true, true, true, true, true, true]) rfl rfl rfl rfl (k_storeE sz2 rfl (by conv => lhs; whnf) rfl rfl rfl (Nat.le_of_ble_eq_true rfl) rfl (by rw [List.getElem?_set_ne (by omega)]; exact map_get hea3) (Nat.le_of_ble_eq_true rfl) rfl ?_)
                      refine tn_end (by kernel_rfl) (hK16 _ ?_); clear hK16
                      refine good_region rfl ?_
                      refine ev_q rfl (q_move (by conv => lhs; whnf) ?_)
                      refine ev_q rfl (q_int rfl rfl ?_)
                      intro n29 hn29
                      replace hn29 := in64 hn29 (by omega) (by omega)
                      refine ev_q rfl (q_assign (by conv => lhs; whnf) ?_)
                      refine ev_nil ?_
                      clear hK6
                      refine ⟨(A', a :: B), ?_, ?_, ?_⟩
                      · exact ⟨⟨by simp only [List.length_cons]; omega, by have h2 := hJ.2; rw [hAe] at h2; simpa using h2⟩, fun x hx => (List.mem_cons.1 hx).elim (fun e => by rw [e, ← hJ.1]; exact hka) (fun e => hB x e)⟩
                      · first | omega | (dsimp only; omega)
                      · refine sub_weak ?_ ?_
                        · exact weakH_row (rowEq (by exact rowAB_sw hAe en3)) (weakH_none _)
                        · refine weakE_upd ?e9 ?r9 (weakE_upd ?e8 ?r8 (weakE_upd ?e3 ?r3 (weakE_upd ?e2 ?r2 (weakE_upd ?e1 ?r1 (weakE_upd ?e0 ?r0 (weakE_junk _ _))))))
                          case e0 => first | rfl | exact fI (by omega) | (simp_all)
                          case r0 => intro h hh; simp [refs] at hh; subst hh; rfl
                          case e1 => first | rfl | exact fI (by omega) | (simp_all)
                          case r1 => intro h hh; cases hh
                          case e2 => first | rfl | exact fI (by omega) | (simp_all)
                          case r2 => intro h hh; cases hh
                          case e3 => first | rfl | exact fI (by omega) | (simp_all)
                          case r3 => intro h hh; cases hh
                          case e8 => first | rfl | exact fI (by omega) | (simp_all)
                          case r8 => intro h hh; cases hh
                          case e9 => first | rfl | exact fI (by omega) | (simp_all)
                          case r9 => intro h hh; cases hh
                · refine tn_k (listed' := #[true, true, false, true, true, true, true, true, true, true, true, true, true, true, true, true, false, false]) rfl rfl rfl rfl (k_storeE sz2 rfl (by conv => lhs; whnf) rfl rfl rfl (Nat.le_of_ble_eq_true rfl) rfl (by exact map_get rowAB_v) (Nat.le_of_ble_eq_true rfl) rfl ?_)
                  refine tn_first_q (i := 2) (listed' := #[true, true, true, true, true, true, true, true, true, true, true, true, true, true, true, true, false, false]) rfl rfl (by kernel_rfl) rfl (q_move (by conv => lhs; whnf) ?_)
                  have en3 : n28.toNat = A'.length := by omega
                  have hea3 : (rowAB A B n)[n28.toNat]? = some a := rowAB_a hAe en3
                  refine tn_first_q (i := 16) (listed' := #[true, true, true, true, true, true, true, true, true, true, true, true, true, true, true, true, true, false]) rfl rfl (by kernel_rfl) rfl (q_idxO tE22 rfl rfl rfl (by omega) (by omega) rfl ?_)
                  refine tn_step [17] (by kernel_rfl) rfl ?_
                  refine ⟨?_, trivial⟩
                  · refine tn_k (listed' := #[true, true, true, true, true, true, true, true, true, true, true, true, true, true, true, true, true, true]) rfl rfl rfl rfl (k_storeE sz2 rfl (by conv => lhs; whnf) rfl rfl rfl (Nat.le_of_ble_eq_true rfl) rfl (by rw [List.getElem?_set_ne (by omega)]; exact map_get hea3) (Nat.le_of_ble_eq_true rfl) rfl ?_)
                    refine tn_end (by kernel_rfl) (hK16 _ ?_); clear hK16
                    refine good_region rfl ?_
                    refine ev_q rfl (q_move (by conv => lhs; whnf) ?_)
                    refine ev_q rfl (q_int rfl rfl ?_)
                    intro n30 hn30
                    replace hn30 := in64 hn30 (by omega) (by omega)
                    refine ev_q rfl (q_assign (by conv => lhs; whnf) ?_)
                    refine ev_nil ?_
                    clear hK6
                    refine ⟨(A', a :: B), ?_, ?_, ?_⟩
                    · exact ⟨⟨by simp only [List.length_cons]; omega, by have h2 := hJ.2; rw [hAe] at h2; simpa using h2⟩, fun x hx => (List.mem_cons.1 hx).elim (fun e => by rw [e, ← hJ.1]; exact hka) (fun e => hB x e)⟩
                    · first | omega | (dsimp only; omega)
                    · refine sub_weak ?_ ?_
                      · exact weakH_row (rowEq (by exact rowAB_sw hAe en3)) (weakH_none _)
                      · refine weakE_upd ?e9 ?r9 (weakE_upd ?e8 ?r8 (weakE_upd ?e3 ?r3 (weakE_upd ?e2 ?r2 (weakE_upd ?e1 ?r1 (weakE_upd ?e0 ?r0 (weakE_junk _ _))))))
                        case e0 => first | rfl | exact fI (by omega) | (simp_all)
                        case r0 => intro h hh; simp [refs] at hh; subst hh; rfl
                        case e1 => first | rfl | exact fI (by omega) | (simp_all)
                        case r1 => intro h hh; cases hh
                        case e2 => first | rfl | exact fI (by omega) | (simp_all)
                        case r2 => intro h hh; cases hh
                        case e3 => first | rfl | exact fI (by omega) | (simp_all)
                        case r3 => intro h hh; cases hh
                        case e8 => first | rfl | exact fI (by omega) | (simp_all)
                        case r8 => intro h hh; cases hh
                        case e9 => first | rfl | exact fI (by omega) | (simp_all)
                        case r9 => intro h hh; cases hh
              · refine tn_k (listed' := #[true, true, false, true, false, true, true, true, true, true, true, true, true, true, true, true, false, false]) rfl rfl rfl rfl (k_storeE sz2 rfl (by conv => lhs; whnf) rfl rfl rfl (Nat.le_of_ble_eq_true rfl) rfl (by exact map_get rowAB_v) (Nat.le_of_ble_eq_true rfl) rfl ?_)
                refine tn_first_q (i := 2) (listed' := #[true, true, true, true, false, true, true, true, true, true, true, true, true, true, true, true, false, false]) rfl rfl (by kernel_rfl) rfl (q_move (by conv => lhs; whnf) ?_)
                refine tn_first_q (i := 4) (listed' := #[true, true, true, true, true, true, true, true, true, true, true, true, true, true, true, true, false, false]) rfl rfl (by kernel_rfl) rfl (q_int rfl rfl ?_)
                intro n31 hn31
                replace hn31 := in64 hn31 (by omega) (by omega)
                have en3 : n31.toNat = A'.length := by omega
                have hea3 : (rowAB A B n)[n31.toNat]? = some a := rowAB_a hAe en3
                refine tn_first_q (i := 16) (listed' := #[true, true, true, true, true, true, true, true, true, true, true, true, true, true, true, true, true, false]) rfl rfl (by kernel_rfl) rfl (q_idxO tE22 rfl rfl rfl (by omega) (by omega) rfl ?_)
                refine tn_step [17] (by kernel_rfl) rfl ?_
                refine ⟨?_, trivial⟩
                · refine tn_k (listed' := #[true, true, true, true, true, true, true, true, true, true, true, true, true, true, true, true, true, true]) rfl rfl rfl rfl (k_storeE sz2 rfl (by conv => lhs; whnf) rfl rfl rfl (Nat.le_of_ble_eq_true rfl) rfl (by rw [List.getElem?_set_ne (by omega)]; exact map_get hea3) (Nat.le_of_ble_eq_true rfl) rfl ?_)
                  refine tn_end (by kernel_rfl) (hK16 _ ?_); clear hK16
                  refine good_region rfl ?_
                  refine ev_q rfl (q_move (by conv => lhs; whnf) ?_)
                  refine ev_q rfl (q_int rfl rfl ?_)
                  intro n32 hn32
                  replace hn32 := in64 hn32 (by omega) (by omega)
                  refine ev_q rfl (q_assign (by conv => lhs; whnf) ?_)
                  refine ev_nil ?_
                  clear hK6
                  refine ⟨(A', a :: B), ?_, ?_, ?_⟩
                  · exact ⟨⟨by simp only [List.length_cons]; omega, by have h2 := hJ.2; rw [hAe] at h2; simpa using h2⟩, fun x hx => (List.mem_cons.1 hx).elim (fun e => by rw [e, ← hJ.1]; exact hka) (fun e => hB x e)⟩
                  · first | omega | (dsimp only; omega)
                  · refine sub_weak ?_ ?_
                    · exact weakH_row (rowEq (by exact rowAB_sw hAe en3)) (weakH_none _)
                    · refine weakE_upd ?e9 ?r9 (weakE_upd ?e8 ?r8 (weakE_upd ?e3 ?r3 (weakE_upd ?e2 ?r2 (weakE_upd ?e1 ?r1 (weakE_upd ?e0 ?r0 (weakE_junk _ _))))))
                      case e0 => first | rfl | exact fI (by omega) | (simp_all)
                      case r0 => intro h hh; simp [refs] at hh; subst hh; rfl
                      case e1 => first | rfl | exact fI (by omega) | (simp_all)
                      case r1 => intro h hh; cases hh
                      case e2 => first | rfl | exact fI (by omega) | (simp_all)
                      case r2 => intro h hh; cases hh
                      case e3 => first | rfl | exact fI (by omega) | (simp_all)
                      case r3 => intro h hh; cases hh
                      case e8 => first | rfl | exact fI (by omega) | (simp_all)
                      case r8 => intro h hh; cases hh
                      case e9 => first | rfl | exact fI (by omega) | (simp_all)
                      case r9 => intro h hh; cases hh
            · refine tn_k (listed' := #[true, true, false, false, false, true, true, true, true, true, true, true, true, true, true, true, false, false]) rfl rfl rfl rfl (k_storeE sz2 rfl (by conv => lhs; whnf) rfl rfl rfl (Nat.le_of_ble_eq_true rfl) rfl (by exact map_get rowAB_v) (Nat.le_of_ble_eq_true rfl) rfl ?_)
              refine tn_first_q (i := 2) (listed' := #[true, true, true, false, false, true, true, true, true, true, true, true, true, true, true, true, false, false]) rfl rfl (by kernel_rfl) rfl (q_move (by conv => lhs; whnf) ?_)
              refine tn_first_q (i := 3) (listed' := #[true, true, true, true, false, true, true, true, true, true, true, true, true, true, true, true, false, false]) rfl rfl (by kernel_rfl) rfl (q_move (by conv => lhs; whnf) ?_)
              refine tn_first_q (i := 4) (listed' := #[true, true, true, true, true, true, true, true, true, true, true, true, true, true, true, true, false, false]) rfl rfl (by kernel_rfl) rfl (q_int rfl rfl ?_)
              intro n33 hn33
              replace hn33 := in64 hn33 (by omega) (by omega)
              have en3 : n33.toNat = A'.length := by omega
              have hea3 : (rowAB A B n)[n33.toNat]? = some a := rowAB_a hAe en3
              refine tn_first_q (i := 16) (listed' := #[true, true, true, true, true, true, true, true, true, true, true, true, true, true, true, true, true, false]) rfl rfl (by kernel_rfl) rfl (q_idxO tE22 rfl rfl rfl (by omega) (by omega) rfl ?_)
              refine tn_step [17] (by kernel_rfl) rfl ?_
              refine ⟨?_, trivial⟩
              · refine tn_k (listed' := #[true, true, true, true, true, true, true, true, true, true, true, true, true, true, true, true, true, true]) rfl rfl rfl rfl (k_storeE sz2 rfl (by conv => lhs; whnf) rfl rfl rfl (Nat.le_of_ble_eq_true rfl) rfl (by rw [List.getElem?_set_ne (by omega)]; exact map_get hea3) (Nat.le_of_ble_eq_true rfl) rfl ?_)
                refine tn_end (by kernel_rfl) (hK16 _ ?_); clear hK16
                refine good_region rfl ?_
                refine ev_q rfl (q_move (by conv => lhs; whnf) ?_)
                refine ev_q rfl (q_int rfl rfl ?_)
                intro n34 hn34
                replace hn34 := in64 hn34 (by omega) (by omega)
                refine ev_q rfl (q_assign (by conv => lhs; whnf) ?_)
                refine ev_nil ?_
                clear hK6
                refine ⟨(A', a :: B), ?_, ?_, ?_⟩
                · exact ⟨⟨by simp only [List.length_cons]; omega, by have h2 := hJ.2; rw [hAe] at h2; simpa using h2⟩, fun x hx => (List.mem_cons.1 hx).elim (fun e => by rw [e, ← hJ.1]; exact hka) (fun e => hB x e)⟩
                · first | omega | (dsimp only; omega)
                · refine sub_weak ?_ ?_
                  · exact weakH_row (rowEq (by exact rowAB_sw hAe en3)) (weakH_none _)
                  · refine weakE_upd ?e9 ?r9 (weakE_upd ?e8 ?r8 (weakE_upd ?e3 ?r3 (weakE_upd ?e2 ?r2 (weakE_upd ?e1 ?r1 (weakE_upd ?e0 ?r0 (weakE_junk _ _))))))
                    case e0 => first | rfl | exact fI (by omega) | (simp_all)
                    case r0 => intro h hh; simp [refs] at hh; subst hh; rfl
                    case e1 => first | rfl | exact fI (by omega) | (simp_all)
                    case r1 => intro h hh; cases hh
                    case e2 => first | rfl | exact fI (by omega) | (simp_all)
                    case r2 => intro h hh; cases hh
                    case e3 => first | rfl | exact fI (by omega) | (simp_all)
                    case r3 => intro h hh; cases hh
                    case e8 => first | rfl | exact fI (by omega) | (simp_all)
                    case r8 => intro h hh; cases hh
                    case e9 => first | rfl | exact fI (by omega) | (simp_all)
                    case r9 => intro h hh; cases hh

-- slices.insertionSortCmpFunc[int64]
set_option maxRecDepth 20000 in
set_option maxHeartbeats 2000000 in
theorem D_slices_insertionSortCmpFunc_E (f : Nat) (caps : List AV) (L : List Int) (n : Nat) (a b : Int) (hab : b ≤ a) (ha : 0 ≤ a ∧ a ≤ 1000) : DenX Try.prog 75 [(1000000, .row 2 1 (L.map ci))] [.own 1000000 n, .s (.int .i64 a), .s (.int .i64 b), .fn f caps] [(1000000, .row 2 1 (L.map ci))] (.tup []) := by
  refine denX_of_good Try.func75 (by decide) rfl (Nat.le_of_ble_eq_true rfl) (Nat.le_of_ble_eq_true rfl) rfl ?_
  refine good_seq fun K1 hK1 => ?_
  refine good_region rfl ?_
  refine ev_q rfl (q_move (by conv => lhs; whnf) ?_)
  refine ev_q rfl (q_int rfl rfl ?_)
  intro n2 hn2
  replace hn2 := in64 hn2 (by omega) (by omega)
  refine ev_q rfl (q_assign (by conv => lhs; whnf) ?_)
  refine ev_nil (hK1 _ ?_); clear hK1
  refine good_block ?_
  refine good_loop (α := Unit) (fun u => { env := upd (upd (upd (upd (upd ((fun _ => .junk)) 0 (.own 1000000 n)) 1 (.s (.int .i64 a))) 2 (.s (.int .i64 b))) 3 (.fn f caps)) 8 (.s (.int .i64 (a + 1))), H := upd ((fun _ => none)) 1000000 (some (.row 2 1 (L.map ci))) }) (fun u => True) (fun u => 0) () ?_ ?_ ?_
  · trivial
  · refine sub_weak ?_ ?_
    · exact weakH_row (rowEq (rfl)) (weakH_none _)
    · refine weakE_upd ?e8 ?r8 (weakE_upd ?e3 ?r3 (weakE_upd ?e2 ?r2 (weakE_upd ?e1 ?r1 (weakE_upd ?e0 ?r0 (weakE_junk _ _)))))
      case e0 => first | rfl | exact fI (by omega) | (simp_all)
      case r0 => intro h hh; simp [refs] at hh; subst hh; rfl
      case e1 => first | rfl | exact fI (by omega) | (simp_all)
      case r1 => intro h hh; cases hh
      case e2 => first | rfl | exact fI (by omega) | (simp_all)
      case r2 => intro h hh; cases hh
      case e3 => first | rfl | exact fI (by omega) | (simp_all)
      case r3 => intro h hh; cases hh
      case e8 => first | rfl | exact fI (by omega) | (first | rfl | exact fI (by omega))
      case r8 => intro h hh; cases hh
  · rintro u _
    refine good_seq fun K3 hK3 => ?_
    refine good_seq fun K4 hK4 => ?_
    refine good_region rfl ?_
    refine ev_q rfl (q_move (by conv => lhs; whnf) ?_)
    refine ev_q rfl (q_move (by conv => lhs; whnf) ?_)
    refine ev_q rfl (q_int rfl rfl ?_)
    intro b5 hb5; cases b5
    · replace hb5 := dF hb5
      refine ev_nil (hK4 _ ?_); clear hK4
      refine good_condF rfl ?_
      refine good_exit ?_
      repeat (first | refine thenQ_exit ?_ | refine blockQ_pass rfl ?_)
      refine blockQ_exit ?_
      refine fx_many rfl ?_
      refine fx_nil ?_
      clear hK3
      exact ⟨_, .tup (.nil), weakH_row (rowEq (by first | rfl | (rw [e]; done) | (rw [e]; rfl) | (simp_all; done))) (weakH_none _), refsIn_ok rfl⟩
    · replace hb5 := dT hb5
      exfalso; omega

-- slices.stableCmpFunc[int64]
set_option maxRecDepth 20000 in
set_option maxHeartbeats 2000000 in
theorem D_slices_stableCmpFunc_A (f : Nat) (caps : List AV) (K : Int → Int) (cf : Int → Int → Int) (n : Nat) (hn : n ≤ 1000) (hf : ∀ x y : Int, 0 ≤ x → x < n → 0 ≤ y → y < n → Den Try.prog f (ci x :: ci y :: caps) (.s (.int .i64 (cf x y)))) (hcf : ∀ x y : Int, cf x y < 0 ↔ K y < K x) (h20 : n < 20) : DenX Try.prog 48 [(1000000, .row 2 1 ((iot n).map ci))] [.own 1000000 n, .s (.int .i64 ((n : Int))), .fn f caps] [(1000000, .row 2 1 ((wl K n).map ci))] (.tup []) := by
  refine denX_of_good Try.func48 (by decide) rfl (Nat.le_of_ble_eq_true rfl) (Nat.le_of_ble_eq_true rfl) rfl ?_
  refine good_seq fun K1 hK1 => ?_
  refine good_region rfl ?_
  refine ev_q rfl (q_assign (by conv => lhs; whnf) ?_)
  refine ev_nil (hK1 _ ?_); clear hK1
  refine good_seq fun K2 hK2 => ?_
  refine good_region rfl ?_
  refine ev_q rfl (q_move (by conv => lhs; whnf) ?_)
  refine ev_q rfl (q_assign (by conv => lhs; whnf) ?_)
  refine ev_q rfl (q_assign (by conv => lhs; whnf) ?_)
  refine ev_nil (hK2 _ ?_); clear hK2
  refine good_seq fun K3 hK3 => ?_
  refine good_block ?_
  refine good_loop (α := Unit) (fun u => { env := upd (upd (upd (upd (upd (upd ((fun _ => .junk)) 0 (.own 1000000 n)) 1 (.s (.int .i64 ((n : Int))))) 2 (.fn f caps)) 6 (.s (.int .i64 20))) 7 (.s (.int .i64 0))) 8 (.s (.int .i64 20)), H := upd ((fun _ => none)) 1000000 (some (.row 2 1 ((iot n).map ci))) }) (fun u => True) (fun u => 0) () ?_ ?_ ?_
  · trivial
  · refine sub_weak ?_ ?_
    · exact weakH_row (rowEq (rfl)) (weakH_none _)
    · refine weakE_upd ?e8 ?r8 (weakE_upd ?e7 ?r7 (weakE_upd ?e6 ?r6 (weakE_upd ?e2 ?r2 (weakE_upd ?e1 ?r1 (weakE_upd ?e0 ?r0 (weakE_junk _ _))))))
      case e0 => first | rfl | exact fI (by omega) | (simp_all)
      case r0 => intro h hh; simp [refs] at hh; subst hh; rfl
      case e1 => first | rfl | exact fI (by omega) | (simp_all)
      case r1 => intro h hh; cases hh
      case e2 => first | rfl | exact fI (by omega) | (simp_all)
      case r2 => intro h hh; cases hh
      case e6 => first | rfl | exact fI (by omega) | (simp_all)
      case r6 => intro h hh; cases hh
      case e7 => first | rfl | exact fI (by omega) | (simp_all)
      case r7 => intro h hh; cases hh
      case e8 => first | rfl | exact fI (by omega) | (simp_all)
      case r8 => intro h hh; cases hh
  · rintro u _
    refine good_seq fun K4 hK4 => ?_
    refine good_seq fun K5 hK5 => ?_
    refine good_region rfl ?_
    refine ev_q rfl (q_move (by conv => lhs; whnf) ?_)
    refine ev_q rfl (q_move (by conv => lhs; whnf) ?_)
    refine ev_q rfl (q_int rfl rfl ?_)
    intro b6 hb6; cases b6
    · replace hb6 := dF hb6
      refine ev_nil (hK5 _ ?_); clear hK5
      refine good_condF rfl ?_
      refine good_exit ?_
      repeat (first | refine thenQ_exit ?_ | refine blockQ_pass rfl ?_)
      refine blockQ_exit (hK3 _ ?_); clear hK3
      refine good_seq fun K7 hK7 => ?_
      refine good_region rfl ?_
      refine ev_q rfl (q_move (by conv => lhs; whnf) ?_)
      refine ev_q rfl (q_move (by conv => lhs; whnf) ?_)
      refine ev_q rfl (q_move (by conv => lhs; whnf) ?_)
      refine ev_q rfl (q_move (by conv => lhs; whnf) ?_)
      refine ev_k rfl (k_callX [(1000000, 1000000)] (D_slices_insertionSortCmpFunc_X f caps K cf n _ hn hf hcf (by omega)) rfl (rfl) (rfl) ⟨rfl, trivial⟩ ⟨rfl, ⟨rfl, rfl, by first | rfl | (simp only [List.length_map, wl_len, iot_len]; done) | (simp only [List.length_map, wl_len, iot_len]; omega)⟩, trivial⟩ rfl rfl rfl ?_)
      refine ev_nil (hK7 _ ?_); clear hK7
      refine good_block ?_
      refine good_loop (α := Unit) (fun u => { env := upd (upd (upd (upd ((fun _ => .junk)) 0 (.own 1000000 n)) 1 (.s (.int .i64 ((n : Int))))) 2 (.fn f caps)) 6 (.s (.int .i64 20)), H := upd ((fun _ => none)) 1000000 (some (.row 2 1 ((wl K n).map ci))) }) (fun u => True) (fun u => 0) () ?_ ?_ ?_
      · trivial
      · refine sub_weak ?_ ?_
        · exact weakH_row (rowEq (rfl)) (weakH_none _)
        · refine weakE_upd ?e6 ?r6 (weakE_upd ?e2 ?r2 (weakE_upd ?e1 ?r1 (weakE_upd ?e0 ?r0 (weakE_junk _ _))))
          case e0 => first | rfl | exact fI (by omega) | (simp_all)
          case r0 => intro h hh; simp [refs] at hh; subst hh; rfl
          case e1 => first | rfl | exact fI (by omega) | (simp_all)
          case r1 => intro h hh; cases hh
          case e2 => first | rfl | exact fI (by omega) | (simp_all)
          case r2 => intro h hh; cases hh
          case e6 => first | rfl | exact fI (by omega) | (simp_all)
          case r6 => intro h hh; cases hh
      · rintro u _
        refine good_seq fun K8 hK8 => ?_
        refine good_seq fun K9 hK9 => ?_
        refine good_region rfl ?_
        refine ev_q rfl (q_move (by conv => lhs; whnf) ?_)
        refine ev_q rfl (q_move (by conv => lhs; whnf) ?_)
        refine ev_q rfl (q_int rfl rfl ?_)
        intro b10 hb10; cases b10
        · replace hb10 := dF hb10
          refine ev_nil (hK9 _ ?_); clear hK9
          refine good_condF rfl ?_
          refine good_exit ?_
          repeat (first | refine thenQ_exit ?_ | refine blockQ_pass rfl ?_)
          refine blockQ_exit ?_
          refine fx_many rfl ?_
          refine fx_nil ?_
          clear hK4 hK8
          exact ⟨_, .tup (.nil), weakH_row (rowEq (by first | rfl | (rw [e]; done) | (rw [e]; rfl) | (simp_all; done))) (weakH_none _), refsIn_ok rfl⟩
        · replace hb10 := dT hb10
          exfalso; omega
    · replace hb6 := dT hb6
      exfalso; omega

-- slices.stableCmpFunc[int64]
set_option maxRecDepth 20000 in
set_option maxHeartbeats 2000000 in
theorem D_slices_stableCmpFunc_B (f : Nat) (caps : List AV) (K : Int → Int) (cf : Int → Int → Int) (n : Nat) (hn : n ≤ 1000) (hf : ∀ x y : Int, 0 ≤ x → x < n → 0 ≤ y → y < n → Den Try.prog f (ci x :: ci y :: caps) (.s (.int .i64 (cf x y)))) (hcf : ∀ x y : Int, cf x y < 0 ↔ K y < K x) (h20 : n = 20) : DenX Try.prog 48 [(1000000, .row 2 1 ((iot n).map ci))] [.own 1000000 n, .s (.int .i64 ((n : Int))), .fn f caps] [(1000000, .row 2 1 ((wl K n).map ci))] (.tup []) := by
  refine denX_of_good Try.func48 (by decide) rfl (Nat.le_of_ble_eq_true rfl) (Nat.le_of_ble_eq_true rfl) rfl ?_
  refine good_seq fun K1 hK1 => ?_
  refine good_region rfl ?_
  refine ev_q rfl (q_assign (by conv => lhs; whnf) ?_)
  refine ev_nil (hK1 _ ?_); clear hK1
  refine good_seq fun K2 hK2 => ?_
  refine good_region rfl ?_
  refine ev_q rfl (q_move (by conv => lhs; whnf) ?_)
  refine ev_q rfl (q_assign (by conv => lhs; whnf) ?_)
  refine ev_q rfl (q_assign (by conv => lhs; whnf) ?_)
  refine ev_nil (hK2 _ ?_); clear hK2
  refine good_seq fun K3 hK3 => ?_
  refine good_block ?_
  refine good_loop (α := Int × Int × List Int) (fun (a, b, L) => { env := upd (upd (upd (upd (upd (upd ((fun _ => .junk)) 0 (.own 1000000 n)) 1 (.s (.int .i64 ((n : Int))))) 2 (.fn f caps)) 6 (.s (.int .i64 20))) 7 (.s (.int .i64 a))) 8 (.s (.int .i64 b)), H := upd ((fun _ => none)) 1000000 (some (.row 2 1 (L.map ci))) }) (fun (a, b, L) => (a = 0 ∧ b = 20 ∧ L = iot n) ∨ (a = 20 ∧ b = 40 ∧ L = wl K n)) (fun (a, b, L) => (40 - b).toNat) (0, 20, iot n) ?_ ?_ ?_
  · exact .inl ⟨rfl, rfl, rfl⟩
  · refine sub_weak ?_ ?_
    · exact weakH_row (rowEq (rfl)) (weakH_none _)
    · refine weakE_upd ?e8 ?r8 (weakE_upd ?e7 ?r7 (weakE_upd ?e6 ?r6 (weakE_upd ?e2 ?r2 (weakE_upd ?e1 ?r1 (weakE_upd ?e0 ?r0 (weakE_junk _ _))))))
      case e0 => first | rfl | exact fI (by omega) | (simp_all)
      case r0 => intro h hh; simp [refs] at hh; subst hh; rfl
      case e1 => first | rfl | exact fI (by omega) | (simp_all)
      case r1 => intro h hh; cases hh
      case e2 => first | rfl | exact fI (by omega) | (simp_all)
      case r2 => intro h hh; cases hh
      case e6 => first | rfl | exact fI (by omega) | (simp_all)
      case r6 => intro h hh; cases hh
      case e7 => first | rfl | exact fI (by omega) | (simp_all)
      case r7 => intro h hh; cases hh
      case e8 => first | rfl | exact fI (by omega) | (first | rfl | exact fI (by omega))
      case r8 => intro h hh; cases hh
  · rintro ⟨a, b, L⟩ hI
    refine good_seq fun K4 hK4 => ?_
    refine good_seq fun K5 hK5 => ?_
    refine good_region rfl ?_
    refine ev_q rfl (q_move (by conv => lhs; whnf) ?_)
    refine ev_q rfl (q_move (by conv => lhs; whnf) ?_)
    refine ev_q rfl (q_int rfl rfl ?_)
    intro b6 hb6; cases b6
    · replace hb6 := dF hb6
      have hc := hI.resolve_left (fun h => by have := h.2.1; omega)
      obtain ⟨rfl, rfl, rfl⟩ := hc
      refine ev_nil (hK5 _ ?_); clear hK5
      refine good_condF rfl ?_
      refine good_exit ?_
      repeat (first | refine thenQ_exit ?_ | refine blockQ_pass rfl ?_)
      refine blockQ_exit (hK3 _ ?_); clear hK3
      refine good_seq fun K7 hK7 => ?_
      refine good_region rfl ?_
      refine ev_q rfl (q_move (by conv => lhs; whnf) ?_)
      refine ev_q rfl (q_move (by conv => lhs; whnf) ?_)
      refine ev_q rfl (q_move (by conv => lhs; whnf) ?_)
      refine ev_q rfl (q_move (by conv => lhs; whnf) ?_)
      refine ev_k rfl (k_callX [(1000000, 1000000)] (D_slices_insertionSortCmpFunc_E f caps (wl K n) n _ _ (by omega) (by omega)) rfl (rfl) (rfl) ⟨rfl, trivial⟩ ⟨rfl, ⟨rfl, rfl, by first | rfl | (simp only [List.length_map, wl_len, iot_len]; done) | (simp only [List.length_map, wl_len, iot_len]; omega)⟩, trivial⟩ rfl rfl rfl ?_)
      refine ev_nil (hK7 _ ?_); clear hK7
      refine good_block ?_
      refine good_loop (α := Unit) (fun u => { env := upd (upd (upd (upd ((fun _ => .junk)) 0 (.own 1000000 n)) 1 (.s (.int .i64 ((n : Int))))) 2 (.fn f caps)) 6 (.s (.int .i64 20)), H := upd ((fun _ => none)) 1000000 (some (.row 2 1 ((wl K n).map ci))) }) (fun u => True) (fun u => 0) () ?_ ?_ ?_
      · trivial
      · refine sub_weak ?_ ?_
        · exact weakH_row (rowEq (rfl)) (weakH_none _)
        · refine weakE_upd ?e6 ?r6 (weakE_upd ?e2 ?r2 (weakE_upd ?e1 ?r1 (weakE_upd ?e0 ?r0 (weakE_junk _ _))))
          case e0 => first | rfl | exact fI (by omega) | (simp_all)
          case r0 => intro h hh; simp [refs] at hh; subst hh; rfl
          case e1 => first | rfl | exact fI (by omega) | (simp_all)
          case r1 => intro h hh; cases hh
          case e2 => first | rfl | exact fI (by omega) | (simp_all)
          case r2 => intro h hh; cases hh
          case e6 => first | rfl | exact fI (by omega) | (simp_all)
          case r6 => intro h hh; cases hh
      · rintro u _
        refine good_seq fun K8 hK8 => ?_
        refine good_seq fun K9 hK9 => ?_
        refine good_region rfl ?_
        refine ev_q rfl (q_move (by conv => lhs; whnf) ?_)
        refine ev_q rfl (q_move (by conv => lhs; whnf) ?_)
        refine ev_q rfl (q_int rfl rfl ?_)
        intro b10 hb10; cases b10
        · replace hb10 := dF hb10
          refine ev_nil (hK9 _ ?_); clear hK9
          refine good_condF rfl ?_
          refine good_exit ?_
          repeat (first | refine thenQ_exit ?_ | refine blockQ_pass rfl ?_)
          refine blockQ_exit ?_
          refine fx_many rfl ?_
          refine fx_nil ?_
          clear hK4 hK8
          exact ⟨_, .tup (.nil), weakH_row (rowEq (by first | rfl | (rw [e]; done) | (rw [e]; rfl) | (simp_all; done))) (weakH_none _), refsIn_ok rfl⟩
        · replace hb10 := dT hb10
          exfalso; omega
    · replace hb6 := dT hb6
      have hc := hI.resolve_right (fun h => by have := h.2.1; omega)
      obtain ⟨rfl, rfl, rfl⟩ := hc
      refine ev_nil (hK5 _ ?_); clear hK5
      refine good_condT rfl ?_
      refine good_skip (hK4 _ ?_); clear hK4
      refine good_block ?_
      refine good_seq fun K11 hK11 => ?_
      refine good_region rfl ?_
      refine ev_q rfl (q_move (by conv => lhs; whnf) ?_)
      refine ev_q rfl (q_move (by conv => lhs; whnf) ?_)
      refine ev_q rfl (q_move (by conv => lhs; whnf) ?_)
      refine ev_q rfl (q_move (by conv => lhs; whnf) ?_)
      refine ev_k rfl (k_callX [(1000000, 1000000)] (D_slices_insertionSortCmpFunc_X f caps K cf n _ hn hf hcf (by omega)) rfl (rfl) (rfl) ⟨rfl, trivial⟩ ⟨rfl, ⟨rfl, rfl, by first | rfl | (simp only [List.length_map, wl_len, iot_len]; done) | (simp only [List.length_map, wl_len, iot_len]; omega)⟩, trivial⟩ rfl rfl rfl ?_)
      refine ev_nil (hK11 _ ?_); clear hK11
      refine good_seq fun K12 hK12 => ?_
      refine good_region rfl ?_
      refine ev_q rfl (q_move (by conv => lhs; whnf) ?_)
      refine ev_q rfl (q_assign (by conv => lhs; whnf) ?_)
      refine ev_nil (hK12 _ ?_); clear hK12
      refine good_region rfl ?_
      refine ev_q rfl (q_move (by conv => lhs; whnf) ?_)
      refine ev_q rfl (q_move (by conv => lhs; whnf) ?_)
      refine ev_q rfl (q_int rfl rfl ?_)
      intro n13 hn13
      replace hn13 := in64 hn13 (by omega) (by omega)
      refine ev_q rfl (q_assign (by conv => lhs; whnf) ?_)
      refine ev_nil ?_
      clear hK3
      refine ⟨(20, 40, wl K n), ?_, ?_, ?_⟩
      · exact .inr ⟨rfl, rfl, rfl⟩
      · show (40 - 40 : Int).toNat < (40 - 20 : Int).toNat; decide
      · refine sub_weak ?_ ?_
        · exact weakH_row (rowEq (rfl)) (weakH_none _)
        · refine weakE_upd ?e8 ?r8 (weakE_upd ?e7 ?r7 (weakE_upd ?e6 ?r6 (weakE_upd ?e2 ?r2 (weakE_upd ?e1 ?r1 (weakE_upd ?e0 ?r0 (weakE_junk _ _))))))
          case e0 => first | rfl | exact fI (by omega) | (simp_all)
          case r0 => intro h hh; simp [refs] at hh; subst hh; rfl
          case e1 => first | rfl | exact fI (by omega) | (simp_all)
          case r1 => intro h hh; cases hh
          case e2 => first | rfl | exact fI (by omega) | (simp_all)
          case r2 => intro h hh; cases hh
          case e6 => first | rfl | exact fI (by omega) | (simp_all)
          case r6 => intro h hh; cases hh
          case e7 => first | rfl | exact fI (by omega) | (simp_all)
          case r7 => intro h hh; cases hh
          case e8 => first | rfl | exact fI (by omega) | (first | rfl | exact fI (by omega))
          case r8 => intro h hh; cases hh

theorem D_stab (f : Nat) (caps : List AV) (K : Int → Int) (cf : Int → Int → Int) (n : Nat) (hn : n ≤ 20) (hf : ∀ x y : Int, 0 ≤ x → x < n → 0 ≤ y → y < n → Den Try.prog f (ci x :: ci y :: caps) (.s (.int .i64 (cf x y)))) (hcf : ∀ x y : Int, cf x y < 0 ↔ K y < K x) : DenX Try.prog 48 [(1000000, .row 2 1 ((iot n).map ci))] [.own 1000000 n, .s (.int .i64 (n : Int)), .fn f caps] [(1000000, .row 2 1 ((wl K n).map ci))] (.tup []) := by
  by_cases h : n < 20
  · exact D_slices_stableCmpFunc_A f caps K cf n (by omega) hf hcf h
  · exact D_slices_stableCmpFunc_B f caps K cf n (by omega) hf hcf (by omega)

-- slices.SortStableFunc[[]int64,int64]
set_option maxRecDepth 20000 in
set_option maxHeartbeats 2000000 in
theorem D_slices_SortStableFunc_X (f : Nat) (caps : List AV) (K : Int → Int) (cf : Int → Int → Int) (n : Nat) (hn : n ≤ 20) (hf : ∀ x y : Int, 0 ≤ x → x < n → 0 ≤ y → y < n → Den Try.prog f (ci x :: ci y :: caps) (.s (.int .i64 (cf x y)))) (hcf : ∀ x y : Int, cf x y < 0 ↔ K y < K x) : DenX Try.prog 26 [(1000000, .row 2 1 ((iot n).map ci))] [.own 1000000 n, .fn f caps] [(1000000, .row 2 1 ((wl K n).map ci))] (.tup []) := by
  refine denX_of_good Try.func26 (by decide) rfl (Nat.le_of_ble_eq_true rfl) (Nat.le_of_ble_eq_true rfl) rfl ?_
  refine good_region rfl ?_
  refine ev_q rfl (q_move (by conv => lhs; whnf) ?_)
  refine ev_q rfl (q_move (by conv => lhs; whnf) ?_)
  refine ev_q rfl (q_len tEs22 rfl ?_)
  intro n1 hn1
  try simp only [List.length_map] at hn1
  refine ev_q rfl (q_move (by conv => lhs; whnf) ?_)
  subst hn1
  refine ev_k rfl (k_callX [(1000000, 1000000)] (D_stab f caps K cf n hn hf hcf) rfl (rfl) (rfl) ⟨rfl, trivial⟩ ⟨rfl, ⟨rfl, rfl, by first | rfl | (simp only [List.length_map, wl_len, iot_len]; done) | (simp only [List.length_map, wl_len, iot_len]; omega)⟩, trivial⟩ rfl rfl rfl ?_)
  refine ev_nil ?_
  refine fx_many rfl ?_
  refine fx_nil ?_
  exact ⟨_, .tup (.nil), weakH_row (rowEq (by first | rfl | (rw [e]; done) | (rw [e]; rfl) | (simp_all; done))) (weakH_none _), refsIn_ok rfl⟩

-- cmp.isNaN[int64]
set_option maxRecDepth 20000 in
set_option maxHeartbeats 2000000 in
theorem D_cmp_isNaN_int64 (a : Int)  : Den Try.prog 49 [.s (.int .i64 a)] (.s (.bool (decide (a ≠ a)))) := by
  refine den_of_good Try.func49 (by decide) rfl (Nat.le_of_ble_eq_true rfl) (Nat.le_of_ble_eq_true rfl) ?_
  refine good_seq fun K1 hK1 => ?_
  refine good_region rfl ?_
  refine ev_q rfl (q_assign (by conv => lhs; whnf) ?_)
  refine ev_nil (hK1 _ ?_); clear hK1
  refine good_seq fun K2 hK2 => ?_
  refine good_region rfl ?_
  refine ev_q rfl (q_move (by conv => lhs; whnf) ?_)
  refine ev_q rfl (q_move (by conv => lhs; whnf) ?_)
  refine ev_q rfl (q_int rfl rfl ?_)
  intro b3 hb3; cases b3
  · replace hb3 := neF hb3
    refine ev_q rfl (q_assign (by conv => lhs; whnf) ?_)
    refine ev_nil (hK2 _ ?_); clear hK2
    refine good_ret ?_
    repeat (first | refine thenQ_ret ?_ | refine blockQ_ret ?_)
    refine ret_tmp (st := _) rfl (by conv => lhs; whnf) rfl ?_
    first | exact fT (by omega) | exact fF (by omega)
  · replace hb3 := neT hb3
    refine ev_q rfl (q_assign (by conv => lhs; whnf) ?_)
    refine ev_nil (hK2 _ ?_); clear hK2
    refine good_ret ?_
    repeat (first | refine thenQ_ret ?_ | refine blockQ_ret ?_)
    refine ret_tmp (st := _) rfl (by conv => lhs; whnf) rfl ?_
    first | exact fT (by omega) | exact fF (by omega)

-- cmp.Compare[int64]
set_option maxRecDepth 20000 in
set_option maxHeartbeats 2000000 in
theorem D_cmp_Compare_int64 (a b : Int)  : Den Try.prog 28 [.s (.int .i64 a), .s (.int .i64 b)] (.s (.int .i64 (cpv a b))) := by
  refine den_of_good Try.func28 (by decide) rfl (Nat.le_of_ble_eq_true rfl) (Nat.le_of_ble_eq_true rfl) ?_
  refine good_seq fun K1 hK1 => ?_
  refine good_region rfl ?_
  refine ev_q rfl (q_assign (by conv => lhs; whnf) ?_)
  refine ev_nil (hK1 _ ?_); clear hK1
  refine good_seq fun K2 hK2 => ?_
  refine good_region rfl ?_
  refine ev_q rfl (q_move (by conv => lhs; whnf) ?_)
  refine ev_q rfl (q_callB rfl rfl (rfl) (D_cmp_isNaN_int64 ..) ?_)
  intro b3 hb3; cases b3
  · first | replace hb3 := dF hb3 | skip
    refine ev_q rfl (q_assign (by conv => lhs; whnf) ?_)
    refine ev_nil (hK2 _ ?_); clear hK2
    refine good_seq fun K4 hK4 => ?_
    refine good_region rfl ?_
    refine ev_q rfl (q_move (by conv => lhs; whnf) ?_)
    refine ev_q rfl (q_callB rfl rfl (rfl) (D_cmp_isNaN_int64 ..) ?_)
    intro b5 hb5; cases b5
    · first | replace hb5 := dF hb5 | skip
      refine ev_q rfl (q_assign (by conv => lhs; whnf) ?_)
      refine ev_nil (hK4 _ ?_); clear hK4
      refine good_seq fun K6 hK6 => ?_
      refine good_seq fun K7 hK7 => ?_
      refine good_region rfl ?_
      refine ev_q rfl (q_move (by conv => lhs; whnf) ?_)
      refine ev_nil (hK7 _ ?_); clear hK7
      refine good_condF rfl ?_
      refine good_skip (hK6 _ ?_); clear hK6
      refine good_seq fun K8 hK8 => ?_
      refine good_seq fun K9 hK9 => ?_
      refine good_region rfl ?_
      refine ev_q rfl (q_move (by conv => lhs; whnf) ?_)
      refine ev_nil (hK9 _ ?_); clear hK9
      refine good_condF rfl ?_
      refine good_skip (hK8 _ ?_); clear hK8
      refine good_seq fun K10 hK10 => ?_
      refine good_seq fun K11 hK11 => ?_
      refine good_region rfl ?_
      refine ev_q rfl (q_move (by conv => lhs; whnf) ?_)
      refine ev_q rfl (q_move (by conv => lhs; whnf) ?_)
      refine ev_q rfl (q_int rfl rfl ?_)
      intro b12 hb12; cases b12
      · replace hb12 := dF hb12
        refine ev_nil (hK11 _ ?_); clear hK11
        refine good_condF rfl ?_
        refine good_skip (hK10 _ ?_); clear hK10
        refine good_seq fun K13 hK13 => ?_
        refine good_seq fun K14 hK14 => ?_
        refine good_region rfl ?_
        refine ev_q rfl (q_move (by conv => lhs; whnf) ?_)
        refine ev_q rfl (q_move (by conv => lhs; whnf) ?_)
        refine ev_q rfl (q_int rfl rfl ?_)
        intro b15 hb15; cases b15
        · replace hb15 := dF hb15
          refine ev_nil (hK14 _ ?_); clear hK14
          refine good_condF rfl ?_
          refine good_skip (hK13 _ ?_); clear hK13
          refine good_seq fun K16 hK16 => ?_
          refine good_region rfl ?_
          refine ev_q rfl (q_assign (by conv => lhs; whnf) ?_)
          refine ev_nil (hK16 _ ?_); clear hK16
          refine good_ret ?_
          repeat (first | refine thenQ_ret ?_ | refine blockQ_ret ?_)
          refine ret_tmp (st := _) rfl (by conv => lhs; whnf) rfl ?_
          first | exact fI (by unfold cpv; first | (rw [if_pos (by omega)]; done) | (rw [if_neg (by omega), if_pos (by omega)]; done) | (rw [if_neg (by omega), if_neg (by omega)]; done)) | (exfalso; omega)
        · replace hb15 := dT hb15
          refine ev_nil (hK14 _ ?_); clear hK14
          refine good_condT rfl ?_
          refine good_seq fun K17 hK17 => ?_
          refine good_region rfl ?_
          refine ev_q rfl (q_assign (by conv => lhs; whnf) ?_)
          refine ev_nil (hK17 _ ?_); clear hK17
          refine good_ret ?_
          repeat (first | refine thenQ_ret ?_ | refine blockQ_ret ?_)
          refine ret_tmp (st := _) rfl (by conv => lhs; whnf) rfl ?_
          clear hK13
          first | exact fI (by unfold cpv; first | (rw [if_pos (by omega)]; done) | (rw [if_neg (by omega), if_pos (by omega)]; done) | (rw [if_neg (by omega), if_neg (by omega)]; done)) | (exfalso; omega)
      · replace hb12 := dT hb12
        refine ev_nil (hK11 _ ?_); clear hK11
        refine good_condT rfl ?_
        refine good_seq fun K18 hK18 => ?_
        refine good_region rfl ?_
        refine ev_q rfl (q_assign (by conv => lhs; whnf) ?_)
        refine ev_nil (hK18 _ ?_); clear hK18
        refine good_ret ?_
        repeat (first | refine thenQ_ret ?_ | refine blockQ_ret ?_)
        refine ret_tmp (st := _) rfl (by conv => lhs; whnf) rfl ?_
        clear hK10
        first | exact fI (by unfold cpv; first | (rw [if_pos (by omega)]; done) | (rw [if_neg (by omega), if_pos (by omega)]; done) | (rw [if_neg (by omega), if_neg (by omega)]; done)) | (exfalso; omega)
    · first | replace hb5 := dT hb5 | skip
      refine ev_q rfl (q_assign (by conv => lhs; whnf) ?_)
      refine ev_nil (hK4 _ ?_); clear hK4
      refine good_seq fun K19 hK19 => ?_
      refine good_seq fun K20 hK20 => ?_
      refine good_region rfl ?_
      refine ev_q rfl (q_move (by conv => lhs; whnf) ?_)
      refine ev_nil (hK20 _ ?_); clear hK20
      refine good_condF rfl ?_
      refine good_skip (hK19 _ ?_); clear hK19
      refine good_seq fun K21 hK21 => ?_
      refine good_seq fun K22 hK22 => ?_
      refine good_region rfl ?_
      refine ev_q rfl (q_move (by conv => lhs; whnf) ?_)
      refine ev_nil (hK22 _ ?_); clear hK22
      refine good_condT rfl ?_
      refine good_seq fun K23 hK23 => ?_
      refine good_region rfl ?_
      refine ev_q rfl (q_assign (by conv => lhs; whnf) ?_)
      refine ev_nil (hK23 _ ?_); clear hK23
      refine good_ret ?_
      repeat (first | refine thenQ_ret ?_ | refine blockQ_ret ?_)
      refine ret_tmp (st := _) rfl (by conv => lhs; whnf) rfl ?_
      clear hK21
      first | exact fI (by unfold cpv; first | (rw [if_pos (by omega)]; done) | (rw [if_neg (by omega), if_pos (by omega)]; done) | (rw [if_neg (by omega), if_neg (by omega)]; done)) | (exfalso; omega)
  · first | replace hb3 := dT hb3 | skip
    refine ev_q rfl (q_assign (by conv => lhs; whnf) ?_)
    refine ev_nil (hK2 _ ?_); clear hK2
    refine good_seq fun K24 hK24 => ?_
    refine good_region rfl ?_
    refine ev_q rfl (q_move (by conv => lhs; whnf) ?_)
    refine ev_q rfl (q_callB rfl rfl (rfl) (D_cmp_isNaN_int64 ..) ?_)
    intro b25 hb25; cases b25
    · first | replace hb25 := dF hb25 | skip
      refine ev_q rfl (q_assign (by conv => lhs; whnf) ?_)
      refine ev_nil (hK24 _ ?_); clear hK24
      refine good_seq fun K26 hK26 => ?_
      refine good_seq fun K27 hK27 => ?_
      refine good_region rfl ?_
      refine ev_q rfl (q_move (by conv => lhs; whnf) ?_)
      refine ev_nil (hK27 _ ?_); clear hK27
      refine good_condT rfl ?_
      refine good_seq fun K28 hK28 => ?_
      refine good_seq fun K29 hK29 => ?_
      refine good_region rfl ?_
      refine ev_q rfl (q_move (by conv => lhs; whnf) ?_)
      refine ev_nil (hK29 _ ?_); clear hK29
      refine good_condF rfl ?_
      refine good_skip (hK28 _ ?_); clear hK28
      refine good_seq fun K30 hK30 => ?_
      refine good_region rfl ?_
      refine ev_q rfl (q_assign (by conv => lhs; whnf) ?_)
      refine ev_nil (hK30 _ ?_); clear hK30
      refine good_ret ?_
      repeat (first | refine thenQ_ret ?_ | refine blockQ_ret ?_)
      refine ret_tmp (st := _) rfl (by conv => lhs; whnf) rfl ?_
      clear hK26
      first | exact fI (by unfold cpv; first | (rw [if_pos (by omega)]; done) | (rw [if_neg (by omega), if_pos (by omega)]; done) | (rw [if_neg (by omega), if_neg (by omega)]; done)) | (exfalso; omega)
    · first | replace hb25 := dT hb25 | skip
      refine ev_q rfl (q_assign (by conv => lhs; whnf) ?_)
      refine ev_nil (hK24 _ ?_); clear hK24
      refine good_seq fun K31 hK31 => ?_
      refine good_seq fun K32 hK32 => ?_
      refine good_region rfl ?_
      refine ev_q rfl (q_move (by conv => lhs; whnf) ?_)
      refine ev_nil (hK32 _ ?_); clear hK32
      refine good_condT rfl ?_
      refine good_seq fun K33 hK33 => ?_
      refine good_seq fun K34 hK34 => ?_
      refine good_region rfl ?_
      refine ev_q rfl (q_move (by conv => lhs; whnf) ?_)
      refine ev_nil (hK34 _ ?_); clear hK34
      refine good_condT rfl ?_
      refine good_seq fun K35 hK35 => ?_
      refine good_region rfl ?_
      refine ev_q rfl (q_assign (by conv => lhs; whnf) ?_)
      refine ev_nil (hK35 _ ?_); clear hK35
      refine good_ret ?_
      repeat (first | refine thenQ_ret ?_ | refine blockQ_ret ?_)
      refine ret_tmp (st := _) rfl (by conv => lhs; whnf) rfl ?_
      clear hK31 hK33
      first | exact fI (by unfold cpv; first | (rw [if_pos (by omega)]; done) | (rw [if_neg (by omega), if_pos (by omega)]; done) | (rw [if_neg (by omega), if_neg (by omega)]; done)) | (exfalso; omega)

-- impl.WorstPipes$1
set_option maxRecDepth 20000 in
set_option maxHeartbeats 2000000 in
theorem D_impl_WorstPipes_1 (ns : List Int) (ps : List Pi) (x y : Int) (ok : netOk ns ps) (hx : 0 ≤ x ∧ x < ps.length) (hy : 0 ≤ y ∧ y < ps.length) : Den Try.prog 27 [.s (.int .i64 x), .s (.int .i64 y), .rp [.lst 1 (ns.map ci), .lst 6 (ps.map piA)]] (.s (.int .i64 (cfp ps x y))) := by
  obtain ⟨p, hp⟩ := getL (xs := ps) (n := x) (by omega) (by omega)
  obtain ⟨q, hq⟩ := getL (xs := ps) (n := y) (by omega) (by omega)
  have hpm := pk_mul (ok.2 _ _ hp).1.1
  have hqm := pk_mul (ok.2 _ _ hq).1.1
  refine den_of_good Try.func27 (by decide) rfl (Nat.le_of_ble_eq_true rfl) (Nat.le_of_ble_eq_true rfl) ?_
  refine good_seq fun K1 hK1 => ?_
  refine good_region rfl ?_
  refine ev_q rfl (q_assign (by conv => lhs; whnf) ?_)
  refine ev_nil (hK1 _ ?_); clear hK1
  refine good_seq fun K2 hK2 => ?_
  refine good_draw 28 hmix (by kernel_rfl) rfl ?_
  refine qo_q rfl (q_fieldAddr fO31_1 rfl rfl ?_)
  refine qo_q rfl (q_load tA29 rfl ?_)
  refine qo_q rfl (q_move (by conv => lhs; whnf) ?_)
  refine qo_q rfl (q_idx tE29 rfl rfl (by omega) (by first | exact map_get hp | exact map_get hq) rfl ?_)
  refine qo_q rfl (q_fieldAddr fO47_5 rfl rfl ?_)
  refine qo_q rfl (q_load tA2 rfl ?_)
  refine qo_q rfl (q_fieldAddr fO31_1 rfl rfl ?_)
  refine qo_q rfl (q_load tA29 rfl ?_)
  refine qo_q rfl (q_move (by conv => lhs; whnf) ?_)
  refine qo_q rfl (q_idx tE29 rfl rfl (by omega) (by first | exact map_get hp | exact map_get hq) rfl ?_)
  refine qo_q rfl (q_fieldAddr fO47_3 rfl rfl ?_)
  refine qo_q rfl (q_load tA2 rfl ?_)
  refine qo_q rfl (q_int rfl rfl ?_)
  intro n3 hn3
  replace hn3 := in64 hn3 (by omega) (by omega)
  refine qo_q rfl (q_fieldAddr fO31_1 rfl rfl ?_)
  refine qo_q rfl (q_load tA29 rfl ?_)
  refine qo_q rfl (q_move (by conv => lhs; whnf) ?_)
  refine qo_q rfl (q_idx tE29 rfl rfl (by omega) (by first | exact map_get hp | exact map_get hq) rfl ?_)
  refine qo_q rfl (q_fieldAddr fO47_5 rfl rfl ?_)
  refine qo_q rfl (q_load tA2 rfl ?_)
  refine qo_q rfl (q_fieldAddr fO31_1 rfl rfl ?_)
  refine qo_q rfl (q_load tA29 rfl ?_)
  refine qo_q rfl (q_move (by conv => lhs; whnf) ?_)
  refine qo_q rfl (q_idx tE29 rfl rfl (by omega) (by first | exact map_get hp | exact map_get hq) rfl ?_)
  refine qo_q rfl (q_fieldAddr fO47_3 rfl rfl ?_)
  refine qo_q rfl (q_load tA2 rfl ?_)
  refine qo_q rfl (q_int rfl rfl ?_)
  intro n4 hn4
  replace hn4 := in64 hn4 (by omega) (by omega)
  refine qo_q rfl (q_callI rfl rfl (rfl) (D_cmp_Compare_int64 ..) ?_)
  intro n5 hn5
  refine qo_q rfl (q_assign (by conv => lhs; whnf) ?_)
  refine qo_nil ?_
  refine ev_nil (hK2 _ ?_); clear hK2
  refine good_ret ?_
  repeat (first | refine thenQ_ret ?_ | refine blockQ_ret ?_)
  refine ret_tmp (st := _) rfl (by conv => lhs; whnf) rfl ?_
  exact fI (by rw [hn5, hn4, hn3]; unfold cfp; rw [pk_eq hp, pk_eq hq])

theorem D_sort_X (xs : List Int) (hx : xs.length ≤ 1000000) : DenX Try.prog 30 [(1000000, .row 2 1 (xs.map ci))] [.own 1000000 xs.length] [(1000000, .row 2 1 ((srtI xs).map ci))] (.tup []) :=
  denX_sort ⟨_, Try.func30, rfl, rfl⟩ (fun blk cap zs w hH hb hs => AnyM.slices_Sort_int Try.sortI blk 0 cap zs w hH hb hs) (fun p cap w => AnyM.slices_Sort_int_none Try.sortI p cap w) (by omega)

-- slices.Clone[[]int64,int64]
set_option maxRecDepth 20000 in
set_option maxHeartbeats 2000000 in
theorem D_slices_Clone_int64_int64_X (xs : List Int) (hx : xs.length ≤ 17592186044416) : DenX Try.prog 29 [] [.lst 1 (xs.map ci)] [(7, .row 2 1 (xs.map ci))] (.own 7 xs.length) := by
  refine denX_of_good Try.func29 (by decide) rfl (Nat.le_of_ble_eq_true rfl) (Nat.le_of_ble_eq_true rfl) rfl ?_
  refine good_seq fun K1 hK1 => ?_
  refine good_region rfl ?_
  refine ev_q rfl (q_assign (by conv => lhs; whnf) ?_)
  refine ev_nil (hK1 _ ?_); clear hK1
  refine good_seq fun K2 hK2 => ?_
  refine good_seq fun K3 hK3 => ?_
  refine good_region rfl ?_
  refine ev_q rfl (q_move (by conv => lhs; whnf) ?_)
  refine ev_k rfl (k_nil tEs22 rfl ?_)
  intro b4 hb4; cases b4
  · refine ev_nil (hK3 _ ?_); clear hK3
    refine good_condF rfl ?_
    refine good_skip (hK2 _ ?_); clear hK2
    refine good_seq fun K5 hK5 => ?_
    refine good_region rfl ?_
    refine ev_k rfl (k_lit tE22 zA2 rfl rfl (by decide) (by decide) rfl rfl rfl ?_)
    refine ev_q rfl (q_move (by conv => lhs; whnf) ?_)
    refine ev_k rfl (k_app tApp22 rfl rfl (by rfl) rfl (.inl rfl) (by simp [maxLen]; omega) (by simp; omega) ?_)
    refine ev_q rfl (q_assign (by conv => lhs; whnf) ?_)
    refine ev_nil (hK5 _ ?_); clear hK5
    refine good_ret ?_
    repeat (first | refine thenQ_ret ?_ | refine blockQ_ret ?_)
    refine fx_tmp rfl (by conv => lhs; whnf) ?_
    exact ⟨_, conv_eq (by first | rfl | (rw [e]; done) | (rw [e]; rfl) | exact ownEq (by first | omega | simp_all)), weakH_row (rowEq (by first | rfl | (rw [e]; rfl))) (weakH_none _), refsIn_ok rfl⟩
  · replace hb4 := hb4 rfl
    have e := nilMap hb4
    refine ev_nil (hK3 _ ?_); clear hK3
    refine good_condT rfl ?_
    refine good_seq fun K6 hK6 => ?_
    refine good_region rfl ?_
    refine ev_q rfl (q_assign (by conv => lhs; whnf) ?_)
    refine ev_nil (hK6 _ ?_); clear hK6
    refine good_ret ?_
    repeat (first | refine thenQ_ret ?_ | refine blockQ_ret ?_)
    refine fx_tmp rfl (by conv => lhs; whnf) ?_
    clear hK2
    exact ⟨_, conv_nil rfl (by decide) (by rw [e]; rfl), weakH_row (rowEq (by first | rfl | (rw [e]; rfl))) (weakH_none _), refsIn_ok rfl⟩

-- impl.WorstPipes
set_option maxRecDepth 20000 in
set_option maxHeartbeats 2000000 in
theorem D_impl_WorstPipes_X (ns : List Int) (ps : List Pi) (cnt : Int) (hn : ns.length ≤ 17592186044416) (hp : ps.length ≤ 2513169434843) (hz : idSz ps) : DenX Try.prog 8 [] [.agg [.lst 1 (ns.map ci), .lst 6 (ps.map piA)], .s (.int .i64 cnt)] [(900003, .row 2 1 ((wpR ns ps cnt).map ci))] (.tup [.own 900003 (wpR ns ps cnt).length, .s (.int .i64 (wpC ns ps cnt))]) := by
  refine denX_of_good Try.func8 (by decide) rfl (Nat.le_of_ble_eq_true rfl) (Nat.le_of_ble_eq_true rfl) rfl ?_
  refine good_seq fun K1 hK1 => ?_
  refine good_region rfl ?_
  refine ev_k rfl (k_box (by conv => lhs; whnf) rfl rfl rfl ?_)
  refine ev_q rfl (q_assign (by conv => lhs; whnf) ?_)
  refine ev_q rfl (q_assign (by conv => lhs; whnf) ?_)
  refine ev_nil (hK1 _ ?_); clear hK1
  refine good_seq fun K2 hK2 => ?_
  refine good_block ?_
  refine good_seq fun K3 hK3 => ?_
  refine good_region rfl ?_
  refine ev_q rfl (q_loadA tA31 rfl rfl rfl ?_)
  refine ev_q rfl (q_callB rfl rfl (rfl) (D_impl_ValidNetwork ns ps hn hp hz) ?_)
  intro b4 hb4; cases b4
  · first | replace hb4 := dF hb4 | skip
    refine ev_q rfl (q_not rfl rfl ?_)
    refine ev_q rfl (q_assign (by conv => lhs; whnf) ?_)
    refine ev_nil (hK3 _ ?_); clear hK3
    refine good_condT rfl ?_
    refine good_seq fun K5 hK5 => ?_
    refine good_region rfl ?_
    refine ev_q rfl (q_assign (by conv => lhs; whnf) ?_)
    refine ev_q rfl (q_assign (by conv => lhs; whnf) ?_)
    refine ev_nil (hK5 _ ?_); clear hK5
    refine good_ret ?_
    repeat (first | refine thenQ_ret ?_ | refine blockQ_ret ?_)
    refine fx_many rfl ?_
    refine fxs_tmp (by conv => lhs; whnf) ?_
    refine fxs_tmp (by conv => lhs; whnf) ?_
    refine fx_nil ?_
    clear hK2
    first | (have hwp := wp_1 (ns := ns) (ps := ps) (c := cnt) (by assumption)) | (have hwp := wp_0 (ns := ns) (ps := ps) (c := cnt) (by assumption) (by omega)) | (have hwp := wp_2 (ns := ns) (ps := ps) (c := cnt) (by assumption) (by omega))
    obtain ⟨e2, e⟩ := hwp
    have esl := srtI_len (List.take cnt.toNat (wl (pk ps) ps.length))
    exact ⟨_, .tup (.cons (conv_nil rfl (by decide) (by rw [e]; rfl)) (.cons (conv_eq (by first | rfl | exact fI (by omega) | (exfalso; first | omega | grind))) (.nil))), weakH_row (rowEq (by first | (rw [e]; done) | (rw [e]; rfl))) (weakH_none _), refsIn_ok rfl⟩
  · first | replace hb4 := dT hb4 | skip
    refine ev_q rfl (q_not rfl rfl ?_)
    refine ev_q rfl (q_assign (by conv => lhs; whnf) ?_)
    refine ev_nil (hK3 _ ?_); clear hK3
    refine good_condF rfl ?_
    refine good_seq fun K6 hK6 => ?_
    refine good_region rfl ?_
    refine ev_q rfl (q_move (by conv => lhs; whnf) ?_)
    refine ev_q rfl (q_fieldAddrP fO31_1 rfl rfl ?_)
    refine ev_q rfl (q_load tA29 rfl ?_)
    refine ev_q rfl (q_len tEs29 rfl ?_)
    intro n7 hn7
    try simp only [List.length_map] at hn7
    refine ev_q rfl (q_callB rfl rfl (rfl) (D_impl_within ..) ?_)
    intro b8 hb8; cases b8
    · first | replace hb8 := dF hb8 | skip
      refine ev_q rfl (q_not rfl rfl ?_)
      refine ev_q rfl (q_assign (by conv => lhs; whnf) ?_)
      refine ev_nil (hK6 _ ?_); clear hK6
      refine good_condT rfl ?_
      refine good_seq fun K9 hK9 => ?_
      refine good_region rfl ?_
      refine ev_q rfl (q_assign (by conv => lhs; whnf) ?_)
      refine ev_q rfl (q_assign (by conv => lhs; whnf) ?_)
      refine ev_nil (hK9 _ ?_); clear hK9
      refine good_ret ?_
      repeat (first | refine thenQ_ret ?_ | refine blockQ_ret ?_)
      refine fx_many rfl ?_
      refine fxs_tmp (by conv => lhs; whnf) ?_
      refine fxs_tmp (by conv => lhs; whnf) ?_
      refine fx_nil ?_
      clear hK2
      first | (have hwp := wp_1 (ns := ns) (ps := ps) (c := cnt) (by assumption)) | (have hwp := wp_0 (ns := ns) (ps := ps) (c := cnt) (by assumption) (by omega)) | (have hwp := wp_2 (ns := ns) (ps := ps) (c := cnt) (by assumption) (by omega))
      obtain ⟨e2, e⟩ := hwp
      have esl := srtI_len (List.take cnt.toNat (wl (pk ps) ps.length))
      exact ⟨_, .tup (.cons (conv_nil rfl (by decide) (by rw [e]; rfl)) (.cons (conv_eq (by first | rfl | exact fI (by omega) | (exfalso; first | omega | grind))) (.nil))), weakH_row (rowEq (by first | (rw [e]; done) | (rw [e]; rfl))) (weakH_none _), refsIn_ok rfl⟩
    · first | replace hb8 := dT hb8 | skip
      refine ev_q rfl (q_not rfl rfl ?_)
      refine ev_q rfl (q_assign (by conv => lhs; whnf) ?_)
      refine ev_nil (hK6 _ ?_); clear hK6
      refine good_condF rfl ?_
      refine good_skip (hK2 _ ?_); clear hK2
      refine good_seq fun K10 hK10 => ?_
      refine good_region rfl ?_
      refine ev_q rfl (q_fieldAddrP fO31_1 rfl rfl ?_)
      refine ev_q rfl (q_load tA29 rfl ?_)
      refine ev_q rfl (q_len tEs29 rfl ?_)
      intro n11 hn11
      try simp only [List.length_map] at hn11
      refine ev_k rfl (k_make tE22 rfl rfl zA2 tBy2 rfl (by omega) (by omega) (by omega) rfl (by show _ = ps.length; omega) ?_)
      refine ev_q rfl (q_assign (by conv => lhs; whnf) ?_)
      refine ev_nil (hK10 _ ?_); clear hK10
      refine good_seq fun K12 hK12 => ?_
      refine good_seq fun K13 hK13 => ?_
      refine good_region rfl ?_
      refine ev_q rfl (q_move (by conv => lhs; whnf) ?_)
      refine ev_q rfl (q_len tEs22 rfl ?_)
      intro n14 hn14
      try simp only [List.length_map] at hn14
      refine ev_q rfl (q_move (by conv => lhs; whnf) ?_)
      refine ev_nil (hK13 _ ?_); clear hK13
      refine good_block ?_
      refine good_loop (α := Nat) (fun i => { env := upd (upd (upd (upd (upd (upd ((fun _ => .junk)) 1 (.s (.int .i64 cnt))) 2 (.ptr 2 0)) 6 (.own 23 ps.length)) 24 (.own 23 ps.length)) 25 (.s (.int .i64 ((ps.length : Int))))) 26 (.s (.int .i64 i)), H := upd (upd ((fun _ => none)) 23 (some (.row 2 1 (fillC ci (ci 0) (iot ps.length) i)))) 2 (some (.box 31 [.lst 1 (ns.map ci), .lst 6 (ps.map piA)])) }) (fun i => i ≤ ps.length) (fun i => ps.length - i) 0 ?_ ?_ ?_
      · show 0 ≤ _; omega
      · refine sub_weak ?_ ?_
        · exact weakH_box (boxEq (rfl)) rfl (weakH_row (rowEq (fill0 (by first | (rw [iot_len]; done) | (rw [iot_len]; omega)))) (weakH_none _))
        · refine weakE_upd ?e26 ?r26 (weakE_upd ?e25 ?r25 (weakE_upd ?e24 ?r24 (weakE_upd ?e6 ?r6 (weakE_upd ?e2 ?r2 (weakE_upd ?e1 ?r1 (weakE_junk _ _))))))
          case e1 => first | rfl | exact fI (by omega) | (simp_all)
          case r1 => intro h hh; cases hh
          case e2 => first | rfl | exact fI (by omega) | (simp_all)
          case r2 => intro h hh; simp [refs] at hh; subst hh; rfl
          case e6 => first | rfl | exact fI (by omega) | (simp_all)
          case r6 => intro h hh; simp [refs] at hh; subst hh; rfl
          case e24 => first | rfl | exact fI (by omega) | (simp_all)
          case r24 => intro h hh; simp [refs] at hh; subst hh; rfl
          case e25 => first | rfl | exact fI (by omega) | (simp_all)
          case r25 => intro h hh; cases hh
          case e26 => first | rfl | exact fI (by omega) | (simp_all)
          case r26 => intro h hh; cases hh
      · rintro i hI
        refine good_seq fun K15 hK15 => ?_
        refine good_region rfl ?_
        refine ev_q rfl (q_int rfl rfl ?_)
        intro b16 hb16; cases b16
        · replace hb16 := dF hb16
          have e3 : fillC ci (ci 0) (iot ps.length) i = (iot ps.length).map ci := by (have e3 := fillE (f := ci) (z := ci 0) (xs := iot ps.length) (i := i) (by rw [iot_len]; omega) rfl; rw [takeLen (by simp [fillC, iot_len]; omega)] at e3; exact e3)
          rw [e3]
          refine ev_nil (hK15 _ ?_); clear hK15
          refine good_seq fun K17 hK17 => ?_
          refine good_condF rfl ?_
          refine good_exit ?_
          repeat (first | refine thenQ_exit ?_ | refine blockQ_pass rfl ?_)
          refine blockQ_exit (hK12 _ ?_); clear hK12
          refine good_seq fun K18 hK18 => ?_
          refine good_region rfl ?_
          refine ev_q rfl (q_move (by conv => lhs; whnf) ?_)
          have hok : netOk ns ps := by assumption
          have h20 := hok.1.2.2
          refine ev_q rfl (q_clo rfl rfl ?_)
          refine ev_k rfl (k_callXc [(1000000, 23)] (D_slices_SortStableFunc_X 27 [.rp [.lst 1 (ns.map ci), .lst 6 (ps.map piA)]] (pk ps) (cfp ps) ps.length (by omega) (fun x y h1 h2 h3 h4 => D_impl_WorstPipes_1 ns ps x y ‹netOk ns ps› ⟨h1, h2⟩ ⟨h3, h4⟩) (fun x y => cfp_lt x y)) rfl (rfl) (⟨rfl, ⟨pure_ci, trivial⟩⟩) ⟨rfl, trivial⟩ ⟨rfl, ⟨rfl, rfl, by first | (simp only [List.length_map, wl_len, iot_len]; done) | (simp only [List.length_map, wl_len, iot_len]; exact Nat.le_refl _)⟩, trivial⟩ rfl rfl rfl ?_)
          refine ev_nil (hK18 _ ?_); clear hK18
          refine good_seq fun K19 hK19 => ?_
          refine good_region rfl ?_
          refine ev_q rfl (q_move (by conv => lhs; whnf) ?_)
          refine ev_q rfl (q_move (by conv => lhs; whnf) ?_)
          refine ev_q rfl (q_sliceP tE22 rfl rfl rfl (by omega) (by omega) (by first | rfl | omega) ?_)
          refine ev_k rfl (k_callXc [(7, 900003)] (D_slices_Clone_int64_int64_X ((wl (pk ps) ps.length).take cnt.toNat) (by rw [wtk_len (by omega)]; omega)) rfl (by change some ([.lst 1 (List.take cnt.toNat ((wl (pk ps) ps.length).map ci))] : List AV) = some _; (simp only [takeM]) <;> rfl) (⟨rfl, ⟨pure_ci, trivial⟩⟩) trivial ⟨⟨rfl, show (900003 : Nat) < 1000000 by decide⟩, trivial⟩ rfl rfl rfl ?_)
          refine ev_q rfl (q_assign (by conv => lhs; whnf) ?_)
          refine ev_nil (hK19 _ ?_); clear hK19
          refine good_seq fun K20 hK20 => ?_
          refine good_region rfl ?_
          refine ev_q rfl (q_move (by conv => lhs; whnf) ?_)
          refine ev_k rfl (k_callX [(1000000, 900003)] (D_sort_X ((wl (pk ps) ps.length).take cnt.toNat) (by rw [wtk_len (by omega)]; omega)) rfl (rfl) (rfl) ⟨rfl, trivial⟩ ⟨rfl, ⟨rfl, rfl, by first | (simp only [List.length_map, srtI_len]; done) | (simp only [List.length_map, srtI_len]; exact Nat.le_refl _)⟩, trivial⟩ rfl rfl rfl ?_)
          refine ev_nil (hK20 _ ?_); clear hK20
          refine good_seq fun K21 hK21 => ?_
          refine good_region rfl ?_
          refine ev_q rfl (q_move (by conv => lhs; whnf) ?_)
          refine ev_q rfl (q_assign (by conv => lhs; whnf) ?_)
          refine ev_q rfl (q_assign (by conv => lhs; whnf) ?_)
          refine ev_nil (hK21 _ ?_); clear hK21
          refine good_ret ?_
          repeat (first | refine thenQ_ret ?_ | refine blockQ_ret ?_)
          refine fx_many rfl ?_
          refine fxs_tmp (by conv => lhs; whnf) ?_
          refine fxs_tmp (by conv => lhs; whnf) ?_
          refine fx_nil ?_
          clear hK17
          first | (have hwp := wp_1 (ns := ns) (ps := ps) (c := cnt) (by assumption)) | (have hwp := wp_0 (ns := ns) (ps := ps) (c := cnt) (by assumption) (by omega)) | (have hwp := wp_2 (ns := ns) (ps := ps) (c := cnt) (by assumption) (by omega))
          obtain ⟨e2, e⟩ := hwp
          have esl := srtI_len (List.take cnt.toNat (wl (pk ps) ps.length))
          exact ⟨_, .tup (.cons (conv_eq (by first | rfl | (rw [e]; done) | (rw [e]; rfl) | exact ownEq (by first | omega | simp_all))) (.cons (conv_eq (by first | rfl | exact fI (by omega) | (exfalso; first | omega | grind))) (.nil))), weakH_row (rowEq (by first | (rw [e]; done) | (rw [e]; rfl))) (weakH_none _), refsIn_ok rfl⟩
        · replace hb16 := dT hb16
          refine ev_nil (hK15 _ ?_); clear hK15
          refine good_seq fun K22 hK22 => ?_
          refine good_condT rfl ?_
          refine good_skip (hK22 _ ?_); clear hK22
          refine good_seq fun K23 hK23 => ?_
          refine good_block ?_
          refine good_seq fun K24 hK24 => ?_
          refine good_region rfl ?_
          refine ev_q rfl (q_move (by conv => lhs; whnf) ?_)
          refine ev_q rfl (q_assign (by conv => lhs; whnf) ?_)
          refine ev_nil (hK24 _ ?_); clear hK24
          refine good_region rfl ?_
          refine ev_q rfl (q_move (by conv => lhs; whnf) ?_)
          refine ev_q rfl (q_move (by conv => lhs; whnf) ?_)
          refine ev_q rfl (q_move (by conv => lhs; whnf) ?_)
          refine ev_q rfl (q_idxO tE22 rfl rfl rfl (by exact Int.natCast_nonneg _) (by omega) rfl ?_)
          refine ev_k rfl (k_storeE sz2 rfl (by conv => lhs; whnf) rfl rfl rfl (Nat.le_of_ble_eq_true rfl) rfl (by exact fillG (by rw [iot_len]; omega)) (Nat.le_of_ble_eq_true rfl) rfl ?_)
          refine ev_nil (hK23 _ ?_); clear hK23
          refine good_region rfl ?_
          refine ev_q rfl (q_int rfl rfl ?_)
          intro n25 hn25
          replace hn25 := in64 hn25 (by omega) (by omega)
          refine ev_q rfl (q_move (by conv => lhs; whnf) ?_)
          refine ev_nil ?_
          clear hK12
          refine ⟨i + 1, ?_, ?_, ?_⟩
          · show _ ≤ _; omega
          · first | omega | (simp only []; omega) | (dsimp only; omega)
          · refine sub_weak ?_ ?_
            · exact weakH_box (boxEq (rfl)) rfl (weakH_row (rowEq (fillS (iot_get (n := ps.length) (by omega)) rfl)) (weakH_none _))
            · refine weakE_upd ?e26 ?r26 (weakE_upd ?e25 ?r25 (weakE_upd ?e24 ?r24 (weakE_upd ?e6 ?r6 (weakE_upd ?e2 ?r2 (weakE_upd ?e1 ?r1 (weakE_junk _ _))))))
              case e1 => first | rfl | exact fI (by omega) | (simp_all)
              case r1 => intro h hh; cases hh
              case e2 => first | rfl | exact fI (by omega) | (simp_all)
              case r2 => intro h hh; simp [refs] at hh; subst hh; rfl
              case e6 => first | rfl | exact fI (by omega) | (simp_all)
              case r6 => intro h hh; simp [refs] at hh; subst hh; rfl
              case e24 => first | rfl | exact fI (by omega) | (simp_all)
              case r24 => intro h hh; simp [refs] at hh; subst hh; rfl
              case e25 => first | rfl | exact fI (by omega) | (simp_all)
              case r25 => intro h hh; cases hh
              case e26 => first | rfl | exact fI (by omega) | (simp_all)
              case r26 => intro h hh; cases hh
theorem D_impl_WorstPipes (ns : List Int) (ps : List Pi) (cnt : Int) (hn : ns.length ≤ 17592186044416) (hp : ps.length ≤ 2513169434843) (hz : idSz ps) : Den Try.prog 8 [.agg [.lst 1 (ns.map ci), .lst 6 (ps.map piA)], .s (.int .i64 cnt)] (.tup [.lst 1 ((wpR ns ps cnt).map ci), .s (.int .i64 (wpC ns ps cnt))]) :=
  den_of_denX (D_impl_WorstPipes_X ns ps cnt hn hp hz) (by change (some (.tup [.lst 1 (List.take (wpR ns ps cnt).length ((wpR ns ps cnt).map ci)), .s (.int .i64 (wpC ns ps cnt))]) : Option AV) = some (.tup [.lst 1 ((wpR ns ps cnt).map ci), .s (.int .i64 (wpC ns ps cnt))]); simp only [takeMap])

-- spec.l00Has
set_option maxRecDepth 20000 in
set_option maxHeartbeats 2000000 in
theorem D_spec_l00Has (xs : List Int) (x : Int) (hx : xs.length ≤ 17592186044416) : Den Try.prog 21 [.lst 1 (xs.map ci), .s (.int .i64 x)] (.s (.bool (decide (x ∈ xs)))) := by
  refine den_of_good Try.func21 (by decide) rfl (Nat.le_of_ble_eq_true rfl) (Nat.le_of_ble_eq_true rfl) ?_
  refine good_seq fun K1 hK1 => ?_
  refine good_region rfl ?_
  refine ev_q rfl (q_assign (by conv => lhs; whnf) ?_)
  refine ev_nil (hK1 _ ?_); clear hK1
  refine good_seq fun K2 hK2 => ?_
  refine good_seq fun K3 hK3 => ?_
  refine good_region rfl ?_
  refine ev_q rfl (q_assign (by conv => lhs; whnf) ?_)
  refine ev_nil (hK3 _ ?_); clear hK3
  refine good_block ?_
  refine good_loop (α := Nat) (fun i => { env := upd (upd (upd ((fun _ => .junk)) 0 (.lst 1 (xs.map ci))) 1 (.s (.int .i64 x))) 5 (.s (.int .i64 i)), H := fun _ => none }) (fun i => i ≤ xs.length ∧ ∀ j q, j < i → xs[j]? = some q → ¬ q = x) (fun i => xs.length - i) 0 ?_ ?_ ?_
  · exact ⟨Nat.zero_le _, fun j u hj => by omega⟩
  · refine sub_weak ?_ ?_
    · exact weakH_none _
    · refine weakE_upd ?e5 ?r5 (weakE_upd ?e1 ?r1 (weakE_upd ?e0 ?r0 (weakE_junk _ _)))
      case e0 => first | rfl | exact fI (by omega) | (simp_all)
      case r0 => intro h hh; cases hh
      case e1 => first | rfl | exact fI (by omega) | (simp_all)
      case r1 => intro h hh; cases hh
      case e5 => first | rfl | exact fI (by omega) | (simp_all)
      case r5 => intro h hh; cases hh
  · rintro i ⟨hI, hJ⟩
    refine good_seq fun K4 hK4 => ?_
    refine good_seq fun K5 hK5 => ?_
    refine good_region rfl ?_
    refine ev_q rfl (q_move (by conv => lhs; whnf) ?_)
    refine ev_q rfl (q_move (by conv => lhs; whnf) ?_)
    refine ev_q rfl (q_len tEs22 rfl ?_)
    intro n6 hn6
    try simp only [List.length_map] at hn6
    refine ev_q rfl (q_int rfl rfl ?_)
    intro b7 hb7; cases b7
    · replace hb7 := dF hb7
      refine ev_nil (hK5 _ ?_); clear hK5
      refine good_condF rfl ?_
      refine good_exit ?_
      repeat (first | refine thenQ_exit ?_ | refine blockQ_pass rfl ?_)
      refine blockQ_exit (hK2 _ ?_); clear hK2
      refine good_seq fun K8 hK8 => ?_
      refine good_region rfl ?_
      refine ev_q rfl (q_assign (by conv => lhs; whnf) ?_)
      refine ev_nil (hK8 _ ?_); clear hK8
      refine good_ret ?_
      repeat (first | refine thenQ_ret ?_ | refine blockQ_ret ?_)
      refine ret_tmp (st := _) rfl (by conv => lhs; whnf) rfl ?_
      clear hK4
      first | exact fT (by have e : q = x := (by omega); subst e; exact List.mem_of_getElem? hq) | exact fF (fun h => by obtain ⟨j, hj⟩ := List.getElem?_of_mem h; exact all_finS (Q := fun _ q => ¬ q = x) hJ (by omega) j x hj rfl)
    · replace hb7 := dT hb7
      obtain ⟨q, hq⟩ := getL (xs := xs) (n := (i : Int)) (by omega) (by omega)
      replace hq : xs[i]? = some q := hq
      refine ev_nil (hK5 _ ?_); clear hK5
      refine good_condT rfl ?_
      refine good_skip (hK4 _ ?_); clear hK4
      refine good_seq fun K9 hK9 => ?_
      refine good_block ?_
      refine good_seq fun K10 hK10 => ?_
      refine good_region rfl ?_
      refine ev_q rfl (q_move (by conv => lhs; whnf) ?_)
      refine ev_q rfl (q_move (by conv => lhs; whnf) ?_)
      refine ev_q rfl (q_idx tE22 rfl rfl (by exact Int.natCast_nonneg _) (by exact map_get hq) rfl ?_)
      refine ev_q rfl (q_load tA2 rfl ?_)
      refine ev_q rfl (q_move (by conv => lhs; whnf) ?_)
      refine ev_q rfl (q_int rfl rfl ?_)
      intro b11 hb11; cases b11
      · replace hb11 := eqF hb11
        refine ev_nil (hK10 _ ?_); clear hK10
        refine good_condF rfl ?_
        refine good_skip (hK9 _ ?_); clear hK9
        refine good_region rfl ?_
        refine ev_q rfl (q_move (by conv => lhs; whnf) ?_)
        refine ev_q rfl (q_int rfl rfl ?_)
        intro n12 hn12
        replace hn12 := in64 hn12 (by omega) (by omega)
        refine ev_q rfl (q_assign (by conv => lhs; whnf) ?_)
        refine ev_nil ?_
        clear hK2
        refine ⟨i + 1, ?_, ?_, ?_⟩
        · exact ⟨by omega, all_extS (Q := fun _ q => ¬ q = x) hJ hq (by omega)⟩
        · first | omega | (simp only []; omega) | (dsimp only; omega)
        · refine sub_weak ?_ ?_
          · exact weakH_none _
          · refine weakE_upd ?e5 ?r5 (weakE_upd ?e1 ?r1 (weakE_upd ?e0 ?r0 (weakE_junk _ _)))
            case e0 => first | rfl | exact fI (by omega) | (simp_all)
            case r0 => intro h hh; cases hh
            case e1 => first | rfl | exact fI (by omega) | (simp_all)
            case r1 => intro h hh; cases hh
            case e5 => first | rfl | exact fI (by omega) | (simp_all)
            case r5 => intro h hh; cases hh
      · replace hb11 := eqT hb11
        refine ev_nil (hK10 _ ?_); clear hK10
        refine good_condT rfl ?_
        refine good_seq fun K13 hK13 => ?_
        refine good_region rfl ?_
        refine ev_q rfl (q_assign (by conv => lhs; whnf) ?_)
        refine ev_nil (hK13 _ ?_); clear hK13
        refine good_ret ?_
        repeat (first | refine thenQ_ret ?_ | refine blockQ_ret ?_)
        refine ret_tmp (st := _) rfl (by conv => lhs; whnf) rfl ?_
        clear hK2 hK9
        first | exact fT (by have e : q = x := (by omega); subst e; exact List.mem_of_getElem? hq) | exact fF (fun h => by obtain ⟨j, hj⟩ := List.getElem?_of_mem h; exact all_finS (Q := fun _ q => ¬ q = x) hJ (by omega) j x hj rfl)

-- spec.l00Put
set_option maxRecDepth 20000 in
set_option maxHeartbeats 2000000 in
theorem D_spec_l00Put_X (xs : List Int) (n : Int) (hx : xs.length ≤ 1000000) : DenX Try.prog 22 [] [.lst 1 (xs.map ci), .s (.int .i64 n)] [(900001, .row 2 1 ((puR xs n).map ci))] (.own 900001 (puR xs n).length) := by
  refine denX_of_good Try.func22 (by decide) rfl (Nat.le_of_ble_eq_true rfl) (Nat.le_of_ble_eq_true rfl) rfl ?_
  refine good_seq fun K1 hK1 => ?_
  refine good_region rfl ?_
  refine ev_q rfl (q_assign (by conv => lhs; whnf) ?_)
  refine ev_nil (hK1 _ ?_); clear hK1
  refine good_seq fun K2 hK2 => ?_
  refine good_region rfl ?_
  refine ev_k rfl (k_lit tE22 zA2 rfl rfl (by decide) (by decide) rfl rfl rfl ?_)
  refine ev_q rfl (q_assign (by conv => lhs; whnf) ?_)
  refine ev_nil (hK2 _ ?_); clear hK2
  refine good_seq fun K3 hK3 => ?_
  refine good_region rfl ?_
  refine ev_q rfl (q_assign (by conv => lhs; whnf) ?_)
  refine ev_nil (hK3 _ ?_); clear hK3
  refine good_seq fun K4 hK4 => ?_
  refine good_seq fun K5 hK5 => ?_
  refine good_region rfl ?_
  refine ev_q rfl (q_assign (by conv => lhs; whnf) ?_)
  refine ev_nil (hK5 _ ?_); clear hK5
  refine good_block ?_
  refine good_loop (α := Nat) (fun i => { env := upd (upd (upd (upd (upd ((fun _ => .junk)) 0 (.lst 1 (xs.map ci))) 1 (.s (.int .i64 n))) 5 (.own 41 (puL xs n i).1.length)) 6 (.s (.bool (puL xs n i).2))) 7 (.s (.int .i64 i)), H := upd ((fun _ => none)) 41 (some (.row 2 1 ((puL xs n i).1.map ci))) }) (fun i => i ≤ xs.length) (fun i => xs.length - i) 0 ?_ ?_ ?_
  · show 0 ≤ _; omega
  · refine Sub.trans (sub_move 5 8 41 rfl rfl rfl (by decide)) ?_
    refine sub_weak ?_ ?_
    · exact weakH_row (rowEq (rfl)) (weakH_none _)
    · refine weakE_upd ?e7 ?r7 (weakE_upd ?e6 ?r6 (weakE_upd ?e5 ?r5 (weakE_upd ?e1 ?r1 (weakE_upd ?e0 ?r0 (weakE_junk _ _)))))
      case e0 => first | rfl | exact fI (by omega) | (simp_all)
      case r0 => intro h hh; cases hh
      case e1 => first | rfl | exact fI (by omega) | (simp_all)
      case r1 => intro h hh; cases hh
      case e5 => first | rfl | exact fI (by omega) | (first | rfl | exact ownEq (by rw [hst]; simp))
      case r5 => intro h hh; simp [refs] at hh; subst hh; rfl
      case e6 => first | rfl | exact fI (by omega) | (first | rfl | (rw [hst]; done) | (rw [hst]; rfl) | (rw [hst]; show AV.s (.bool (puL xs n i).2) = _; rw [hd16]; rfl))
      case r6 => intro h hh; cases hh
      case e7 => first | rfl | exact fI (by omega) | (simp_all)
      case r7 => intro h hh; cases hh
  · rintro i hI
    refine good_seq fun K6 hK6 => ?_
    refine good_seq fun K7 hK7 => ?_
    refine good_region rfl ?_
    refine ev_q rfl (q_move (by conv => lhs; whnf) ?_)
    refine ev_q rfl (q_move (by conv => lhs; whnf) ?_)
    refine ev_q rfl (q_len tEs22 rfl ?_)
    intro n8 hn8
    try simp only [List.length_map] at hn8
    refine ev_q rfl (q_int rfl rfl ?_)
    intro b9 hb9; cases b9
    · replace hb9 := dF hb9
      have hle := pu_len (xs := xs) (n := n) i
      refine ev_nil (hK7 _ ?_); clear hK7
      refine good_condF rfl ?_
      refine good_exit ?_
      repeat (first | refine thenQ_exit ?_ | refine blockQ_pass rfl ?_)
      refine blockQ_exit (hK4 _ ?_); clear hK4
      refine good_seq fun K10 hK10 => ?_
      refine good_seq fun K11 hK11 => ?_
      refine good_region rfl ?_
      refine ev_q rfl (q_move (by conv => lhs; whnf) ?_)
      refine ev_q rfl (q_not rfl rfl ?_)
      cases hd43 : (puL xs n i).2
      · refine ev_nil (hK11 _ ?_); clear hK11
        refine good_condT rfl ?_
        refine good_region rfl ?_
        refine ev_q rfl (q_move (by conv => lhs; whnf) ?_)
        refine ev_q rfl (q_move (by conv => lhs; whnf) ?_)
        refine ev_k rfl (k_lit tE22 zA2 rfl rfl (by decide) (by decide) rfl rfl rfl ?_)
        refine ev_k rfl (k_app tApp22 rfl rfl (by simp) rfl (.inl rfl) (by first | (simp [maxLen]; done) | (simp [maxLen]; omega)) (by first | (simp; done) | (simp; omega)) ?_)
        refine ev_q rfl (q_assign (by conv => lhs; whnf) ?_)
        refine ev_nil (hK10 _ ?_); clear hK10
        refine good_seq fun K12 hK12 => ?_
        refine good_region rfl ?_
        refine ev_q rfl (q_move (by conv => lhs; whnf) ?_)
        refine ev_q rfl (q_assign (by conv => lhs; whnf) ?_)
        refine ev_nil (hK12 _ ?_); clear hK12
        refine good_weak (sub_move 4 47 900001 rfl rfl rfl (by decide)) ?_
        refine good_ret ?_
        repeat (first | refine thenQ_ret ?_ | refine blockQ_ret ?_)
        refine fx_tmp rfl (by conv => lhs; whnf) ?_
        clear hK6
        first | (have e : puR xs n = (puL xs n i).1 ++ [n] := (by unfold puR; rw [show xs.length = i by omega, if_pos hd43])) | (have e : puR xs n = (puL xs n i).1 := (by unfold puR; rw [show xs.length = i by omega, if_neg (by rw [hd43]; decide)]))
        exact ⟨_, conv_eq (by first | rfl | (rw [e]; done) | (rw [e]; rfl) | exact ownEq (by first | omega | simp_all)), weakH_row (rowEq (by first | (rw [e]; done) | (rw [e]; rfl) | exact apP e rfl)) (weakH_none _), refsIn_ok rfl⟩
      · refine ev_nil (hK11 _ ?_); clear hK11
        refine good_condF rfl ?_
        refine good_skip (hK10 _ ?_); clear hK10
        refine good_seq fun K13 hK13 => ?_
        refine good_region rfl ?_
        refine ev_q rfl (q_move (by conv => lhs; whnf) ?_)
        refine ev_q rfl (q_assign (by conv => lhs; whnf) ?_)
        refine ev_nil (hK13 _ ?_); clear hK13
        refine good_weak (sub_move 4 41 900001 rfl rfl rfl (by decide)) ?_
        refine good_ret ?_
        repeat (first | refine thenQ_ret ?_ | refine blockQ_ret ?_)
        refine fx_tmp rfl (by conv => lhs; whnf) ?_
        clear hK6
        first | (have e : puR xs n = (puL xs n i).1 ++ [n] := (by unfold puR; rw [show xs.length = i by omega, if_pos hd43])) | (have e : puR xs n = (puL xs n i).1 := (by unfold puR; rw [show xs.length = i by omega, if_neg (by rw [hd43]; decide)]))
        exact ⟨_, conv_eq (by first | rfl | (rw [e]; done) | (rw [e]; rfl) | exact ownEq (by first | omega | simp_all)), weakH_row (rowEq (by first | (rw [e]; done) | (rw [e]; rfl) | exact apP e rfl)) (weakH_none _), refsIn_ok rfl⟩
    · replace hb9 := dT hb9
      obtain ⟨q, hq⟩ := getL (xs := xs) (n := (i : Int)) (by omega) (by omega)
      replace hq : xs[i]? = some q := hq
      have hle := pu_len (xs := xs) (n := n) i
      refine ev_nil (hK7 _ ?_); clear hK7
      refine good_condT rfl ?_
      refine good_skip (hK6 _ ?_); clear hK6
      refine good_seq fun K14 hK14 => ?_
      refine good_block ?_
      refine good_seq fun K15 hK15 => ?_
      refine good_seq fun K16 hK16 => ?_
      refine good_region rfl ?_
      refine ev_q rfl (q_move (by conv => lhs; whnf) ?_)
      refine ev_q rfl (q_not rfl rfl ?_)
      cases hd16 : (puL xs n i).2
      · refine ev_q rfl (q_move (by conv => lhs; whnf) ?_)
        refine ev_q rfl (q_move (by conv => lhs; whnf) ?_)
        refine ev_q rfl (q_move (by conv => lhs; whnf) ?_)
        refine ev_q rfl (q_idx tE22 rfl rfl (by exact Int.natCast_nonneg _) (by exact map_get hq) rfl ?_)
        refine ev_q rfl (q_load tA2 rfl ?_)
        refine ev_q rfl (q_move (by conv => lhs; whnf) ?_)
        refine ev_q rfl (q_int rfl rfl ?_)
        intro b17 hb17; cases b17
        · replace hb17 := dF hb17
          have hst := pu_no (n := n) hq (fun h => by have := h.2; omega)
          refine ev_q rfl (q_pickT rfl (by conv => lhs; whnf) ?_)
          refine ev_nil (hK16 _ ?_); clear hK16
          refine good_condF rfl ?_
          refine good_skip (hK15 _ ?_); clear hK15
          refine good_region rfl ?_
          refine ev_q rfl (q_move (by conv => lhs; whnf) ?_)
          refine ev_q rfl (q_move (by conv => lhs; whnf) ?_)
          refine ev_q rfl (q_move (by conv => lhs; whnf) ?_)
          refine ev_q rfl (q_idx tE22 rfl rfl (by exact Int.natCast_nonneg _) (by exact map_get hq) rfl ?_)
          refine ev_q rfl (q_load tA2 rfl ?_)
          refine ev_k rfl (k_lit tE22 zA2 rfl rfl (by decide) (by decide) rfl rfl rfl ?_)
          refine ev_k rfl (k_app tApp22 rfl rfl (by simp) rfl (.inr rfl) (by first | (simp [maxLen]; done) | (simp [maxLen]; omega)) (by first | (simp; done) | (simp; omega)) ?_)
          refine ev_q rfl (q_assign (by conv => lhs; whnf) ?_)
          refine ev_nil (hK14 _ ?_); clear hK14
          refine good_region rfl ?_
          refine ev_q rfl (q_move (by conv => lhs; whnf) ?_)
          refine ev_q rfl (q_int rfl rfl ?_)
          intro n18 hn18
          replace hn18 := in64 hn18 (by omega) (by omega)
          refine ev_q rfl (q_assign (by conv => lhs; whnf) ?_)
          refine ev_nil ?_
          clear hK4
          refine ⟨i + 1, ?_, ?_, ?_⟩
          · show _ ≤ _; omega
          · first | omega | (simp only []; omega) | (dsimp only; omega)
          · refine sub_weak ?_ ?_
            · exact weakH_row (rowEq (by first | exact apP2 (by rw [hst]) rfl rfl | exact apP (by rw [hst]) rfl)) (weakH_none _)
            · refine weakE_upd ?e7 ?r7 (weakE_upd ?e6 ?r6 (weakE_upd ?e5 ?r5 (weakE_upd ?e1 ?r1 (weakE_upd ?e0 ?r0 (weakE_junk _ _)))))
              case e0 => first | rfl | exact fI (by omega) | (simp_all)
              case r0 => intro h hh; cases hh
              case e1 => first | rfl | exact fI (by omega) | (simp_all)
              case r1 => intro h hh; cases hh
              case e5 => first | rfl | exact fI (by omega) | (first | rfl | exact ownEq (by rw [hst]; simp))
              case r5 => intro h hh; simp [refs] at hh; subst hh; rfl
              case e6 => first | rfl | exact fI (by omega) | (first | rfl | (rw [hst]; done) | (rw [hst]; rfl) | (rw [hst]; show AV.s (.bool (puL xs n i).2) = _; rw [hd16]; rfl))
              case r6 => intro h hh; cases hh
              case e7 => first | rfl | exact fI (by omega) | (simp_all)
              case r7 => intro h hh; cases hh
        · replace hb17 := dT hb17
          refine ev_q rfl (q_pickT rfl (by conv => lhs; whnf) ?_)
          refine ev_nil (hK16 _ ?_); clear hK16
          refine good_condT rfl ?_
          refine good_seq fun K19 hK19 => ?_
          refine good_region rfl ?_
          refine ev_q rfl (q_assign (by conv => lhs; whnf) ?_)
          refine ev_nil (hK19 _ ?_); clear hK19
          refine good_seq fun K20 hK20 => ?_
          refine good_region rfl ?_
          refine ev_q rfl (q_move (by conv => lhs; whnf) ?_)
          refine ev_q rfl (q_move (by conv => lhs; whnf) ?_)
          refine ev_q rfl (q_idx tE22 rfl rfl (by exact Int.natCast_nonneg _) (by exact map_get hq) rfl ?_)
          refine ev_q rfl (q_load tA2 rfl ?_)
          refine ev_q rfl (q_move (by conv => lhs; whnf) ?_)
          refine ev_q rfl (q_int rfl rfl ?_)
          intro b21 hb21; cases b21
          · replace hb21 := dF hb21
            have hst := pu_eq hq hd16 (by omega) (by omega)
            refine ev_nil (hK20 _ ?_); clear hK20
            refine good_condF rfl ?_
            refine good_skip (hK15 _ ?_); clear hK15
            refine good_region rfl ?_
            refine ev_q rfl (q_move (by conv => lhs; whnf) ?_)
            refine ev_q rfl (q_move (by conv => lhs; whnf) ?_)
            refine ev_q rfl (q_move (by conv => lhs; whnf) ?_)
            refine ev_q rfl (q_idx tE22 rfl rfl (by exact Int.natCast_nonneg _) (by exact map_get hq) rfl ?_)
            refine ev_q rfl (q_load tA2 rfl ?_)
            refine ev_k rfl (k_lit tE22 zA2 rfl rfl (by decide) (by decide) rfl rfl rfl ?_)
            refine ev_k rfl (k_app tApp22 rfl rfl (by simp) rfl (.inr rfl) (by first | (simp [maxLen]; done) | (simp [maxLen]; omega)) (by first | (simp; done) | (simp; omega)) ?_)
            refine ev_q rfl (q_assign (by conv => lhs; whnf) ?_)
            refine ev_nil (hK14 _ ?_); clear hK14
            refine good_region rfl ?_
            refine ev_q rfl (q_move (by conv => lhs; whnf) ?_)
            refine ev_q rfl (q_int rfl rfl ?_)
            intro n22 hn22
            replace hn22 := in64 hn22 (by omega) (by omega)
            refine ev_q rfl (q_assign (by conv => lhs; whnf) ?_)
            refine ev_nil ?_
            clear hK4
            refine ⟨i + 1, ?_, ?_, ?_⟩
            · show _ ≤ _; omega
            · first | omega | (simp only []; omega) | (dsimp only; omega)
            · refine sub_weak ?_ ?_
              · exact weakH_row (rowEq (by first | exact apP2 (by rw [hst]) rfl rfl | exact apP (by rw [hst]) rfl)) (weakH_none _)
              · refine weakE_upd ?e7 ?r7 (weakE_upd ?e6 ?r6 (weakE_upd ?e5 ?r5 (weakE_upd ?e1 ?r1 (weakE_upd ?e0 ?r0 (weakE_junk _ _)))))
                case e0 => first | rfl | exact fI (by omega) | (simp_all)
                case r0 => intro h hh; cases hh
                case e1 => first | rfl | exact fI (by omega) | (simp_all)
                case r1 => intro h hh; cases hh
                case e5 => first | rfl | exact fI (by omega) | (first | rfl | exact ownEq (by rw [hst]; simp))
                case r5 => intro h hh; simp [refs] at hh; subst hh; rfl
                case e6 => first | rfl | exact fI (by omega) | (first | rfl | (rw [hst]; done) | (rw [hst]; rfl) | (rw [hst]; show AV.s (.bool (puL xs n i).2) = _; rw [hd16]; rfl))
                case r6 => intro h hh; cases hh
                case e7 => first | rfl | exact fI (by omega) | (simp_all)
                case r7 => intro h hh; cases hh
          · replace hb21 := dT hb21
            have hst := pu_gt hq hd16 (by omega)
            refine ev_nil (hK20 _ ?_); clear hK20
            refine good_condT rfl ?_
            refine good_region rfl ?_
            refine ev_q rfl (q_move (by conv => lhs; whnf) ?_)
            refine ev_q rfl (q_move (by conv => lhs; whnf) ?_)
            refine ev_k rfl (k_lit tE22 zA2 rfl rfl (by decide) (by decide) rfl rfl rfl ?_)
            refine ev_k rfl (k_app tApp22 rfl rfl (by simp) rfl (.inl rfl) (by first | (simp [maxLen]; done) | (simp [maxLen]; omega)) (by first | (simp; done) | (simp; omega)) ?_)
            refine ev_q rfl (q_assign (by conv => lhs; whnf) ?_)
            refine ev_nil (hK15 _ ?_); clear hK15
            refine good_region rfl ?_
            refine ev_q rfl (q_move (by conv => lhs; whnf) ?_)
            refine ev_q rfl (q_move (by conv => lhs; whnf) ?_)
            refine ev_q rfl (q_move (by conv => lhs; whnf) ?_)
            refine ev_q rfl (q_idx tE22 rfl rfl (by exact Int.natCast_nonneg _) (by exact map_get hq) rfl ?_)
            refine ev_q rfl (q_load tA2 rfl ?_)
            refine ev_k rfl (k_lit tE22 zA2 rfl rfl (by decide) (by decide) rfl rfl rfl ?_)
            refine ev_k rfl (k_app tApp22 rfl rfl (by simp) rfl (.inl rfl) (by first | (simp [maxLen]; done) | (simp [maxLen]; omega)) (by first | (simp; done) | (simp; omega)) ?_)
            refine ev_q rfl (q_assign (by conv => lhs; whnf) ?_)
            refine ev_nil (hK14 _ ?_); clear hK14
            refine good_region rfl ?_
            refine ev_q rfl (q_move (by conv => lhs; whnf) ?_)
            refine ev_q rfl (q_int rfl rfl ?_)
            intro n23 hn23
            replace hn23 := in64 hn23 (by omega) (by omega)
            refine ev_q rfl (q_assign (by conv => lhs; whnf) ?_)
            refine ev_nil ?_
            clear hK4
            refine ⟨i + 1, ?_, ?_, ?_⟩
            · show _ ≤ _; omega
            · first | omega | (simp only []; omega) | (dsimp only; omega)
            · refine sub_weak ?_ ?_
              · exact weakH_row (rowEq (by first | exact apP2 (by rw [hst]) rfl rfl | exact apP (by rw [hst]) rfl)) (weakH_none _)
              · refine weakE_upd ?e7 ?r7 (weakE_upd ?e6 ?r6 (weakE_upd ?e5 ?r5 (weakE_upd ?e1 ?r1 (weakE_upd ?e0 ?r0 (weakE_junk _ _)))))
                case e0 => first | rfl | exact fI (by omega) | (simp_all)
                case r0 => intro h hh; cases hh
                case e1 => first | rfl | exact fI (by omega) | (simp_all)
                case r1 => intro h hh; cases hh
                case e5 => first | rfl | exact fI (by omega) | (first | rfl | exact ownEq (by rw [hst]; simp))
                case r5 => intro h hh; simp [refs] at hh; subst hh; rfl
                case e6 => first | rfl | exact fI (by omega) | (first | rfl | (rw [hst]; done) | (rw [hst]; rfl) | (rw [hst]; show AV.s (.bool (puL xs n i).2) = _; rw [hd16]; rfl))
                case r6 => intro h hh; cases hh
                case e7 => first | rfl | exact fI (by omega) | (simp_all)
                case r7 => intro h hh; cases hh
      · have hst := pu_no (n := n) hq (fun h => by rw [hd16] at h; exact absurd h.1 (by decide))
        refine ev_q rfl (q_move (by conv => lhs; whnf) ?_)
        refine ev_skip rfl ?_
        refine ev_skip rfl ?_
        refine ev_skip rfl ?_
        refine ev_skip rfl ?_
        refine ev_skip rfl ?_
        refine ev_skip rfl ?_
        refine ev_q rfl (q_pickF rfl (by conv => lhs; whnf) ?_)
        refine ev_nil (hK16 _ ?_); clear hK16
        refine good_condF rfl ?_
        refine good_skip (hK15 _ ?_); clear hK15
        refine good_region rfl ?_
        refine ev_q rfl (q_move (by conv => lhs; whnf) ?_)
        refine ev_q rfl (q_move (by conv => lhs; whnf) ?_)
        refine ev_q rfl (q_move (by conv => lhs; whnf) ?_)
        refine ev_q rfl (q_idx tE22 rfl rfl (by exact Int.natCast_nonneg _) (by exact map_get hq) rfl ?_)
        refine ev_q rfl (q_load tA2 rfl ?_)
        refine ev_k rfl (k_lit tE22 zA2 rfl rfl (by decide) (by decide) rfl rfl rfl ?_)
        refine ev_k rfl (k_app tApp22 rfl rfl (by simp) rfl (.inr rfl) (by first | (simp [maxLen]; done) | (simp [maxLen]; omega)) (by first | (simp; done) | (simp; omega)) ?_)
        refine ev_q rfl (q_assign (by conv => lhs; whnf) ?_)
        refine ev_nil (hK14 _ ?_); clear hK14
        refine good_region rfl ?_
        refine ev_q rfl (q_move (by conv => lhs; whnf) ?_)
        refine ev_q rfl (q_int rfl rfl ?_)
        intro n24 hn24
        replace hn24 := in64 hn24 (by omega) (by omega)
        refine ev_q rfl (q_assign (by conv => lhs; whnf) ?_)
        refine ev_nil ?_
        clear hK4
        refine ⟨i + 1, ?_, ?_, ?_⟩
        · show _ ≤ _; omega
        · first | omega | (simp only []; omega) | (dsimp only; omega)
        · refine sub_weak ?_ ?_
          · exact weakH_row (rowEq (by first | exact apP2 (by rw [hst]) rfl rfl | exact apP (by rw [hst]) rfl)) (weakH_none _)
          · refine weakE_upd ?e7 ?r7 (weakE_upd ?e6 ?r6 (weakE_upd ?e5 ?r5 (weakE_upd ?e1 ?r1 (weakE_upd ?e0 ?r0 (weakE_junk _ _)))))
            case e0 => first | rfl | exact fI (by omega) | (simp_all)
            case r0 => intro h hh; cases hh
            case e1 => first | rfl | exact fI (by omega) | (simp_all)
            case r1 => intro h hh; cases hh
            case e5 => first | rfl | exact fI (by omega) | (first | rfl | exact ownEq (by rw [hst]; simp))
            case r5 => intro h hh; simp [refs] at hh; subst hh; rfl
            case e6 => first | rfl | exact fI (by omega) | (first | rfl | (rw [hst]; done) | (rw [hst]; rfl) | (rw [hst]; show AV.s (.bool (puL xs n i).2) = _; rw [hd16]; rfl))
            case r6 => intro h hh; cases hh
            case e7 => first | rfl | exact fI (by omega) | (simp_all)
            case r7 => intro h hh; cases hh

-- spec.WorstPipes
set_option maxRecDepth 20000 in
set_option maxHeartbeats 2000000 in
theorem D_spec_WorstPipes_X (ns : List Int) (ps : List Pi) (cnt : Int) (hn : ns.length ≤ 17592186044416) (hp : ps.length ≤ 2513169434843) (hz : idSz ps) : DenX Try.prog 6 [] [.agg [.lst 1 (ns.map ci), .lst 6 (ps.map piA)], .s (.int .i64 cnt)] [(900003, .row 2 1 ((wpR ns ps cnt).map ci))] (.tup [.own 900003 (wpR ns ps cnt).length, .s (.int .i64 (wpC ns ps cnt))]) := by
  refine denX_of_good Try.func6 (by decide) rfl (Nat.le_of_ble_eq_true rfl) (Nat.le_of_ble_eq_true rfl) rfl ?_
  refine good_seq fun K1 hK1 => ?_
  refine good_region rfl ?_
  refine ev_k rfl (k_box (by conv => lhs; whnf) rfl rfl rfl ?_)
  refine ev_q rfl (q_assign (by conv => lhs; whnf) ?_)
  refine ev_q rfl (q_assign (by conv => lhs; whnf) ?_)
  refine ev_nil (hK1 _ ?_); clear hK1
  refine good_seq fun K2 hK2 => ?_
  refine good_seq fun K3 hK3 => ?_
  refine good_region rfl ?_
  refine ev_q rfl (q_callB rfl rfl (rfl) (D_spec_l04Ok ns ps hn hp hz) ?_)
  intro b4 hb4; cases b4
  · first | replace hb4 := dF hb4 | skip
    refine ev_q rfl (q_not rfl rfl ?_)
    refine ev_nil (hK3 _ ?_); clear hK3
    refine good_condT rfl ?_
    refine good_seq fun K5 hK5 => ?_
    refine good_region rfl ?_
    refine ev_q rfl (q_assign (by conv => lhs; whnf) ?_)
    refine ev_q rfl (q_assign (by conv => lhs; whnf) ?_)
    refine ev_nil (hK5 _ ?_); clear hK5
    refine good_ret ?_
    repeat (first | refine thenQ_ret ?_ | refine blockQ_ret ?_)
    refine fx_many rfl ?_
    refine fxs_tmp (by conv => lhs; whnf) ?_
    refine fxs_tmp (by conv => lhs; whnf) ?_
    refine fx_nil ?_
    clear hK2
    first | (have hwp := wp_1 (ns := ns) (ps := ps) (c := cnt) (by assumption)) | (have hwp := wp_0 (ns := ns) (ps := ps) (c := cnt) (by assumption) (by omega)) | (have hwp := wp_2 (ns := ns) (ps := ps) (c := cnt) (by assumption) (by omega))
    obtain ⟨e2, e⟩ := hwp
    first | (have ek : cnt.toNat = k := (by omega); rw [ek] at e) | skip
    exact ⟨_, .tup (.cons (conv_nil rfl (by decide) (by rw [e]; rfl)) (.cons (conv_eq (by first | rfl | exact fI (by omega) | (exfalso; first | omega | grind))) (.nil))), weakH_row (rowEq (by first | (rw [e]; done) | (rw [e]; rfl))) (weakH_none _), refsIn_ok rfl⟩
  · first | replace hb4 := dT hb4 | skip
    refine ev_q rfl (q_not rfl rfl ?_)
    refine ev_nil (hK3 _ ?_); clear hK3
    refine good_condF rfl ?_
    refine good_skip (hK2 _ ?_); clear hK2
    refine good_seq fun K6 hK6 => ?_
    refine good_seq fun K7 hK7 => ?_
    refine good_region rfl ?_
    refine ev_q rfl (q_move (by conv => lhs; whnf) ?_)
    refine ev_q rfl (q_fieldAddrP fO31_1 rfl rfl ?_)
    refine ev_q rfl (q_load tA29 rfl ?_)
    refine ev_q rfl (q_len tEs29 rfl ?_)
    intro n8 hn8
    try simp only [List.length_map] at hn8
    refine ev_q rfl (q_callB rfl rfl (rfl) (D_spec_l00In ..) ?_)
    intro b9 hb9; cases b9
    · first | replace hb9 := dF hb9 | skip
      refine ev_q rfl (q_not rfl rfl ?_)
      refine ev_nil (hK7 _ ?_); clear hK7
      refine good_condT rfl ?_
      refine good_seq fun K10 hK10 => ?_
      refine good_region rfl ?_
      refine ev_q rfl (q_assign (by conv => lhs; whnf) ?_)
      refine ev_q rfl (q_assign (by conv => lhs; whnf) ?_)
      refine ev_nil (hK10 _ ?_); clear hK10
      refine good_ret ?_
      repeat (first | refine thenQ_ret ?_ | refine blockQ_ret ?_)
      refine fx_many rfl ?_
      refine fxs_tmp (by conv => lhs; whnf) ?_
      refine fxs_tmp (by conv => lhs; whnf) ?_
      refine fx_nil ?_
      clear hK6
      first | (have hwp := wp_1 (ns := ns) (ps := ps) (c := cnt) (by assumption)) | (have hwp := wp_0 (ns := ns) (ps := ps) (c := cnt) (by assumption) (by omega)) | (have hwp := wp_2 (ns := ns) (ps := ps) (c := cnt) (by assumption) (by omega))
      obtain ⟨e2, e⟩ := hwp
      first | (have ek : cnt.toNat = k := (by omega); rw [ek] at e) | skip
      exact ⟨_, .tup (.cons (conv_nil rfl (by decide) (by rw [e]; rfl)) (.cons (conv_eq (by first | rfl | exact fI (by omega) | (exfalso; first | omega | grind))) (.nil))), weakH_row (rowEq (by first | (rw [e]; done) | (rw [e]; rfl))) (weakH_none _), refsIn_ok rfl⟩
    · first | replace hb9 := dT hb9 | skip
      refine ev_q rfl (q_not rfl rfl ?_)
      refine ev_nil (hK7 _ ?_); clear hK7
      refine good_condF rfl ?_
      refine good_skip (hK6 _ ?_); clear hK6
      refine good_seq fun K11 hK11 => ?_
      refine good_region rfl ?_
      have hok : netOk ns ps := by assumption
      have h20 := hok.1.2.2
      refine ev_k rfl (k_lit tE22 zA2 rfl rfl (by decide) (by decide) rfl rfl rfl ?_)
      refine ev_q rfl (q_assign (by conv => lhs; whnf) ?_)
      refine ev_nil (hK11 _ ?_); clear hK11
      refine good_seq fun K12 hK12 => ?_
      refine good_block ?_
      refine good_loop (α := Nat) (fun k => { env := upd (upd (upd ((fun _ => .junk)) 1 (.s (.int .i64 cnt))) 2 (.ptr 2 0)) 6 (.own 69 (srtI ((wl (pk ps) ps.length).take k)).length), H := upd (upd ((fun _ => none)) 69 (some (.row 2 1 ((srtI ((wl (pk ps) ps.length).take k)).map ci)))) 2 (some (.box 31 [.lst 1 (ns.map ci), .lst 6 (ps.map piA)])) }) (fun k => (k : Int) ≤ cnt) (fun k => cnt.toNat - k) 0 ?_ ?_ ?_
      · show ((0 : Nat) : Int) ≤ _; omega
      · refine Sub.trans (sub_move 6 17 69 rfl rfl rfl (by decide)) ?_
        refine sub_weak ?_ ?_
        · exact weakH_box (boxEq (rfl)) rfl (weakH_row (rowEq (by simp [srtI])) (weakH_none _))
        · refine weakE_upd ?e6 ?r6 (weakE_upd ?e2 ?r2 (weakE_upd ?e1 ?r1 (weakE_junk _ _)))
          case e1 => first | rfl | exact fI (by omega) | (simp_all)
          case r1 => intro h hh; cases hh
          case e2 => first | rfl | exact fI (by omega) | (simp_all)
          case r2 => intro h hh; simp [refs] at hh; subst hh; rfl
          case e6 => first | rfl | exact fI (by omega) | (first | rfl | exact ownEq (by first | (rw [hpe]; done) | (simp [srtI]; done)))
          case r6 => intro h hh; simp [refs] at hh; subst hh; rfl
      · rintro k hI
        refine good_seq fun K13 hK13 => ?_
        refine good_seq fun K14 hK14 => ?_
        refine good_region rfl ?_
        refine ev_q rfl (q_move (by conv => lhs; whnf) ?_)
        refine ev_q rfl (q_len tEs22 rfl ?_)
        intro n15 hn15
        try simp only [List.length_map] at hn15
        refine ev_q rfl (q_move (by conv => lhs; whnf) ?_)
        refine ev_q rfl (q_int rfl rfl ?_)
        intro b16 hb16; cases b16
        · replace hb16 := dF hb16
          have hkl := swt_len (K := pk ps) (n := ps.length) (k := k) (by omega)
          refine ev_nil (hK14 _ ?_); clear hK14
          refine good_condF rfl ?_
          refine good_exit ?_
          repeat (first | refine thenQ_exit ?_ | refine blockQ_pass rfl ?_)
          refine blockQ_exit (hK12 _ ?_); clear hK12
          refine good_seq fun K17 hK17 => ?_
          refine good_region rfl ?_
          refine ev_q rfl (q_move (by conv => lhs; whnf) ?_)
          refine ev_q rfl (q_assign (by conv => lhs; whnf) ?_)
          refine ev_q rfl (q_assign (by conv => lhs; whnf) ?_)
          refine ev_nil (hK17 _ ?_); clear hK17
          refine good_weak (sub_move 4 69 900003 rfl rfl rfl (by decide)) ?_
          refine good_ret ?_
          repeat (first | refine thenQ_ret ?_ | refine blockQ_ret ?_)
          refine fx_many rfl ?_
          refine fxs_tmp (by conv => lhs; whnf) ?_
          refine fxs_tmp (by conv => lhs; whnf) ?_
          refine fx_nil ?_
          clear hK13
          first | (have hwp := wp_1 (ns := ns) (ps := ps) (c := cnt) (by assumption)) | (have hwp := wp_0 (ns := ns) (ps := ps) (c := cnt) (by assumption) (by omega)) | (have hwp := wp_2 (ns := ns) (ps := ps) (c := cnt) (by assumption) (by omega))
          obtain ⟨e2, e⟩ := hwp
          first | (have ek : cnt.toNat = k := (by omega); rw [ek] at e) | skip
          exact ⟨_, .tup (.cons (conv_eq (by first | rfl | (rw [e]; done) | (rw [e]; rfl) | exact ownEq (by first | omega | simp_all))) (.cons (conv_eq (by first | rfl | exact fI (by omega) | (exfalso; first | omega | grind))) (.nil))), weakH_row (rowEq (by first | (rw [e]; done) | (rw [e]; rfl))) (weakH_none _), refsIn_ok rfl⟩
        · replace hb16 := dT hb16
          have hkl := swt_len (K := pk ps) (n := ps.length) (k := k) (by omega)
          refine ev_nil (hK14 _ ?_); clear hK14
          refine good_condT rfl ?_
          refine good_skip (hK13 _ ?_); clear hK13
          refine good_block ?_
          refine good_seq fun K18 hK18 => ?_
          refine good_region rfl ?_
          refine ev_q rfl (q_assign (by conv => lhs; whnf) ?_)
          refine ev_nil (hK18 _ ?_); clear hK18
          refine good_seq fun K19 hK19 => ?_
          refine good_seq fun K20 hK20 => ?_
          refine good_region rfl ?_
          refine ev_q rfl (q_assign (by conv => lhs; whnf) ?_)
          refine ev_nil (hK20 _ ?_); clear hK20
          refine good_block ?_
          refine good_loop (α := Nat) (fun i => { env := upd (upd (upd (upd (upd ((fun _ => .junk)) 1 (.s (.int .i64 cnt))) 2 (.ptr 2 0)) 6 (.own 69 (srtI ((wl (pk ps) ps.length).take k)).length)) 7 (.s (.int .i64 (bst (pk ps) (srtI ((wl (pk ps) ps.length).take k)) i)))) 8 (.s (.int .i64 ((i : Int)))), H := upd (upd ((fun _ => none)) 69 (some (.row 2 1 ((srtI ((wl (pk ps) ps.length).take k)).map ci)))) 2 (some (.box 31 [.lst 1 (ns.map ci), .lst 6 (ps.map piA)])) }) (fun i => i ≤ ps.length) (fun i => ps.length - i) 0 ?_ ?_ ?_
          · show 0 ≤ _; omega
          · refine sub_weak ?_ ?_
            · exact weakH_box (boxEq (rfl)) rfl (weakH_row (rowEq (rfl)) (weakH_none _))
            · refine weakE_upd ?e8 ?r8 (weakE_upd ?e7 ?r7 (weakE_upd ?e6 ?r6 (weakE_upd ?e2 ?r2 (weakE_upd ?e1 ?r1 (weakE_junk _ _)))))
              case e1 => first | rfl | exact fI (by omega) | (simp_all)
              case r1 => intro h hh; cases hh
              case e2 => first | rfl | exact fI (by omega) | (simp_all)
              case r2 => intro h hh; simp [refs] at hh; subst hh; rfl
              case e6 => first | rfl | exact fI (by omega) | (simp_all)
              case r6 => intro h hh; simp [refs] at hh; subst hh; rfl
              case e7 => first | rfl | exact fI (by omega) | (first | rfl | exact fI (by rw [hst]))
              case r7 => intro h hh; cases hh
              case e8 => first | rfl | exact fI (by omega) | (simp_all)
              case r8 => intro h hh; cases hh
          · rintro i hJ
            refine good_seq fun K21 hK21 => ?_
            refine good_seq fun K22 hK22 => ?_
            refine good_region rfl ?_
            refine ev_q rfl (q_move (by conv => lhs; whnf) ?_)
            refine ev_q rfl (q_fieldAddrP fO31_1 rfl rfl ?_)
            refine ev_q rfl (q_load tA29 rfl ?_)
            refine ev_q rfl (q_len tEs29 rfl ?_)
            intro n23 hn23
            try simp only [List.length_map] at hn23
            refine ev_q rfl (q_int rfl rfl ?_)
            intro b24 hb24; cases b24
            · replace hb24 := dF hb24
              have ei : i = ps.length := by omega
              subst ei
              have hpe := put_end2 (K := pk ps) (n := ps.length) (k := k) (by omega)
              refine ev_nil (hK22 _ ?_); clear hK22
              refine good_condF rfl ?_
              refine good_exit ?_
              repeat (first | refine thenQ_exit ?_ | refine blockQ_pass rfl ?_)
              refine blockQ_exit (hK19 _ ?_); clear hK19
              refine good_weak (sub_move 6 69 70 rfl rfl rfl (by decide)) ?_
              refine good_region rfl ?_
              refine ev_q rfl (q_move (by conv => lhs; whnf) ?_)
              refine ev_q rfl (q_move (by conv => lhs; whnf) ?_)
              refine ev_k rfl (k_callXc [(900001, 69)] (D_spec_l00Put_X (srtI ((wl (pk ps) ps.length).take k)) (bst (pk ps) (srtI ((wl (pk ps) ps.length).take k)) ps.length) (by rw [swt_len (by omega)]; omega)) rfl (by change some ([.lst 1 (List.take (srtI ((wl (pk ps) ps.length).take k)).length ((srtI ((wl (pk ps) ps.length).take k)).map ci)), .s (.int .i64 (bst (pk ps) (srtI ((wl (pk ps) ps.length).take k)) ps.length))] : List AV) = some _; (simp only [takeMap]) <;> rfl) (⟨rfl, ⟨pure_ci, trivial⟩⟩) trivial ⟨⟨rfl, show (69 : Nat) < 1000000 by decide⟩, trivial⟩ rfl rfl rfl ?_)
              refine ev_q rfl (q_assign (by conv => lhs; whnf) ?_)
              refine ev_nil ?_
              clear hK12 hK21
              refine ⟨k + 1, ?_, ?_, ?_⟩
              · show ((_ + 1 : Nat) : Int) ≤ _; omega
              · first | omega | (simp only []; omega) | (dsimp only; omega)
              · refine sub_weak ?_ ?_
                · exact weakH_box (boxEq (rfl)) rfl (weakH_row (rowEq (by rw [hpe])) (weakH_none _))
                · refine weakE_upd ?e6 ?r6 (weakE_upd ?e2 ?r2 (weakE_upd ?e1 ?r1 (weakE_junk _ _)))
                  case e1 => first | rfl | exact fI (by omega) | (simp_all)
                  case r1 => intro h hh; cases hh
                  case e2 => first | rfl | exact fI (by omega) | (simp_all)
                  case r2 => intro h hh; simp [refs] at hh; subst hh; rfl
                  case e6 => first | rfl | exact fI (by omega) | (first | rfl | exact ownEq (by first | (rw [hpe]; done) | (simp [srtI]; done)))
                  case r6 => intro h hh; simp [refs] at hh; subst hh; rfl
            · replace hb24 := dT hb24
              obtain ⟨p, hpi⟩ := getL (xs := ps) (n := (i : Int)) (by omega) (by omega)
              replace hpi : ps[i]? = some p := hpi
              have hpm := pk_mul (hok.2 _ _ hpi).1.1
              have hbd := bst_bd (K := pk ps) (O := (srtI ((wl (pk ps) ps.length).take k))) i
              refine ev_nil (hK22 _ ?_); clear hK22
              refine good_condT rfl ?_
              refine good_skip (hK21 _ ?_); clear hK21
              refine good_seq fun K25 hK25 => ?_
              refine good_block ?_
              refine good_seq fun K26 hK26 => ?_
              refine good_draw 37 hmix (by kernel_rfl) rfl ?_
              refine qo_q rfl (q_move (by conv => lhs; whnf) ?_)
              refine qo_q rfl (q_move (by conv => lhs; whnf) ?_)
              refine qo_q rfl (q_callB rfl rfl (by change ([.lst 1 (List.take (srtI ((wl (pk ps) ps.length).take k)).length ((srtI ((wl (pk ps) ps.length).take k)).map ci)), .s (.int .i64 ((i : Int)))] : List AV) = _; rw [takeMap]) (D_spec_l00Has (srtI ((wl (pk ps) ps.length).take k)) _ (by rw [swt_len (by omega)]; omega)) ?_)
              intro b27 hb27; cases b27
              · first | replace hb27 := dF hb27 | skip
                refine qo_q rfl (q_not rfl rfl ?_)
                refine qo_q rfl (q_move (by conv => lhs; whnf) ?_)
                refine qo_q rfl (q_move (by conv => lhs; whnf) ?_)
                refine qo_q rfl (q_int rfl rfl ?_)
                intro b28 hb28; cases b28
                · replace hb28 := dF hb28
                  refine qo_q rfl (q_move (by conv => lhs; whnf) ?_)
                  refine qo_q rfl (q_fieldAddrP fO31_1 rfl rfl ?_)
                  refine qo_q rfl (q_load tA29 rfl ?_)
                  refine qo_q rfl (q_move (by conv => lhs; whnf) ?_)
                  refine qo_q rfl (q_idx tE29 rfl rfl (by omega) (by first | exact map_get hpi | exact map_get hpb) rfl ?_)
                  refine qo_q rfl (q_fieldAddr fO47_5 rfl rfl ?_)
                  refine qo_q rfl (q_load tA2 rfl ?_)
                  refine qo_q rfl (q_fieldAddrP fO31_1 rfl rfl ?_)
                  refine qo_q rfl (q_load tA29 rfl ?_)
                  refine qo_q rfl (q_move (by conv => lhs; whnf) ?_)
                  refine qo_q rfl (q_idx tE29 rfl rfl (by omega) (by first | exact map_get hpi | exact map_get hpb) rfl ?_)
                  refine qo_q rfl (q_fieldAddr fO47_3 rfl rfl ?_)
                  refine qo_q rfl (q_load tA2 rfl ?_)
                  refine qo_q rfl (q_int rfl rfl ?_)
                  intro n29 hn29
                  replace hn29 := in64 hn29 (by omega) (by omega)
                  refine qo_q rfl (q_fieldAddrP fO31_1 rfl rfl ?_)
                  refine qo_q rfl (q_load tA29 rfl ?_)
                  obtain ⟨pb, hpb⟩ := getL (xs := ps) (n := bst (pk ps) (srtI ((wl (pk ps) ps.length).take k)) i) (by omega) (by omega)
                  have hbm := pk_mul (hok.2 _ _ hpb).1.1
                  refine qo_q rfl (q_move (by conv => lhs; whnf) ?_)
                  refine qo_q rfl (q_idx tE29 rfl rfl (by omega) (by first | exact map_get hpi | exact map_get hpb) rfl ?_)
                  refine qo_q rfl (q_fieldAddr fO47_5 rfl rfl ?_)
                  refine qo_q rfl (q_load tA2 rfl ?_)
                  refine qo_q rfl (q_fieldAddrP fO31_1 rfl rfl ?_)
                  refine qo_q rfl (q_load tA29 rfl ?_)
                  refine qo_q rfl (q_move (by conv => lhs; whnf) ?_)
                  refine qo_q rfl (q_idx tE29 rfl rfl (by omega) (by first | exact map_get hpi | exact map_get hpb) rfl ?_)
                  refine qo_q rfl (q_fieldAddr fO47_3 rfl rfl ?_)
                  refine qo_q rfl (q_load tA2 rfl ?_)
                  refine qo_q rfl (q_int rfl rfl ?_)
                  intro n30 hn30
                  replace hn30 := in64 hn30 (by omega) (by omega)
                  refine qo_q rfl (q_int rfl rfl ?_)
                  intro b31 hb31; cases b31
                  · replace hb31 := dF hb31
                    have hst := bst_F (K := pk ps) (O := (srtI ((wl (pk ps) ps.length).take k))) (i := i) (by omega) (by rw [pk_eq hpb, pk_eq (j := (i : Int)) hpi]; omega)
                    refine qo_q rfl (q_pickF rfl (by conv => lhs; whnf) ?_)
                    refine qo_q rfl (q_pickT rfl (by conv => lhs; whnf) ?_)
                    refine qo_nil ?_
                    refine ev_nil (hK26 _ ?_); clear hK26
                    refine good_condF rfl ?_
                    refine good_skip (hK25 _ ?_); clear hK25
                    refine good_region rfl ?_
                    refine ev_q rfl (q_move (by conv => lhs; whnf) ?_)
                    refine ev_q rfl (q_int rfl rfl ?_)
                    intro n32 hn32
                    replace hn32 := in64 hn32 (by omega) (by omega)
                    refine ev_q rfl (q_assign (by conv => lhs; whnf) ?_)
                    refine ev_nil ?_
                    clear hK12 hK19
                    refine ⟨i + 1, ?_, ?_, ?_⟩
                    · show _ ≤ _; omega
                    · first | omega | (simp only []; omega) | (dsimp only; omega)
                    · refine sub_weak ?_ ?_
                      · exact weakH_box (boxEq (rfl)) rfl (weakH_row (rowEq (rfl)) (weakH_none _))
                      · refine weakE_upd ?e8 ?r8 (weakE_upd ?e7 ?r7 (weakE_upd ?e6 ?r6 (weakE_upd ?e2 ?r2 (weakE_upd ?e1 ?r1 (weakE_junk _ _)))))
                        case e1 => first | rfl | exact fI (by omega) | (simp_all)
                        case r1 => intro h hh; cases hh
                        case e2 => first | rfl | exact fI (by omega) | (simp_all)
                        case r2 => intro h hh; simp [refs] at hh; subst hh; rfl
                        case e6 => first | rfl | exact fI (by omega) | (simp_all)
                        case r6 => intro h hh; simp [refs] at hh; subst hh; rfl
                        case e7 => first | rfl | exact fI (by omega) | (first | rfl | exact fI (by rw [hst]))
                        case r7 => intro h hh; cases hh
                        case e8 => first | rfl | exact fI (by omega) | (simp_all)
                        case r8 => intro h hh; cases hh
                  · replace hb31 := dT hb31
                    have hst := bst_T (K := pk ps) (O := (srtI ((wl (pk ps) ps.length).take k))) (i := i) (by assumption) (.inr (by rw [pk_eq hpb, pk_eq (j := (i : Int)) hpi]; omega))
                    refine qo_q rfl (q_pickF rfl (by conv => lhs; whnf) ?_)
                    refine qo_q rfl (q_pickT rfl (by conv => lhs; whnf) ?_)
                    refine qo_nil ?_
                    refine ev_nil (hK26 _ ?_); clear hK26
                    refine good_condT rfl ?_
                    refine good_region rfl ?_
                    refine ev_q rfl (q_move (by conv => lhs; whnf) ?_)
                    refine ev_q rfl (q_assign (by conv => lhs; whnf) ?_)
                    refine ev_nil (hK25 _ ?_); clear hK25
                    refine good_region rfl ?_
                    refine ev_q rfl (q_move (by conv => lhs; whnf) ?_)
                    refine ev_q rfl (q_int rfl rfl ?_)
                    intro n33 hn33
                    replace hn33 := in64 hn33 (by omega) (by omega)
                    refine ev_q rfl (q_assign (by conv => lhs; whnf) ?_)
                    refine ev_nil ?_
                    clear hK12 hK19
                    refine ⟨i + 1, ?_, ?_, ?_⟩
                    · show _ ≤ _; omega
                    · first | omega | (simp only []; omega) | (dsimp only; omega)
                    · refine sub_weak ?_ ?_
                      · exact weakH_box (boxEq (rfl)) rfl (weakH_row (rowEq (rfl)) (weakH_none _))
                      · refine weakE_upd ?e8 ?r8 (weakE_upd ?e7 ?r7 (weakE_upd ?e6 ?r6 (weakE_upd ?e2 ?r2 (weakE_upd ?e1 ?r1 (weakE_junk _ _)))))
                        case e1 => first | rfl | exact fI (by omega) | (simp_all)
                        case r1 => intro h hh; cases hh
                        case e2 => first | rfl | exact fI (by omega) | (simp_all)
                        case r2 => intro h hh; simp [refs] at hh; subst hh; rfl
                        case e6 => first | rfl | exact fI (by omega) | (simp_all)
                        case r6 => intro h hh; simp [refs] at hh; subst hh; rfl
                        case e7 => first | rfl | exact fI (by omega) | (first | rfl | exact fI (by rw [hst]))
                        case r7 => intro h hh; cases hh
                        case e8 => first | rfl | exact fI (by omega) | (simp_all)
                        case r8 => intro h hh; cases hh
                · replace hb28 := dT hb28
                  have hst := bst_T (K := pk ps) (O := (srtI ((wl (pk ps) ps.length).take k))) (i := i) (by assumption) (.inl (by omega))
                  refine qo_q rfl (q_move (by conv => lhs; whnf) ?_)
                  refine qo_skip rfl ?_
                  refine qo_skip rfl ?_
                  refine qo_skip rfl ?_
                  refine qo_skip rfl ?_
                  refine qo_skip rfl ?_
                  refine qo_skip rfl ?_
                  refine qo_skip rfl ?_
                  refine qo_skip rfl ?_
                  refine qo_skip rfl ?_
                  refine qo_skip rfl ?_
                  refine qo_skip rfl ?_
                  refine qo_skip rfl ?_
                  refine qo_skip rfl ?_
                  refine qo_skip rfl ?_
                  refine qo_skip rfl ?_
                  refine qo_skip rfl ?_
                  refine qo_skip rfl ?_
                  refine qo_skip rfl ?_
                  refine qo_skip rfl ?_
                  refine qo_skip rfl ?_
                  refine qo_skip rfl ?_
                  refine qo_skip rfl ?_
                  refine qo_skip rfl ?_
                  refine qo_skip rfl ?_
                  refine qo_skip rfl ?_
                  refine qo_skip rfl ?_
                  refine qo_skip rfl ?_
                  refine qo_q rfl (q_pickT rfl (by conv => lhs; whnf) ?_)
                  refine qo_q rfl (q_pickT rfl (by conv => lhs; whnf) ?_)
                  refine qo_nil ?_
                  refine ev_nil (hK26 _ ?_); clear hK26
                  refine good_condT rfl ?_
                  refine good_region rfl ?_
                  refine ev_q rfl (q_move (by conv => lhs; whnf) ?_)
                  refine ev_q rfl (q_assign (by conv => lhs; whnf) ?_)
                  refine ev_nil (hK25 _ ?_); clear hK25
                  refine good_region rfl ?_
                  refine ev_q rfl (q_move (by conv => lhs; whnf) ?_)
                  refine ev_q rfl (q_int rfl rfl ?_)
                  intro n34 hn34
                  replace hn34 := in64 hn34 (by omega) (by omega)
                  refine ev_q rfl (q_assign (by conv => lhs; whnf) ?_)
                  refine ev_nil ?_
                  clear hK12 hK19
                  refine ⟨i + 1, ?_, ?_, ?_⟩
                  · show _ ≤ _; omega
                  · first | omega | (simp only []; omega) | (dsimp only; omega)
                  · refine sub_weak ?_ ?_
                    · exact weakH_box (boxEq (rfl)) rfl (weakH_row (rowEq (rfl)) (weakH_none _))
                    · refine weakE_upd ?e8 ?r8 (weakE_upd ?e7 ?r7 (weakE_upd ?e6 ?r6 (weakE_upd ?e2 ?r2 (weakE_upd ?e1 ?r1 (weakE_junk _ _)))))
                      case e1 => first | rfl | exact fI (by omega) | (simp_all)
                      case r1 => intro h hh; cases hh
                      case e2 => first | rfl | exact fI (by omega) | (simp_all)
                      case r2 => intro h hh; simp [refs] at hh; subst hh; rfl
                      case e6 => first | rfl | exact fI (by omega) | (simp_all)
                      case r6 => intro h hh; simp [refs] at hh; subst hh; rfl
                      case e7 => first | rfl | exact fI (by omega) | (first | rfl | exact fI (by rw [hst]))
                      case r7 => intro h hh; cases hh
                      case e8 => first | rfl | exact fI (by omega) | (simp_all)
                      case r8 => intro h hh; cases hh
              · first | replace hb27 := dT hb27 | skip
                have hst := bst_M (K := pk ps) hb27
                refine qo_q rfl (q_not rfl rfl ?_)
                refine qo_q rfl (q_move (by conv => lhs; whnf) ?_)
                refine qo_skip rfl ?_
                refine qo_skip rfl ?_
                refine qo_skip rfl ?_
                refine qo_skip rfl ?_
                refine qo_skip rfl ?_
                refine qo_skip rfl ?_
                refine qo_skip rfl ?_
                refine qo_skip rfl ?_
                refine qo_skip rfl ?_
                refine qo_skip rfl ?_
                refine qo_skip rfl ?_
                refine qo_skip rfl ?_
                refine qo_skip rfl ?_
                refine qo_skip rfl ?_
                refine qo_skip rfl ?_
                refine qo_skip rfl ?_
                refine qo_skip rfl ?_
                refine qo_skip rfl ?_
                refine qo_skip rfl ?_
                refine qo_skip rfl ?_
                refine qo_skip rfl ?_
                refine qo_skip rfl ?_
                refine qo_skip rfl ?_
                refine qo_skip rfl ?_
                refine qo_skip rfl ?_
                refine qo_skip rfl ?_
                refine qo_skip rfl ?_
                refine qo_skip rfl ?_
                refine qo_skip rfl ?_
                refine qo_skip rfl ?_
                refine qo_skip rfl ?_
                refine qo_q rfl (q_pickF rfl (by conv => lhs; whnf) ?_)
                refine qo_nil ?_
                refine ev_nil (hK26 _ ?_); clear hK26
                refine good_condF rfl ?_
                refine good_skip (hK25 _ ?_); clear hK25
                refine good_region rfl ?_
                refine ev_q rfl (q_move (by conv => lhs; whnf) ?_)
                refine ev_q rfl (q_int rfl rfl ?_)
                intro n35 hn35
                replace hn35 := in64 hn35 (by omega) (by omega)
                refine ev_q rfl (q_assign (by conv => lhs; whnf) ?_)
                refine ev_nil ?_
                clear hK12 hK19
                refine ⟨i + 1, ?_, ?_, ?_⟩
                · show _ ≤ _; omega
                · first | omega | (simp only []; omega) | (dsimp only; omega)
                · refine sub_weak ?_ ?_
                  · exact weakH_box (boxEq (rfl)) rfl (weakH_row (rowEq (rfl)) (weakH_none _))
                  · refine weakE_upd ?e8 ?r8 (weakE_upd ?e7 ?r7 (weakE_upd ?e6 ?r6 (weakE_upd ?e2 ?r2 (weakE_upd ?e1 ?r1 (weakE_junk _ _)))))
                    case e1 => first | rfl | exact fI (by omega) | (simp_all)
                    case r1 => intro h hh; cases hh
                    case e2 => first | rfl | exact fI (by omega) | (simp_all)
                    case r2 => intro h hh; simp [refs] at hh; subst hh; rfl
                    case e6 => first | rfl | exact fI (by omega) | (simp_all)
                    case r6 => intro h hh; simp [refs] at hh; subst hh; rfl
                    case e7 => first | rfl | exact fI (by omega) | (first | rfl | exact fI (by rw [hst]))
                    case r7 => intro h hh; cases hh
                    case e8 => first | rfl | exact fI (by omega) | (simp_all)
                    case r8 => intro h hh; cases hh
theorem D_spec_WorstPipes (ns : List Int) (ps : List Pi) (cnt : Int) (hn : ns.length ≤ 17592186044416) (hp : ps.length ≤ 2513169434843) (hz : idSz ps) : Den Try.prog 6 [.agg [.lst 1 (ns.map ci), .lst 6 (ps.map piA)], .s (.int .i64 cnt)] (.tup [.lst 1 ((wpR ns ps cnt).map ci), .s (.int .i64 (wpC ns ps cnt))]) :=
  den_of_denX (D_spec_WorstPipes_X ns ps cnt hn hp hz) (by change (some (.tup [.lst 1 (List.take (wpR ns ps cnt).length ((wpR ns ps cnt).map ci)), .s (.int .i64 (wpC ns ps cnt))]) : Option AV) = some (.tup [.lst 1 ((wpR ns ps cnt).map ci), .s (.int .i64 (wpC ns ps cnt))]); simp only [takeMap])

-- laws.markInt64S
set_option maxRecDepth 20000 in
set_option maxHeartbeats 2000000 in
theorem D_laws_markInt64S (xs : List Int) (k : Int) (hx : xs.length ≤ 17592186044416) (hk : 0 ≤ k ∧ k ≤ 1000000000000000) : DenX Try.prog 12 [(1000000, .row 2 1 (xs.map ci))] [.own 1000000 xs.length, .s (.int .i64 k)] [(1000000, .row 2 1 (mkC k xs xs.length))] (.s (.int .i64 (k + xs.length))) := by
  refine denX_of_good Try.func12 (by decide) rfl (Nat.le_of_ble_eq_true rfl) (Nat.le_of_ble_eq_true rfl) rfl ?_
  refine good_seq fun K1 hK1 => ?_
  refine good_region rfl ?_
  refine ev_q rfl (q_assign (by conv => lhs; whnf) ?_)
  refine ev_nil (hK1 _ ?_); clear hK1
  refine good_seq fun K2 hK2 => ?_
  refine good_seq fun K3 hK3 => ?_
  refine good_region rfl ?_
  refine ev_q rfl (q_assign (by conv => lhs; whnf) ?_)
  refine ev_nil (hK3 _ ?_); clear hK3
  refine good_block ?_
  refine good_loop (α := Nat) (fun i => { env := upd (upd (upd ((fun _ => .junk)) 0 (.own 1000000 xs.length)) 1 (.s (.int .i64 (k + i)))) 5 (.s (.int .i64 i)), H := upd ((fun _ => none)) 1000000 (some (.row 2 1 (mkC k xs i))) }) (fun i => i ≤ xs.length) (fun i => xs.length - i) 0 ?_ ?_ ?_
  · show 0 ≤ _; omega
  · refine sub_weak ?_ ?_
    · exact weakH_row (rowEq (mkC0.symm)) (weakH_none _)
    · refine weakE_upd ?e5 ?r5 (weakE_upd ?e1 ?r1 (weakE_upd ?e0 ?r0 (weakE_junk _ _)))
      case e0 => first | rfl | exact fI (by omega) | (simp_all)
      case r0 => intro h hh; simp [refs] at hh; subst hh; rfl
      case e1 => first | rfl | exact fI (by omega) | (simp_all)
      case r1 => intro h hh; cases hh
      case e5 => first | rfl | exact fI (by omega) | (simp_all)
      case r5 => intro h hh; cases hh
  · rintro i hI
    refine good_seq fun K4 hK4 => ?_
    refine good_seq fun K5 hK5 => ?_
    refine good_region rfl ?_
    refine ev_q rfl (q_move (by conv => lhs; whnf) ?_)
    refine ev_q rfl (q_move (by conv => lhs; whnf) ?_)
    refine ev_q rfl (q_len tEs22 rfl ?_)
    intro n6 hn6
    try simp only [List.length_map] at hn6
    refine ev_q rfl (q_int rfl rfl ?_)
    intro b7 hb7; cases b7
    · replace hb7 := dF hb7
      refine ev_nil (hK5 _ ?_); clear hK5
      refine good_condF rfl ?_
      refine good_exit ?_
      repeat (first | refine thenQ_exit ?_ | refine blockQ_pass rfl ?_)
      refine blockQ_exit (hK2 _ ?_); clear hK2
      refine good_seq fun K8 hK8 => ?_
      refine good_region rfl ?_
      refine ev_q rfl (q_move (by conv => lhs; whnf) ?_)
      refine ev_q rfl (q_assign (by conv => lhs; whnf) ?_)
      refine ev_nil (hK8 _ ?_); clear hK8
      refine good_ret ?_
      repeat (first | refine thenQ_ret ?_ | refine blockQ_ret ?_)
      refine fx_tmp rfl (by conv => lhs; whnf) ?_
      clear hK4
      exact ⟨_, conv_eq (by first | rfl | exact fI (by first | omega | grind) | (exfalso; first | omega | grind)), weakH_row (rowEq (by rw [show i = xs.length by omega])) (weakH_none _), refsIn_ok rfl⟩
    · replace hb7 := dT hb7
      obtain ⟨p, hp⟩ := getL (xs := xs) (n := (i : Int)) (by omega) (by omega)
      refine ev_nil (hK5 _ ?_); clear hK5
      refine good_condT rfl ?_
      refine good_skip (hK4 _ ?_); clear hK4
      refine good_seq fun K9 hK9 => ?_
      refine good_block ?_
      refine good_seq fun K10 hK10 => ?_
      refine good_region rfl ?_
      refine ev_q rfl (q_move (by conv => lhs; whnf) ?_)
      refine ev_q rfl (q_move (by conv => lhs; whnf) ?_)
      refine ev_q rfl (q_move (by conv => lhs; whnf) ?_)
      refine ev_q rfl (q_idxO tE22 rfl rfl rfl (by exact Int.natCast_nonneg _) (by omega) rfl ?_)
      refine ev_k rfl (k_storeE sz2 rfl (by conv => lhs; whnf) rfl rfl rfl (Nat.le_of_ble_eq_true rfl) rfl (by exact mkC_get hp) (Nat.le_of_ble_eq_true rfl) rfl ?_)
      refine ev_nil (hK10 _ ?_); clear hK10
      refine good_region rfl ?_
      refine ev_q rfl (q_move (by conv => lhs; whnf) ?_)
      refine ev_q rfl (q_int rfl rfl ?_)
      intro n11 hn11
      replace hn11 := in64 hn11 (by omega) (by omega)
      refine ev_q rfl (q_assign (by conv => lhs; whnf) ?_)
      refine ev_nil (hK9 _ ?_); clear hK9
      refine good_region rfl ?_
      refine ev_q rfl (q_move (by conv => lhs; whnf) ?_)
      refine ev_q rfl (q_int rfl rfl ?_)
      intro n12 hn12
      replace hn12 := in64 hn12 (by omega) (by omega)
      refine ev_q rfl (q_assign (by conv => lhs; whnf) ?_)
      refine ev_nil ?_
      clear hK2
      refine ⟨i + 1, ?_, ?_, ?_⟩
      · show _ ≤ _; omega
      · first | omega | (simp only []; omega) | (dsimp only; omega)
      · refine sub_weak ?_ ?_
        · exact weakH_row (rowEq (mkC_set (by omega))) (weakH_none _)
        · refine weakE_upd ?e5 ?r5 (weakE_upd ?e1 ?r1 (weakE_upd ?e0 ?r0 (weakE_junk _ _)))
          case e0 => first | rfl | exact fI (by omega) | (simp_all)
          case r0 => intro h hh; simp [refs] at hh; subst hh; rfl
          case e1 => first | rfl | exact fI (by omega) | (simp_all)
          case r1 => intro h hh; cases hh
          case e5 => first | rfl | exact fI (by omega) | (simp_all)
          case r5 => intro h hh; cases hh

-- laws.heldInt64S
set_option maxRecDepth 20000 in
set_option maxHeartbeats 2000000 in
theorem D_laws_heldInt64S (xs : List Int) (k : Int) (hx : xs.length ≤ 17592186044416) (hk : 0 ≤ k ∧ k ≤ 1000000000000000) : Den Try.prog 13 [.lst 1 (mkC k xs xs.length), .s (.int .i64 k)] (.s (.int .i64 (k + xs.length))) := by
  have hl := mkC_len (k := k) (xs := xs) (Nat.le_refl _)
  refine den_of_good Try.func13 (by decide) rfl (Nat.le_of_ble_eq_true rfl) (Nat.le_of_ble_eq_true rfl) ?_
  refine good_seq fun K1 hK1 => ?_
  refine good_region rfl ?_
  refine ev_q rfl (q_assign (by conv => lhs; whnf) ?_)
  refine ev_nil (hK1 _ ?_); clear hK1
  refine good_seq fun K2 hK2 => ?_
  refine good_seq fun K3 hK3 => ?_
  refine good_region rfl ?_
  refine ev_q rfl (q_assign (by conv => lhs; whnf) ?_)
  refine ev_nil (hK3 _ ?_); clear hK3
  refine good_block ?_
  refine good_loop (α := Nat) (fun i => { env := upd (upd (upd ((fun _ => .junk)) 0 (.lst 1 (mkC k xs xs.length))) 1 (.s (.int .i64 (k + i)))) 5 (.s (.int .i64 i)), H := fun _ => none }) (fun i => i ≤ xs.length) (fun i => xs.length - i) 0 ?_ ?_ ?_
  · show 0 ≤ _; omega
  · refine sub_weak ?_ ?_
    · exact weakH_none _
    · refine weakE_upd ?e5 ?r5 (weakE_upd ?e1 ?r1 (weakE_upd ?e0 ?r0 (weakE_junk _ _)))
      case e0 => first | rfl | exact fI (by omega) | (simp_all)
      case r0 => intro h hh; cases hh
      case e1 => first | rfl | exact fI (by omega) | (simp_all)
      case r1 => intro h hh; cases hh
      case e5 => first | rfl | exact fI (by omega) | (simp_all)
      case r5 => intro h hh; cases hh
  · rintro i hI
    refine good_seq fun K4 hK4 => ?_
    refine good_seq fun K5 hK5 => ?_
    refine good_region rfl ?_
    refine ev_q rfl (q_move (by conv => lhs; whnf) ?_)
    refine ev_q rfl (q_move (by conv => lhs; whnf) ?_)
    refine ev_q rfl (q_len tEs22 rfl ?_)
    intro n6 hn6
    try simp only [List.length_map] at hn6
    refine ev_q rfl (q_int rfl rfl ?_)
    intro b7 hb7; cases b7
    · replace hb7 := dF hb7
      refine ev_nil (hK5 _ ?_); clear hK5
      refine good_condF rfl ?_
      refine good_exit ?_
      repeat (first | refine thenQ_exit ?_ | refine blockQ_pass rfl ?_)
      refine blockQ_exit (hK2 _ ?_); clear hK2
      refine good_seq fun K8 hK8 => ?_
      refine good_region rfl ?_
      refine ev_q rfl (q_move (by conv => lhs; whnf) ?_)
      refine ev_q rfl (q_assign (by conv => lhs; whnf) ?_)
      refine ev_nil (hK8 _ ?_); clear hK8
      refine good_ret ?_
      repeat (first | refine thenQ_ret ?_ | refine blockQ_ret ?_)
      refine ret_tmp (st := _) rfl (by conv => lhs; whnf) rfl ?_
      clear hK4
      first | rfl | exact fI (by first | omega | grind) | (exfalso; first | omega | grind)
    · replace hb7 := dT hb7
      refine ev_nil (hK5 _ ?_); clear hK5
      refine good_condT rfl ?_
      refine good_skip (hK4 _ ?_); clear hK4
      refine good_seq fun K9 hK9 => ?_
      refine good_block ?_
      refine good_seq fun K10 hK10 => ?_
      refine good_seq fun K11 hK11 => ?_
      refine good_region rfl ?_
      refine ev_q rfl (q_move (by conv => lhs; whnf) ?_)
      refine ev_q rfl (q_move (by conv => lhs; whnf) ?_)
      refine ev_q rfl (q_idx tE22 rfl rfl (by exact Int.natCast_nonneg _) (by exact mkC_held (by omega)) rfl ?_)
      refine ev_q rfl (q_load tA2 rfl ?_)
      refine ev_q rfl (q_move (by conv => lhs; whnf) ?_)
      refine ev_q rfl (q_int rfl rfl ?_)
      intro b12 hb12; cases b12
      · replace hb12 := neF hb12
        refine ev_nil (hK11 _ ?_); clear hK11
        refine good_condF rfl ?_
        refine good_skip (hK10 _ ?_); clear hK10
        refine good_region rfl ?_
        refine ev_q rfl (q_move (by conv => lhs; whnf) ?_)
        refine ev_q rfl (q_int rfl rfl ?_)
        intro n13 hn13
        replace hn13 := in64 hn13 (by omega) (by omega)
        refine ev_q rfl (q_assign (by conv => lhs; whnf) ?_)
        refine ev_nil (hK9 _ ?_); clear hK9
        refine good_region rfl ?_
        refine ev_q rfl (q_move (by conv => lhs; whnf) ?_)
        refine ev_q rfl (q_int rfl rfl ?_)
        intro n14 hn14
        replace hn14 := in64 hn14 (by omega) (by omega)
        refine ev_q rfl (q_assign (by conv => lhs; whnf) ?_)
        refine ev_nil ?_
        clear hK2
        refine ⟨i + 1, ?_, ?_, ?_⟩
        · show _ ≤ _; omega
        · first | omega | (simp only []; omega) | (dsimp only; omega)
        · refine sub_weak ?_ ?_
          · exact weakH_none _
          · refine weakE_upd ?e5 ?r5 (weakE_upd ?e1 ?r1 (weakE_upd ?e0 ?r0 (weakE_junk _ _)))
            case e0 => first | rfl | exact fI (by omega) | (simp_all)
            case r0 => intro h hh; cases hh
            case e1 => first | rfl | exact fI (by omega) | (simp_all)
            case r1 => intro h hh; cases hh
            case e5 => first | rfl | exact fI (by omega) | (simp_all)
            case r5 => intro h hh; cases hh
      · replace hb12 := neT hb12
        refine ev_nil (hK11 _ ?_); clear hK11
        refine good_condT rfl ?_
        refine good_seq fun K15 hK15 => ?_
        refine good_region rfl ?_
        refine ev_q rfl (q_assign (by conv => lhs; whnf) ?_)
        refine ev_nil (hK15 _ ?_); clear hK15
        refine good_ret ?_
        repeat (first | refine thenQ_ret ?_ | refine blockQ_ret ?_)
        refine ret_tmp (st := _) rfl (by conv => lhs; whnf) rfl ?_
        clear hK2 hK9 hK10
        first | rfl | exact fI (by first | omega | grind) | (exfalso; first | omega | grind)

-- laws.markText
set_option maxRecDepth 20000 in
set_option maxHeartbeats 2000000 in
theorem D_laws_markText (k : Int) (hk : k ≤ 100000000000000) : Den Try.prog 53 [.s (.int .i64 k)] (.s (.string (mkT k))) := by
  refine den_of_good Try.func53 (by decide) rfl (Nat.le_of_ble_eq_true rfl) (Nat.le_of_ble_eq_true rfl) ?_
  refine good_seq fun K1 hK1 => ?_
  refine good_region rfl ?_
  refine ev_q rfl (q_assign (by conv => lhs; whnf) ?_)
  refine ev_nil (hK1 _ ?_); clear hK1
  refine good_seq fun K2 hK2 => ?_
  refine good_seq fun K3 hK3 => ?_
  refine good_region rfl ?_
  refine ev_q rfl (q_move (by conv => lhs; whnf) ?_)
  refine ev_q rfl (q_int rfl rfl ?_)
  intro b4 hb4; cases b4
  · replace hb4 := dF hb4
    refine ev_nil (hK3 _ ?_); clear hK3
    refine good_condF rfl ?_
    refine good_skip (hK2 _ ?_); clear hK2
    refine good_seq fun K5 hK5 => ?_
    refine good_region rfl ?_
    refine ev_q rfl (q_assign (by conv => lhs; whnf) ?_)
    refine ev_nil (hK5 _ ?_); clear hK5
    refine good_seq fun K6 hK6 => ?_
    refine good_block ?_
    refine good_loop (α := Nat × ByteArray) (fun (n, o) => { env := upd (upd ((fun _ => .junk)) 0 (.s (.int .i64 ((n : Int))))) 3 (.s (.string o)), H := fun _ => none }) (fun (n, o) => mkD n o = mkD k.toNat ⟨#[]⟩ ∧ (o.size : Int) + n ≤ k) (fun (n, o) => n) (k.toNat, ⟨#[]⟩) ?_ ?_ ?_
    · exact ⟨rfl, by show ((0 : Nat) : Int) + _ ≤ _; omega⟩
    · refine sub_weak ?_ ?_
      · exact weakH_none _
      · refine weakE_upd ?e3 ?r3 (weakE_upd ?e0 ?r0 (weakE_junk _ _))
        case e0 => first | rfl | exact fI (by omega) | (exact fI (by omega))
        case r0 => intro h hh; cases hh
        case e3 => first | rfl | exact fI (by omega) | (rfl)
        case r3 => intro h hh; cases hh
    · rintro ⟨n, o⟩ ⟨hI, hJ⟩
      refine good_seq fun K7 hK7 => ?_
      refine good_seq fun K8 hK8 => ?_
      refine good_region rfl ?_
      refine ev_q rfl (q_move (by conv => lhs; whnf) ?_)
      refine ev_q rfl (q_int rfl rfl ?_)
      intro b9 hb9; cases b9
      · replace hb9 := dF hb9
        refine ev_nil (hK8 _ ?_); clear hK8
        refine good_condF rfl ?_
        refine good_exit ?_
        repeat (first | refine thenQ_exit ?_ | refine blockQ_pass rfl ?_)
        refine blockQ_exit (hK6 _ ?_); clear hK6
        refine good_seq fun K10 hK10 => ?_
        refine good_region rfl ?_
        refine ev_q rfl (q_move (by conv => lhs; whnf) ?_)
        refine ev_q rfl (q_str rfl rfl ⟨by have : (⟨#[109]⟩ : ByteArray).size = 1 := rfl; omega, ?_⟩)
        intro s11 hs11
        refine ev_q rfl (q_assign (by conv => lhs; whnf) ?_)
        refine ev_nil (hK10 _ ?_); clear hK10
        refine good_ret ?_
        repeat (first | refine thenQ_ret ?_ | refine blockQ_ret ?_)
        refine ret_tmp (st := _) rfl (by conv => lhs; whnf) rfl ?_
        clear hK7
        first | exact congrArg (fun s => AV.s (Value.string s)) (mkT0 (k := k) (by omega)).symm | (have e := mkT1 (k := k) (by omega); rw [mkD_end (by omega)] at hI; rw [e, ← hI]; simp_all)
      · replace hb9 := dT hb9
        refine ev_nil (hK8 _ ?_); clear hK8
        refine good_condT rfl ?_
        refine good_skip (hK7 _ ?_); clear hK7
        refine good_block ?_
        refine good_seq fun K12 hK12 => ?_
        refine good_region rfl ?_
        refine ev_q rfl (q_move (by conv => lhs; whnf) ?_)
        refine ev_q rfl (q_int rfl rfl ⟨by omega, ?_⟩)
        intro n13 hn13
        first | replace hn13 := remE hn13 (by omega) | skip
        refine ev_q rfl (q_int rfl rfl ?_)
        intro n14 hn14
        replace hn14 := in64 hn14 (by omega) (by omega)
        refine ev_q rfl (q_conv tK3 tK5 rfl ?_)
        intro n15 hn15
        replace hn15 := wrap8 hn15 (by omega) (by omega)
        refine ev_k rfl (k_lit tE110 zA5 rfl rfl (by decide) (by decide) rfl rfl rfl ?_)
        refine ev_q rfl (q_txtO tByS110 tStr9 rfl rfl (by rfl) ?_)
        intro s16 hs16
        refine ev_q rfl (q_move (by conv => lhs; whnf) ?_)
        refine ev_q rfl (q_str rfl rfl ⟨by have := congrArg ByteArray.size hs16; rw [strOfNums_size] at this; simp at this; omega, ?_⟩)
        intro s17 hs17
        refine ev_q rfl (q_assign (by conv => lhs; whnf) ?_)
        refine ev_nil (hK12 _ ?_); clear hK12
        refine good_region rfl ?_
        refine ev_q rfl (q_move (by conv => lhs; whnf) ?_)
        refine ev_q rfl (q_int rfl rfl ⟨by omega, ?_⟩)
        intro n18 hn18
        first | replace hn18 := quoE hn18 (by omega) (by omega) | replace hn18 := quoT hn18 (by omega) (by omega)
        refine ev_q rfl (q_assign (by conv => lhs; whnf) ?_)
        refine ev_nil ?_
        clear hK6
        refine ⟨(n18.toNat, s17), ?_, ?_, ?_⟩
        · have e15 : s17 = strOfNums [n15] ++ o := by rw [hs17, hs16]
          have hz := str1_size e15
          exact ⟨(mkD_step (by omega) (by omega) (by omega) e15).trans hI, by first | omega | (dsimp only; omega)⟩
        · first | omega | (dsimp only; omega)
        · refine sub_weak ?_ ?_
          · exact weakH_none _
          · refine weakE_upd ?e3 ?r3 (weakE_upd ?e0 ?r0 (weakE_junk _ _))
            case e0 => first | rfl | exact fI (by omega) | (exact fI (by omega))
            case r0 => intro h hh; cases hh
            case e3 => first | rfl | exact fI (by omega) | (rfl)
            case r3 => intro h hh; cases hh
  · replace hb4 := dT hb4
    refine ev_nil (hK3 _ ?_); clear hK3
    refine good_condT rfl ?_
    refine good_seq fun K19 hK19 => ?_
    refine good_region rfl ?_
    refine ev_q rfl (q_assign (by conv => lhs; whnf) ?_)
    refine ev_nil (hK19 _ ?_); clear hK19
    refine good_ret ?_
    repeat (first | refine thenQ_ret ?_ | refine blockQ_ret ?_)
    refine ret_tmp (st := _) rfl (by conv => lhs; whnf) rfl ?_
    clear hK2
    first | exact congrArg (fun s => AV.s (Value.string s)) (mkT0 (k := k) (by omega)).symm | (have e := mkT1 (k := k) (by omega); rw [mkD_end (by omega)] at hI; rw [e, ← hI]; simp_all)

-- laws.toNetwork
set_option maxRecDepth 20000 in
set_option maxHeartbeats 2000000 in
theorem D_laws_toNetwork_X (ns : List Int) (ps : List Pi) (hn : ns.length ≤ 17592186044416) (hp : ps.length ≤ 2513169434843) : DenX Try.prog 7 [] [.agg [.lst 1 (ns.map ci), .lst 6 (ps.map piA)]] [(900001, .row 2 1 (ns.map ci)), (900002, .row 47 6 (ps.map piA))] (.agg [.own 900001 ns.length, .own 900002 ps.length]) := by
  refine denX_of_good Try.func7 (by decide) rfl (Nat.le_of_ble_eq_true rfl) (Nat.le_of_ble_eq_true rfl) rfl ?_
  refine good_seq fun K1 hK1 => ?_
  refine good_region rfl ?_
  refine ev_k rfl (k_box (by conv => lhs; whnf) rfl rfl rfl ?_)
  refine ev_k rfl (k_alloc zA31 rfl ?_)
  refine ev_nil (hK1 _ ?_); clear hK1
  refine good_seq fun K2 hK2 => ?_
  refine good_region rfl ?_
  refine ev_k rfl (k_alloc zA31 rfl ?_)
  refine ev_nil (hK2 _ ?_); clear hK2
  refine good_seq fun K3 hK3 => ?_
  refine good_region rfl ?_
  refine ev_q rfl (q_fieldAddrP fO25_0 rfl rfl ?_)
  refine ev_q rfl (q_load tA22 rfl ?_)
  refine ev_k rfl (k_callX [(7, 900001)] (D_laws_toInt64S_X _ hn) rfl (rfl) (rfl) trivial ⟨⟨rfl, show (900001 : Nat) < 1000000 by decide⟩, trivial⟩ rfl rfl rfl ?_)
  refine ev_q rfl (q_fieldAddrP fO31_0 rfl rfl ?_)
  refine ev_k rfl (k_store sz22 rfl (by conv => lhs; whnf) rfl rfl rfl (Nat.le_of_ble_eq_true rfl) rfl ?_)
  refine ev_nil (hK3 _ ?_); clear hK3
  refine good_seq fun K4 hK4 => ?_
  refine good_region rfl ?_
  refine ev_q rfl (q_fieldAddrP fO25_1 rfl rfl ?_)
  refine ev_q rfl (q_load tA23 rfl ?_)
  refine ev_k rfl (k_callX [(7, 900002)] (D_laws_toPipeS_X _ hp) rfl (rfl) (rfl) trivial ⟨⟨rfl, show (900002 : Nat) < 1000000 by decide⟩, trivial⟩ rfl rfl rfl ?_)
  refine ev_q rfl (q_fieldAddrP fO31_1 rfl rfl ?_)
  refine ev_k rfl (k_store sz29 rfl (by conv => lhs; whnf) rfl rfl rfl (Nat.le_of_ble_eq_true rfl) rfl ?_)
  refine ev_nil (hK4 _ ?_); clear hK4
  refine good_seq fun K5 hK5 => ?_
  refine good_region rfl ?_
  refine ev_q rfl (q_loadA tA31 rfl rfl rfl ?_)
  refine ev_k rfl (k_store sz31 rfl (by conv => lhs; whnf) rfl rfl rfl (Nat.le_of_ble_eq_true rfl) rfl ?_)
  refine ev_nil (hK5 _ ?_); clear hK5
  refine good_ret ?_
  repeat (first | refine thenQ_ret ?_ | refine blockQ_ret ?_)
  refine fx_cell rfl tA31 rfl rfl rfl ?_
  exact ⟨_, conv_eq (by first | rfl | exact fAgg1 (by first | rfl | exact ownEq (by first | done | omega | (simp; done)) | (simp_all; done)) (fAgg1 (by first | rfl | exact ownEq (by first | done | omega | (simp; done)) | (simp_all; done)) (rfl))), weakH_row (rowEq (by first | rfl | (rw [e]; done) | (rw [e]; rfl) | (simp_all; done))) (weakH_row (rowEq (by first | rfl | (rw [e]; done) | (rw [e]; rfl) | (simp_all; done))) (weakH_none _)), refsIn_ok rfl⟩

-- laws.markPipeS
set_option maxRecDepth 20000 in
set_option maxHeartbeats 2000000 in
theorem D_laws_markPipeS (ps : List Pi) (k : Int) (hp : ps.length ≤ 2513169434843) (hk : 0 ≤ k ∧ k ≤ 20000000000000) : DenX Try.prog 32 [(1000000, .row 47 6 (ps.map piA))] [.own 1000000 ps.length, .s (.int .i64 k)] [(1000000, .row 47 6 (mkP k ps ps.length))] (.s (.int .i64 (k + 6 * ps.length))) := by
  refine denX_of_good Try.func32 (by decide) rfl (Nat.le_of_ble_eq_true rfl) (Nat.le_of_ble_eq_true rfl) rfl ?_
  refine good_seq fun K1 hK1 => ?_
  refine good_region rfl ?_
  refine ev_q rfl (q_assign (by conv => lhs; whnf) ?_)
  refine ev_nil (hK1 _ ?_); clear hK1
  refine good_seq fun K2 hK2 => ?_
  refine good_seq fun K3 hK3 => ?_
  refine good_region rfl ?_
  refine ev_q rfl (q_assign (by conv => lhs; whnf) ?_)
  refine ev_nil (hK3 _ ?_); clear hK3
  refine good_block ?_
  refine good_loop (α := Nat) (fun i => { env := upd (upd (upd ((fun _ => .junk)) 0 (.own 1000000 ps.length)) 1 (.s (.int .i64 (k + 6 * i)))) 5 (.s (.int .i64 i)), H := upd ((fun _ => none)) 1000000 (some (.row 47 6 (mkP k ps i))) }) (fun i => i ≤ ps.length) (fun i => ps.length - i) 0 ?_ ?_ ?_
  · show 0 ≤ _; omega
  · refine sub_weak ?_ ?_
    · exact weakH_row (rowEq (mkP0.symm)) (weakH_none _)
    · refine weakE_upd ?e5 ?r5 (weakE_upd ?e1 ?r1 (weakE_upd ?e0 ?r0 (weakE_junk _ _)))
      case e0 => first | rfl | exact fI (by omega) | (simp_all)
      case r0 => intro h hh; simp [refs] at hh; subst hh; rfl
      case e1 => first | rfl | exact fI (by omega) | (simp_all)
      case r1 => intro h hh; cases hh
      case e5 => first | rfl | exact fI (by omega) | (simp_all)
      case r5 => intro h hh; cases hh
  · rintro i hI
    refine good_seq fun K4 hK4 => ?_
    refine good_seq fun K5 hK5 => ?_
    refine good_region rfl ?_
    refine ev_q rfl (q_move (by conv => lhs; whnf) ?_)
    refine ev_q rfl (q_move (by conv => lhs; whnf) ?_)
    refine ev_q rfl (q_len tEs29 rfl ?_)
    intro n6 hn6
    try simp only [List.length_map] at hn6
    refine ev_q rfl (q_int rfl rfl ?_)
    intro b7 hb7; cases b7
    · replace hb7 := dF hb7
      refine ev_nil (hK5 _ ?_); clear hK5
      refine good_condF rfl ?_
      refine good_exit ?_
      repeat (first | refine thenQ_exit ?_ | refine blockQ_pass rfl ?_)
      refine blockQ_exit (hK2 _ ?_); clear hK2
      refine good_seq fun K8 hK8 => ?_
      refine good_region rfl ?_
      refine ev_q rfl (q_move (by conv => lhs; whnf) ?_)
      refine ev_q rfl (q_assign (by conv => lhs; whnf) ?_)
      refine ev_nil (hK8 _ ?_); clear hK8
      refine good_ret ?_
      repeat (first | refine thenQ_ret ?_ | refine blockQ_ret ?_)
      refine fx_tmp rfl (by conv => lhs; whnf) ?_
      clear hK4
      exact ⟨_, conv_eq (by first | rfl | exact fI (by first | omega | grind) | (exfalso; first | omega | grind)), weakH_row (rowEq (by rw [show i = ps.length by omega])) (weakH_none _), refsIn_ok rfl⟩
    · replace hb7 := dT hb7
      obtain ⟨p, hpp⟩ := getL (xs := ps) (n := (i : Int)) (by omega) (by omega)
      replace hpp : ps[i]? = some p := hpp
      refine ev_nil (hK5 _ ?_); clear hK5
      refine good_condT rfl ?_
      refine good_skip (hK4 _ ?_); clear hK4
      refine good_seq fun K9 hK9 => ?_
      refine good_block ?_
      refine good_seq fun K10 hK10 => ?_
      refine good_region rfl ?_
      refine ev_q rfl (q_move (by conv => lhs; whnf) ?_)
      refine ev_q rfl (q_move (by conv => lhs; whnf) ?_)
      refine ev_q rfl (q_move (by conv => lhs; whnf) ?_)
      refine ev_q rfl (q_call rfl rfl (rfl) (D_laws_markText _ (by omega)) rfl ?_)
      refine ev_q rfl (q_idxO tE29 rfl rfl rfl (by exact Int.natCast_nonneg _) (by omega) rfl ?_)
      refine ev_q rfl (q_fieldAddrE fO47_0 rfl rfl ?_)
      refine ev_k rfl (k_storeE sz9 rfl (by conv => lhs; whnf) rfl rfl rfl (Nat.le_of_ble_eq_true rfl) rfl (by first | exact mkP_get hpp | exact setGet (by (try simp only [List.length_set]); rw [mkP_len (by omega)]; omega)) (Nat.le_of_ble_eq_true rfl) rfl ?_)
      refine ev_nil (hK10 _ ?_); clear hK10
      refine good_seq fun K11 hK11 => ?_
      refine good_region rfl ?_
      refine ev_q rfl (q_move (by conv => lhs; whnf) ?_)
      refine ev_q rfl (q_int rfl rfl ?_)
      intro n12 hn12
      replace hn12 := in64 hn12 (by omega) (by omega)
      refine ev_q rfl (q_assign (by conv => lhs; whnf) ?_)
      refine ev_nil (hK11 _ ?_); clear hK11
      refine good_seq fun K13 hK13 => ?_
      refine good_region rfl ?_
      refine ev_q rfl (q_move (by conv => lhs; whnf) ?_)
      refine ev_q rfl (q_move (by conv => lhs; whnf) ?_)
      refine ev_q rfl (q_move (by conv => lhs; whnf) ?_)
      refine ev_q rfl (q_idxO tE29 rfl rfl rfl (by exact Int.natCast_nonneg _) (by omega) rfl ?_)
      refine ev_q rfl (q_fieldAddrE fO47_1 rfl rfl ?_)
      refine ev_k rfl (k_storeE sz2 rfl (by conv => lhs; whnf) rfl rfl rfl (Nat.le_of_ble_eq_true rfl) rfl (by first | exact mkP_get hpp | exact setGet (by (try simp only [List.length_set]); rw [mkP_len (by omega)]; omega)) (Nat.le_of_ble_eq_true rfl) rfl ?_)
      refine ev_nil (hK13 _ ?_); clear hK13
      refine good_seq fun K14 hK14 => ?_
      refine good_region rfl ?_
      refine ev_q rfl (q_move (by conv => lhs; whnf) ?_)
      refine ev_q rfl (q_int rfl rfl ?_)
      intro n15 hn15
      replace hn15 := in64 hn15 (by omega) (by omega)
      refine ev_q rfl (q_assign (by conv => lhs; whnf) ?_)
      refine ev_nil (hK14 _ ?_); clear hK14
      refine good_seq fun K16 hK16 => ?_
      refine good_region rfl ?_
      refine ev_q rfl (q_move (by conv => lhs; whnf) ?_)
      refine ev_q rfl (q_move (by conv => lhs; whnf) ?_)
      refine ev_q rfl (q_move (by conv => lhs; whnf) ?_)
      refine ev_q rfl (q_idxO tE29 rfl rfl rfl (by exact Int.natCast_nonneg _) (by omega) rfl ?_)
      refine ev_q rfl (q_fieldAddrE fO47_2 rfl rfl ?_)
      refine ev_k rfl (k_storeE sz2 rfl (by conv => lhs; whnf) rfl rfl rfl (Nat.le_of_ble_eq_true rfl) rfl (by first | exact mkP_get hpp | exact setGet (by (try simp only [List.length_set]); rw [mkP_len (by omega)]; omega)) (Nat.le_of_ble_eq_true rfl) rfl ?_)
      refine ev_nil (hK16 _ ?_); clear hK16
      refine good_seq fun K17 hK17 => ?_
      refine good_region rfl ?_
      refine ev_q rfl (q_move (by conv => lhs; whnf) ?_)
      refine ev_q rfl (q_int rfl rfl ?_)
      intro n18 hn18
      replace hn18 := in64 hn18 (by omega) (by omega)
      refine ev_q rfl (q_assign (by conv => lhs; whnf) ?_)
      refine ev_nil (hK17 _ ?_); clear hK17
      refine good_seq fun K19 hK19 => ?_
      refine good_region rfl ?_
      refine ev_q rfl (q_move (by conv => lhs; whnf) ?_)
      refine ev_q rfl (q_move (by conv => lhs; whnf) ?_)
      refine ev_q rfl (q_move (by conv => lhs; whnf) ?_)
      refine ev_q rfl (q_idxO tE29 rfl rfl rfl (by exact Int.natCast_nonneg _) (by omega) rfl ?_)
      refine ev_q rfl (q_fieldAddrE fO47_3 rfl rfl ?_)
      refine ev_k rfl (k_storeE sz2 rfl (by conv => lhs; whnf) rfl rfl rfl (Nat.le_of_ble_eq_true rfl) rfl (by first | exact mkP_get hpp | exact setGet (by (try simp only [List.length_set]); rw [mkP_len (by omega)]; omega)) (Nat.le_of_ble_eq_true rfl) rfl ?_)
      refine ev_nil (hK19 _ ?_); clear hK19
      refine good_seq fun K20 hK20 => ?_
      refine good_region rfl ?_
      refine ev_q rfl (q_move (by conv => lhs; whnf) ?_)
      refine ev_q rfl (q_int rfl rfl ?_)
      intro n21 hn21
      replace hn21 := in64 hn21 (by omega) (by omega)
      refine ev_q rfl (q_assign (by conv => lhs; whnf) ?_)
      refine ev_nil (hK20 _ ?_); clear hK20
      refine good_seq fun K22 hK22 => ?_
      refine good_region rfl ?_
      refine ev_q rfl (q_move (by conv => lhs; whnf) ?_)
      refine ev_q rfl (q_move (by conv => lhs; whnf) ?_)
      refine ev_q rfl (q_move (by conv => lhs; whnf) ?_)
      refine ev_q rfl (q_idxO tE29 rfl rfl rfl (by exact Int.natCast_nonneg _) (by omega) rfl ?_)
      refine ev_q rfl (q_fieldAddrE fO47_4 rfl rfl ?_)
      refine ev_k rfl (k_storeE sz2 rfl (by conv => lhs; whnf) rfl rfl rfl (Nat.le_of_ble_eq_true rfl) rfl (by first | exact mkP_get hpp | exact setGet (by (try simp only [List.length_set]); rw [mkP_len (by omega)]; omega)) (Nat.le_of_ble_eq_true rfl) rfl ?_)
      refine ev_nil (hK22 _ ?_); clear hK22
      refine good_seq fun K23 hK23 => ?_
      refine good_region rfl ?_
      refine ev_q rfl (q_move (by conv => lhs; whnf) ?_)
      refine ev_q rfl (q_int rfl rfl ?_)
      intro n24 hn24
      replace hn24 := in64 hn24 (by omega) (by omega)
      refine ev_q rfl (q_assign (by conv => lhs; whnf) ?_)
      refine ev_nil (hK23 _ ?_); clear hK23
      refine good_seq fun K25 hK25 => ?_
      refine good_region rfl ?_
      refine ev_q rfl (q_move (by conv => lhs; whnf) ?_)
      refine ev_q rfl (q_move (by conv => lhs; whnf) ?_)
      refine ev_q rfl (q_move (by conv => lhs; whnf) ?_)
      refine ev_q rfl (q_idxO tE29 rfl rfl rfl (by exact Int.natCast_nonneg _) (by omega) rfl ?_)
      refine ev_q rfl (q_fieldAddrE fO47_5 rfl rfl ?_)
      refine ev_k rfl (k_storeE sz2 rfl (by conv => lhs; whnf) rfl rfl rfl (Nat.le_of_ble_eq_true rfl) rfl (by first | exact mkP_get hpp | exact setGet (by (try simp only [List.length_set]); rw [mkP_len (by omega)]; omega)) (Nat.le_of_ble_eq_true rfl) rfl ?_)
      refine ev_nil (hK25 _ ?_); clear hK25
      refine good_region rfl ?_
      refine ev_q rfl (q_move (by conv => lhs; whnf) ?_)
      refine ev_q rfl (q_int rfl rfl ?_)
      intro n26 hn26
      replace hn26 := in64 hn26 (by omega) (by omega)
      refine ev_q rfl (q_assign (by conv => lhs; whnf) ?_)
      refine ev_nil (hK9 _ ?_); clear hK9
      refine good_region rfl ?_
      refine ev_q rfl (q_move (by conv => lhs; whnf) ?_)
      refine ev_q rfl (q_int rfl rfl ?_)
      intro n27 hn27
      replace hn27 := in64 hn27 (by omega) (by omega)
      refine ev_q rfl (q_assign (by conv => lhs; whnf) ?_)
      refine ev_nil ?_
      clear hK2
      refine ⟨i + 1, ?_, ?_, ?_⟩
      · show _ ≤ _; omega
      · first | omega | (simp only []; omega) | (dsimp only; omega)
      · refine sub_weak ?_ ?_
        · exact weakH_row (rowEq (mkP_step (by omega) (by omega) (by omega) (by omega) (by omega) (by omega))) (weakH_none _)
        · refine weakE_upd ?e5 ?r5 (weakE_upd ?e1 ?r1 (weakE_upd ?e0 ?r0 (weakE_junk _ _)))
          case e0 => first | rfl | exact fI (by omega) | (simp_all)
          case r0 => intro h hh; simp [refs] at hh; subst hh; rfl
          case e1 => first | rfl | exact fI (by omega) | (simp_all)
          case r1 => intro h hh; cases hh
          case e5 => first | rfl | exact fI (by omega) | (simp_all)
          case r5 => intro h hh; cases hh

-- laws.markNetwork
set_option maxRecDepth 20000 in
set_option maxHeartbeats 2000000 in
theorem D_laws_markNetwork (ns : List Int) (ps : List Pi) (k : Int) (hn : ns.length ≤ 17592186044416) (hp : ps.length ≤ 2513169434843) (hk : 0 ≤ k ∧ k ≤ 1000000) : DenX Try.prog 11 [(1000000, .row 2 1 (ns.map ci)), (1000001, .row 47 6 (ps.map piA))] [.agg [.own 1000000 ns.length, .own 1000001 ps.length], .s (.int .i64 k)] [(1000000, .row 2 1 (mkC k ns ns.length)), (1000001, .row 47 6 (mkP (k + ns.length) ps ps.length))] (.s (.int .i64 (k + ns.length + 6 * ps.length))) := by
  refine denX_of_good Try.func11 (by decide) rfl (Nat.le_of_ble_eq_true rfl) (Nat.le_of_ble_eq_true rfl) rfl ?_
  refine good_seq fun K1 hK1 => ?_
  refine good_region rfl ?_
  refine ev_k rfl (k_box (by conv => lhs; whnf) rfl rfl rfl ?_)
  refine ev_q rfl (q_assign (by conv => lhs; whnf) ?_)
  refine ev_nil (hK1 _ ?_); clear hK1
  refine good_seq fun K2 hK2 => ?_
  refine good_region rfl ?_
  refine ev_q rfl (q_fieldAddrP fO31_0 rfl rfl ?_)
  refine ev_q rfl (q_load tA22 rfl ?_)
  refine ev_q rfl (q_move (by conv => lhs; whnf) ?_)
  refine ev_k rfl (k_callXI [(1000000, 1000000)] (D_laws_markInt64S ns _ hn (by omega)) rfl (rfl) (rfl) ⟨rfl, trivial⟩ ⟨rfl, ⟨rfl, rfl, by rw [mkC_len (Nat.le_refl _)]; simp⟩, trivial⟩ rfl rfl rfl ?_)
  intro n3 hn3
  refine ev_q rfl (q_assign (by conv => lhs; whnf) ?_)
  refine ev_nil (hK2 _ ?_); clear hK2
  refine good_seq fun K4 hK4 => ?_
  refine good_region rfl ?_
  refine ev_q rfl (q_fieldAddrP fO31_1 rfl rfl ?_)
  refine ev_q rfl (q_load tA29 rfl ?_)
  refine ev_q rfl (q_move (by conv => lhs; whnf) ?_)
  refine ev_k rfl (k_callXI [(1000000, 1000001)] (D_laws_markPipeS ps _ hp (by omega)) rfl (rfl) (rfl) ⟨rfl, trivial⟩ ⟨rfl, ⟨rfl, rfl, by rw [mkP_len (Nat.le_refl _)]; simp⟩, trivial⟩ rfl rfl rfl ?_)
  intro n5 hn5
  refine ev_q rfl (q_assign (by conv => lhs; whnf) ?_)
  refine ev_nil (hK4 _ ?_); clear hK4
  refine good_seq fun K6 hK6 => ?_
  refine good_region rfl ?_
  refine ev_q rfl (q_move (by conv => lhs; whnf) ?_)
  refine ev_q rfl (q_assign (by conv => lhs; whnf) ?_)
  refine ev_nil (hK6 _ ?_); clear hK6
  refine good_ret ?_
  repeat (first | refine thenQ_ret ?_ | refine blockQ_ret ?_)
  refine fx_tmp rfl (by conv => lhs; whnf) ?_
  exact ⟨_, conv_eq (by first | rfl | exact fI (by first | omega | grind) | (exfalso; first | omega | grind)), weakH_row (rowEq (by first | rfl | (rw [e]; done) | (rw [e]; rfl) | (simp_all; done))) (weakH_row (rowEq (by first | rfl | (rw [e]; done) | (rw [e]; rfl) | (simp_all; done))) (weakH_none _)), refsIn_ok rfl⟩

-- laws.FnExactWorstPipes
set_option maxRecDepth 20000 in
set_option maxHeartbeats 2000000 in
theorem D_laws_FnExactWorstPipes (ns : List Int) (ps : List Pi) (cnt : Int) (hn : ns.length ≤ 17592186044416) (hp : ps.length ≤ 2513169434843) (hz : idSz ps) : Den Try.prog 3 [.agg [.lst 1 (ns.map ci), .lst 6 (ps.map piA)], .s (.int .i64 cnt)] (.s (.bool true)) := by
  refine den_of_good Try.func3 (by decide) rfl (Nat.le_of_ble_eq_true rfl) (Nat.le_of_ble_eq_true rfl) ?_
  refine good_seq fun K1 hK1 => ?_
  refine good_region rfl ?_
  refine ev_k rfl (k_box (by conv => lhs; whnf) rfl rfl rfl ?_)
  refine ev_q rfl (q_assign (by conv => lhs; whnf) ?_)
  refine ev_nil (hK1 _ ?_); clear hK1
  refine good_seq fun K2 hK2 => ?_
  refine good_region rfl ?_
  refine ev_q rfl (q_assign (by conv => lhs; whnf) ?_)
  refine ev_nil (hK2 _ ?_); clear hK2
  refine good_seq fun K3 hK3 => ?_
  refine good_region rfl ?_
  refine ev_q rfl (q_loadA tA25 rfl rfl rfl ?_)
  refine ev_q rfl (q_move (by conv => lhs; whnf) ?_)
  refine ev_q rfl (q_callI rfl rfl (rfl) (D_laws_szNetwork ns ps _ hn hp hz (by omega)) ?_)
  intro n4 hn4
  refine ev_q rfl (q_assign (by conv => lhs; whnf) ?_)
  refine ev_nil (hK3 _ ?_); clear hK3
  refine good_seq fun K5 hK5 => ?_
  refine good_seq fun K6 hK6 => ?_
  refine good_region rfl ?_
  refine ev_q rfl (q_move (by conv => lhs; whnf) ?_)
  refine ev_q rfl (q_int rfl rfl ?_)
  intro b7 hb7; cases b7
  · replace hb7 := dF hb7
    refine ev_nil (hK6 _ ?_); clear hK6
    refine good_condF rfl ?_
    refine good_skip (hK5 _ ?_); clear hK5
    refine good_seq fun K8 hK8 => ?_
    refine good_region rfl ?_
    refine ev_q rfl (q_loadA tA25 rfl rfl rfl ?_)
    refine ev_q rfl (q_call rfl rfl (rfl) (D_laws_toNetwork ns ps hn hp) rfl ?_)
    refine ev_q rfl (q_move (by conv => lhs; whnf) ?_)
    refine ev_q rfl (q_call rfl rfl (rfl) (D_spec_WorstPipes ns ps cnt hn hp hz) rfl ?_)
    refine ev_q rfl (q_move (by conv => lhs; whnf) ?_)
    refine ev_q rfl (q_extract rfl rfl ?_)
    refine ev_q rfl (q_extractI rfl rfl ?_)
    intro n9 hn9
    refine ev_q rfl (q_assign (by conv => lhs; whnf) ?_)
    refine ev_q rfl (q_assign (by conv => lhs; whnf) ?_)
    refine ev_nil (hK8 _ ?_); clear hK8
    refine good_seq fun K10 hK10 => ?_
    refine good_region rfl ?_
    refine ev_q rfl (q_loadA tA25 rfl rfl rfl ?_)
    refine ev_k rfl (k_callX [(900001, 900000), (900002, 900001)] (D_laws_toNetwork_X ns ps hn hp) rfl (rfl) (rfl) trivial ⟨⟨rfl, show (900000 : Nat) < 1000000 by decide⟩, ⟨⟨rfl, show (900001 : Nat) < 1000000 by decide⟩, trivial⟩⟩ rfl rfl rfl ?_)
    refine ev_k rfl (k_alloc zA31 rfl ?_)
    refine ev_k rfl (k_store sz31 rfl (by conv => lhs; whnf) rfl rfl rfl (Nat.le_of_ble_eq_true rfl) rfl ?_)
    refine ev_nil (hK10 _ ?_); clear hK10
    refine good_seq fun K11 hK11 => ?_
    refine good_region rfl ?_
    refine ev_q rfl (q_loadA tA31 rfl rfl rfl ?_)
    refine ev_q rfl (q_move (by conv => lhs; whnf) ?_)
    refine ev_k rfl (k_callXc [(900003, 900002)] (D_impl_WorstPipes_X ns ps cnt hn hp hz) rfl (by change some ([.agg [.lst 1 (List.take (ns).length ((ns).map ci)), .lst 6 (List.take (ps).length ((ps).map piA))], .s (.int .i64 cnt)] : List AV) = some _; (simp only [takeMap]) <;> rfl) (⟨rfl, ⟨pure_ci, trivial⟩⟩) trivial ⟨⟨rfl, show (900002 : Nat) < 1000000 by decide⟩, trivial⟩ rfl rfl rfl ?_)
    refine ev_q rfl (q_move (by conv => lhs; whnf) ?_)
    refine ev_q rfl (q_extract rfl rfl ?_)
    refine ev_q rfl (q_extractI rfl rfl ?_)
    intro n12 hn12
    refine ev_q rfl (q_assign (by conv => lhs; whnf) ?_)
    refine ev_q rfl (q_assign (by conv => lhs; whnf) ?_)
    refine ev_nil (hK11 _ ?_); clear hK11
    refine good_seq fun K13 hK13 => ?_
    refine good_seq fun K14 hK14 => ?_
    refine good_region rfl ?_
    refine ev_q rfl (q_move (by conv => lhs; whnf) ?_)
    refine ev_q rfl (q_move (by conv => lhs; whnf) ?_)
    refine ev_q rfl (q_callB rfl rfl (by change ([.lst 1 (List.take ((wpR ns ps cnt)).length (((wpR ns ps cnt)).map ci)), .lst 1 (((wpR ns ps cnt)).map ci)] : List AV) = _; simp only [takeMap]) (D_laws_eqInt64S (wpR ns ps cnt) (by have := wpR_len (ns := ns) (ps := ps) (c := cnt); omega)) ?_)
    intro b15 hb15; cases b15
    · first | replace hb15 := dF hb15 | skip
      refine ev_q rfl (q_not rfl rfl ?_)
      refine ev_q rfl (q_move (by conv => lhs; whnf) ?_)
      refine ev_skip rfl ?_
      refine ev_skip rfl ?_
      refine ev_skip rfl ?_
      refine ev_q rfl (q_pickT rfl (by conv => lhs; whnf) ?_)
      refine ev_nil (hK14 _ ?_); clear hK14
      refine good_condT rfl ?_
      refine good_seq fun K16 hK16 => ?_
      refine good_region rfl ?_
      refine ev_q rfl (q_assign (by conv => lhs; whnf) ?_)
      refine ev_nil (hK16 _ ?_); clear hK16
      refine good_ret ?_
      repeat (first | refine thenQ_ret ?_ | refine blockQ_ret ?_)
      refine ret_tmp (st := _) rfl (by conv => lhs; whnf) rfl ?_
      clear hK13
      first | rfl | (exfalso; first | omega | contradiction | grind)
    · first | replace hb15 := dT hb15 | skip
      refine ev_q rfl (q_not rfl rfl ?_)
      refine ev_q rfl (q_move (by conv => lhs; whnf) ?_)
      refine ev_q rfl (q_move (by conv => lhs; whnf) ?_)
      refine ev_q rfl (q_move (by conv => lhs; whnf) ?_)
      refine ev_q rfl (q_int rfl rfl ?_)
      intro b17 hb17; cases b17
      · replace hb17 := neF hb17
        refine ev_q rfl (q_pickF rfl (by conv => lhs; whnf) ?_)
        refine ev_nil (hK14 _ ?_); clear hK14
        refine good_condF rfl ?_
        refine good_skip (hK13 _ ?_); clear hK13
        refine good_seq fun K18 hK18 => ?_
        refine good_seq fun K19 hK19 => ?_
        refine good_draw 5 hmix (by kernel_rfl) rfl ?_
        refine qo_q rfl (q_loadA tA31 rfl rfl rfl ?_)
        refine qo_q rfl (q_loadA tA25 rfl rfl rfl ?_)
        refine qo_q rfl (q_call rfl rfl (rfl) (D_laws_toNetwork ns ps hn hp) rfl ?_)
        refine qo_q rfl (q_callB rfl rfl (by change ([.agg [.lst 1 (List.take (ns).length ((ns).map ci)), .lst 6 (List.take (ps).length ((ps).map piA))], .agg [.lst 1 ((ns).map ci), .lst 6 ((ps).map piA)]] : List AV) = _; simp only [takeMap]) (D_laws_eqNetwork ns ps hn hp) ?_)
        intro b20 hb20; cases b20
        · first | replace hb20 := dF hb20 | skip
          refine qo_q rfl (q_not rfl rfl ?_)
          refine qo_nil ?_
          refine ev_nil (hK19 _ ?_); clear hK19
          refine good_condT rfl ?_
          refine good_seq fun K21 hK21 => ?_
          refine good_region rfl ?_
          refine ev_q rfl (q_assign (by conv => lhs; whnf) ?_)
          refine ev_nil (hK21 _ ?_); clear hK21
          refine good_ret ?_
          repeat (first | refine thenQ_ret ?_ | refine blockQ_ret ?_)
          refine ret_tmp (st := _) rfl (by conv => lhs; whnf) rfl ?_
          clear hK18
          first | rfl | (exfalso; first | omega | contradiction | grind)
        · first | replace hb20 := dT hb20 | skip
          refine qo_q rfl (q_not rfl rfl ?_)
          refine qo_nil ?_
          refine ev_nil (hK19 _ ?_); clear hK19
          refine good_condF rfl ?_
          refine good_skip (hK18 _ ?_); clear hK18
          refine good_seq fun K22 hK22 => ?_
          refine good_region rfl ?_
          refine ev_q rfl (q_assign (by conv => lhs; whnf) ?_)
          refine ev_nil (hK22 _ ?_); clear hK22
          refine good_seq fun K23 hK23 => ?_
          refine good_region rfl ?_
          refine ev_q rfl (q_loadA tA31 rfl rfl rfl ?_)
          refine ev_q rfl (q_move (by conv => lhs; whnf) ?_)
          refine ev_k rfl (k_callXI [(1000000, 900000), (1000001, 900001)] (D_laws_markNetwork ns ps _ hn hp (by omega)) rfl (rfl) (rfl) ⟨rfl, ⟨rfl, trivial⟩⟩ ⟨rfl, ⟨rfl, rfl, by first | (rw [mkC_len (Nat.le_refl _)]; simp; done) | (rw [mkP_len (Nat.le_refl _)]; simp; done)⟩, ⟨rfl, ⟨rfl, rfl, by first | (rw [mkC_len (Nat.le_refl _)]; simp; done) | (rw [mkP_len (Nat.le_refl _)]; simp; done)⟩, trivial⟩⟩ rfl rfl rfl ?_)
          intro n24 hn24
          refine ev_q rfl (q_assign (by conv => lhs; whnf) ?_)
          refine ev_nil (hK23 _ ?_); clear hK23
          refine good_seq fun K25 hK25 => ?_
          refine good_seq fun K26 hK26 => ?_
          refine good_region rfl ?_
          refine ev_q rfl (q_move (by conv => lhs; whnf) ?_)
          refine ev_q rfl (q_int rfl rfl ?_)
          intro b27 hb27; cases b27
          · replace hb27 := dF hb27
            refine ev_q rfl (q_move (by conv => lhs; whnf) ?_)
            refine ev_q rfl (q_move (by conv => lhs; whnf) ?_)
            refine ev_q rfl (q_move (by conv => lhs; whnf) ?_)
            refine ev_q rfl (q_callB rfl rfl (by change ([.lst 1 (List.take ((wpR ns ps cnt)).length (((wpR ns ps cnt)).map ci)), .lst 1 (((wpR ns ps cnt)).map ci)] : List AV) = _; simp only [takeMap]) (D_laws_eqInt64S (wpR ns ps cnt) (by have := wpR_len (ns := ns) (ps := ps) (c := cnt); omega)) ?_)
            intro b28 hb28; cases b28
            · first | replace hb28 := dF hb28 | skip
              refine ev_q rfl (q_not rfl rfl ?_)
              refine ev_q rfl (q_pickF rfl (by conv => lhs; whnf) ?_)
              refine ev_q rfl (q_move (by conv => lhs; whnf) ?_)
              refine ev_skip rfl ?_
              refine ev_skip rfl ?_
              refine ev_skip rfl ?_
              refine ev_q rfl (q_pickT rfl (by conv => lhs; whnf) ?_)
              refine ev_nil (hK26 _ ?_); clear hK26
              refine good_condT rfl ?_
              refine good_seq fun K29 hK29 => ?_
              refine good_region rfl ?_
              refine ev_q rfl (q_assign (by conv => lhs; whnf) ?_)
              refine ev_nil (hK29 _ ?_); clear hK29
              refine good_ret ?_
              repeat (first | refine thenQ_ret ?_ | refine blockQ_ret ?_)
              refine ret_tmp (st := _) rfl (by conv => lhs; whnf) rfl ?_
              clear hK25
              first | rfl | (exfalso; first | omega | contradiction | grind)
            · first | replace hb28 := dT hb28 | skip
              refine ev_q rfl (q_not rfl rfl ?_)
              refine ev_q rfl (q_pickF rfl (by conv => lhs; whnf) ?_)
              refine ev_q rfl (q_move (by conv => lhs; whnf) ?_)
              refine ev_q rfl (q_move (by conv => lhs; whnf) ?_)
              refine ev_q rfl (q_move (by conv => lhs; whnf) ?_)
              refine ev_q rfl (q_int rfl rfl ?_)
              intro b30 hb30; cases b30
              · replace hb30 := neF hb30
                refine ev_q rfl (q_pickF rfl (by conv => lhs; whnf) ?_)
                refine ev_nil (hK26 _ ?_); clear hK26
                refine good_condF rfl ?_
                refine good_skip (hK25 _ ?_); clear hK25
                refine good_seq fun K31 hK31 => ?_
                refine good_region rfl ?_
                refine ev_q rfl (q_assign (by conv => lhs; whnf) ?_)
                refine ev_nil (hK31 _ ?_); clear hK31
                refine good_seq fun K32 hK32 => ?_
                refine good_region rfl ?_
                refine ev_q rfl (q_move (by conv => lhs; whnf) ?_)
                refine ev_q rfl (q_move (by conv => lhs; whnf) ?_)
                refine ev_k rfl (k_callXI [(1000000, 900002)] (D_laws_markInt64S (wpR ns ps cnt) _ (by have := wpR_len (ns := ns) (ps := ps) (c := cnt); omega) (by omega)) rfl (rfl) (rfl) ⟨rfl, trivial⟩ ⟨rfl, ⟨rfl, rfl, by rw [mkC_len (Nat.le_refl _)]; simp⟩, trivial⟩ rfl rfl rfl ?_)
                intro n33 hn33
                refine ev_q rfl (q_assign (by conv => lhs; whnf) ?_)
                refine ev_nil (hK32 _ ?_); clear hK32
                refine good_seq fun K34 hK34 => ?_
                refine good_region rfl ?_
                refine ev_q rfl (q_assign (by conv => lhs; whnf) ?_)
                refine ev_nil (hK34 _ ?_); clear hK34
                refine good_seq fun K35 hK35 => ?_
                refine good_region rfl ?_
                refine ev_q rfl (q_move (by conv => lhs; whnf) ?_)
                refine ev_q rfl (q_move (by conv => lhs; whnf) ?_)
                refine ev_q rfl (q_callI rfl rfl (by change ([.lst 1 (List.take ((wpR ns ps cnt)).length (mkC 1 ((wpR ns ps cnt)) ((wpR ns ps cnt)).length)), .s (.int .i64 1)] : List AV) = _; rw [mkC_take]) (D_laws_heldInt64S (wpR ns ps cnt) 1 (by have := wpR_len (ns := ns) (ps := ps) (c := cnt); omega) (by omega)) ?_)
                intro n36 hn36
                refine ev_q rfl (q_assign (by conv => lhs; whnf) ?_)
                refine ev_nil (hK35 _ ?_); clear hK35
                refine good_seq fun K37 hK37 => ?_
                refine good_seq fun K38 hK38 => ?_
                refine good_region rfl ?_
                refine ev_q rfl (q_move (by conv => lhs; whnf) ?_)
                refine ev_q rfl (q_int rfl rfl ?_)
                intro b39 hb39; cases b39
                · replace hb39 := dF hb39
                  refine ev_nil (hK38 _ ?_); clear hK38
                  refine good_condF rfl ?_
                  refine good_skip (hK37 _ ?_); clear hK37
                  refine good_seq fun K40 hK40 => ?_
                  refine good_seq fun K41 hK41 => ?_
                  refine good_region rfl ?_
                  refine ev_q rfl (q_move (by conv => lhs; whnf) ?_)
                  refine ev_q rfl (q_move (by conv => lhs; whnf) ?_)
                  refine ev_q rfl (q_int rfl rfl ?_)
                  intro b42 hb42; cases b42
                  · replace hb42 := neF hb42
                    refine ev_nil (hK41 _ ?_); clear hK41
                    refine good_condF rfl ?_
                    refine good_skip (hK40 _ ?_); clear hK40
                    refine good_seq fun K43 hK43 => ?_
                    refine good_region rfl ?_
                    refine ev_q rfl (q_loadA tA25 rfl rfl rfl ?_)
                    refine ev_q rfl (q_call rfl rfl (rfl) (D_laws_toNetwork ns ps hn hp) rfl ?_)
                    refine ev_q rfl (q_move (by conv => lhs; whnf) ?_)
                    refine ev_q rfl (q_call rfl rfl (rfl) (D_impl_WorstPipes ns ps cnt hn hp hz) rfl ?_)
                    refine ev_q rfl (q_move (by conv => lhs; whnf) ?_)
                    refine ev_q rfl (q_extract rfl rfl ?_)
                    refine ev_q rfl (q_extractI rfl rfl ?_)
                    intro n44 hn44
                    refine ev_q rfl (q_assign (by conv => lhs; whnf) ?_)
                    refine ev_q rfl (q_assign (by conv => lhs; whnf) ?_)
                    refine ev_nil (hK43 _ ?_); clear hK43
                    refine good_seq fun K45 hK45 => ?_
                    refine good_seq fun K46 hK46 => ?_
                    refine good_region rfl ?_
                    refine ev_q rfl (q_move (by conv => lhs; whnf) ?_)
                    refine ev_q rfl (q_move (by conv => lhs; whnf) ?_)
                    refine ev_q rfl (q_callB rfl rfl (rfl) (D_laws_eqInt64S (wpR ns ps cnt) (by have := wpR_len (ns := ns) (ps := ps) (c := cnt); omega)) ?_)
                    intro b47 hb47; cases b47
                    · first | replace hb47 := dF hb47 | skip
                      refine ev_q rfl (q_not rfl rfl ?_)
                      refine ev_q rfl (q_move (by conv => lhs; whnf) ?_)
                      refine ev_skip rfl ?_
                      refine ev_skip rfl ?_
                      refine ev_skip rfl ?_
                      refine ev_q rfl (q_pickT rfl (by conv => lhs; whnf) ?_)
                      refine ev_nil (hK46 _ ?_); clear hK46
                      refine good_condT rfl ?_
                      refine good_seq fun K48 hK48 => ?_
                      refine good_region rfl ?_
                      refine ev_q rfl (q_assign (by conv => lhs; whnf) ?_)
                      refine ev_nil (hK48 _ ?_); clear hK48
                      refine good_ret ?_
                      repeat (first | refine thenQ_ret ?_ | refine blockQ_ret ?_)
                      refine ret_tmp (st := _) rfl (by conv => lhs; whnf) rfl ?_
                      clear hK45
                      first | rfl | (exfalso; first | omega | contradiction | grind)
                    · first | replace hb47 := dT hb47 | skip
                      refine ev_q rfl (q_not rfl rfl ?_)
                      refine ev_q rfl (q_move (by conv => lhs; whnf) ?_)
                      refine ev_q rfl (q_move (by conv => lhs; whnf) ?_)
                      refine ev_q rfl (q_move (by conv => lhs; whnf) ?_)
                      refine ev_q rfl (q_int rfl rfl ?_)
                      intro b49 hb49; cases b49
                      · replace hb49 := neF hb49
                        refine ev_q rfl (q_pickF rfl (by conv => lhs; whnf) ?_)
                        refine ev_nil (hK46 _ ?_); clear hK46
                        refine good_condF rfl ?_
                        refine good_skip (hK45 _ ?_); clear hK45
                        refine good_seq fun K50 hK50 => ?_
                        refine good_region rfl ?_
                        refine ev_q rfl (q_assign (by conv => lhs; whnf) ?_)
                        refine ev_nil (hK50 _ ?_); clear hK50
                        refine good_seq fun K51 hK51 => ?_
                        refine good_region rfl ?_
                        refine ev_q rfl (q_move (by conv => lhs; whnf) ?_)
                        refine ev_q rfl (q_move (by conv => lhs; whnf) ?_)
                        refine ev_q rfl (q_callI rfl rfl (by change ([.lst 1 (List.take ((wpR ns ps cnt)).length (mkC 1 ((wpR ns ps cnt)) ((wpR ns ps cnt)).length)), .s (.int .i64 1)] : List AV) = _; rw [mkC_take]) (D_laws_heldInt64S (wpR ns ps cnt) 1 (by have := wpR_len (ns := ns) (ps := ps) (c := cnt); omega) (by omega)) ?_)
                        intro n52 hn52
                        refine ev_q rfl (q_assign (by conv => lhs; whnf) ?_)
                        refine ev_nil (hK51 _ ?_); clear hK51
                        refine good_seq fun K53 hK53 => ?_
                        refine good_seq fun K54 hK54 => ?_
                        refine good_region rfl ?_
                        refine ev_q rfl (q_move (by conv => lhs; whnf) ?_)
                        refine ev_q rfl (q_int rfl rfl ?_)
                        intro b55 hb55; cases b55
                        · replace hb55 := dF hb55
                          refine ev_nil (hK54 _ ?_); clear hK54
                          refine good_condF rfl ?_
                          refine good_skip (hK53 _ ?_); clear hK53
                          refine good_seq fun K56 hK56 => ?_
                          refine good_seq fun K57 hK57 => ?_
                          refine good_region rfl ?_
                          refine ev_q rfl (q_move (by conv => lhs; whnf) ?_)
                          refine ev_q rfl (q_move (by conv => lhs; whnf) ?_)
                          refine ev_q rfl (q_int rfl rfl ?_)
                          intro b58 hb58; cases b58
                          · replace hb58 := neF hb58
                            refine ev_nil (hK57 _ ?_); clear hK57
                            refine good_condF rfl ?_
                            refine good_skip (hK56 _ ?_); clear hK56
                            refine good_seq fun K59 hK59 => ?_
                            refine good_region rfl ?_
                            refine ev_q rfl (q_assign (by conv => lhs; whnf) ?_)
                            refine ev_nil (hK59 _ ?_); clear hK59
                            refine good_ret ?_
                            repeat (first | refine thenQ_ret ?_ | refine blockQ_ret ?_)
                            refine ret_tmp (st := _) rfl (by conv => lhs; whnf) rfl ?_
                            first | rfl | (exfalso; first | omega | contradiction | grind)
                          · replace hb58 := neT hb58
                            refine ev_nil (hK57 _ ?_); clear hK57
                            refine good_condT rfl ?_
                            refine good_seq fun K60 hK60 => ?_
                            refine good_region rfl ?_
                            refine ev_q rfl (q_assign (by conv => lhs; whnf) ?_)
                            refine ev_nil (hK60 _ ?_); clear hK60
                            refine good_ret ?_
                            repeat (first | refine thenQ_ret ?_ | refine blockQ_ret ?_)
                            refine ret_tmp (st := _) rfl (by conv => lhs; whnf) rfl ?_
                            clear hK56
                            first | rfl | (exfalso; first | omega | contradiction | grind)
                        · replace hb55 := dT hb55
                          refine ev_nil (hK54 _ ?_); clear hK54
                          refine good_condT rfl ?_
                          refine good_seq fun K61 hK61 => ?_
                          refine good_region rfl ?_
                          refine ev_q rfl (q_assign (by conv => lhs; whnf) ?_)
                          refine ev_nil (hK61 _ ?_); clear hK61
                          refine good_ret ?_
                          repeat (first | refine thenQ_ret ?_ | refine blockQ_ret ?_)
                          refine ret_tmp (st := _) rfl (by conv => lhs; whnf) rfl ?_
                          clear hK53
                          first | rfl | (exfalso; first | omega | contradiction | grind)
                      · replace hb49 := neT hb49
                        refine ev_q rfl (q_pickF rfl (by conv => lhs; whnf) ?_)
                        refine ev_nil (hK46 _ ?_); clear hK46
                        refine good_condT rfl ?_
                        refine good_seq fun K62 hK62 => ?_
                        refine good_region rfl ?_
                        refine ev_q rfl (q_assign (by conv => lhs; whnf) ?_)
                        refine ev_nil (hK62 _ ?_); clear hK62
                        refine good_ret ?_
                        repeat (first | refine thenQ_ret ?_ | refine blockQ_ret ?_)
                        refine ret_tmp (st := _) rfl (by conv => lhs; whnf) rfl ?_
                        clear hK45
                        first | rfl | (exfalso; first | omega | contradiction | grind)
                  · replace hb42 := neT hb42
                    refine ev_nil (hK41 _ ?_); clear hK41
                    refine good_condT rfl ?_
                    refine good_seq fun K63 hK63 => ?_
                    refine good_region rfl ?_
                    refine ev_q rfl (q_assign (by conv => lhs; whnf) ?_)
                    refine ev_nil (hK63 _ ?_); clear hK63
                    refine good_ret ?_
                    repeat (first | refine thenQ_ret ?_ | refine blockQ_ret ?_)
                    refine ret_tmp (st := _) rfl (by conv => lhs; whnf) rfl ?_
                    clear hK40
                    first | rfl | (exfalso; first | omega | contradiction | grind)
                · replace hb39 := dT hb39
                  refine ev_nil (hK38 _ ?_); clear hK38
                  refine good_condT rfl ?_
                  refine good_seq fun K64 hK64 => ?_
                  refine good_region rfl ?_
                  refine ev_q rfl (q_assign (by conv => lhs; whnf) ?_)
                  refine ev_nil (hK64 _ ?_); clear hK64
                  refine good_ret ?_
                  repeat (first | refine thenQ_ret ?_ | refine blockQ_ret ?_)
                  refine ret_tmp (st := _) rfl (by conv => lhs; whnf) rfl ?_
                  clear hK37
                  first | rfl | (exfalso; first | omega | contradiction | grind)
              · replace hb30 := neT hb30
                refine ev_q rfl (q_pickF rfl (by conv => lhs; whnf) ?_)
                refine ev_nil (hK26 _ ?_); clear hK26
                refine good_condT rfl ?_
                refine good_seq fun K65 hK65 => ?_
                refine good_region rfl ?_
                refine ev_q rfl (q_assign (by conv => lhs; whnf) ?_)
                refine ev_nil (hK65 _ ?_); clear hK65
                refine good_ret ?_
                repeat (first | refine thenQ_ret ?_ | refine blockQ_ret ?_)
                refine ret_tmp (st := _) rfl (by conv => lhs; whnf) rfl ?_
                clear hK25
                first | rfl | (exfalso; first | omega | contradiction | grind)
          · replace hb27 := dT hb27
            refine ev_q rfl (q_move (by conv => lhs; whnf) ?_)
            refine ev_skip rfl ?_
            refine ev_skip rfl ?_
            refine ev_skip rfl ?_
            refine ev_skip rfl ?_
            refine ev_q rfl (q_pickT rfl (by conv => lhs; whnf) ?_)
            refine ev_q rfl (q_move (by conv => lhs; whnf) ?_)
            refine ev_skip rfl ?_
            refine ev_skip rfl ?_
            refine ev_skip rfl ?_
            refine ev_q rfl (q_pickT rfl (by conv => lhs; whnf) ?_)
            refine ev_nil (hK26 _ ?_); clear hK26
            refine good_condT rfl ?_
            refine good_seq fun K66 hK66 => ?_
            refine good_region rfl ?_
            refine ev_q rfl (q_assign (by conv => lhs; whnf) ?_)
            refine ev_nil (hK66 _ ?_); clear hK66
            refine good_ret ?_
            repeat (first | refine thenQ_ret ?_ | refine blockQ_ret ?_)
            refine ret_tmp (st := _) rfl (by conv => lhs; whnf) rfl ?_
            clear hK25
            first | rfl | (exfalso; first | omega | contradiction | grind)
      · replace hb17 := neT hb17
        refine ev_q rfl (q_pickF rfl (by conv => lhs; whnf) ?_)
        refine ev_nil (hK14 _ ?_); clear hK14
        refine good_condT rfl ?_
        refine good_seq fun K67 hK67 => ?_
        refine good_region rfl ?_
        refine ev_q rfl (q_assign (by conv => lhs; whnf) ?_)
        refine ev_nil (hK67 _ ?_); clear hK67
        refine good_ret ?_
        repeat (first | refine thenQ_ret ?_ | refine blockQ_ret ?_)
        refine ret_tmp (st := _) rfl (by conv => lhs; whnf) rfl ?_
        clear hK13
        first | rfl | (exfalso; first | omega | contradiction | grind)
  · replace hb7 := dT hb7
    refine ev_nil (hK6 _ ?_); clear hK6
    refine good_condT rfl ?_
    refine good_seq fun K68 hK68 => ?_
    refine good_region rfl ?_
    refine ev_q rfl (q_assign (by conv => lhs; whnf) ?_)
    refine ev_nil (hK68 _ ?_); clear hK68
    refine good_ret ?_
    repeat (first | refine thenQ_ret ?_ | refine blockQ_ret ?_)
    refine ret_tmp (st := _) rfl (by conv => lhs; whnf) rfl ?_
    clear hK5
    first | rfl | (exfalso; first | omega | contradiction | grind)

end Go.Proofs.Ytodghlkodiidaaa.DFnExactWorstPipes
