/- Walks through the functions that FnExactSourcePressure reaches: what each answers. -/
import Derived.Test.YtkgnbjgnddfojaaGreatDFnExactSourcePressurec
set_option linter.unusedVariables false
set_option linter.unusedSimpArgs false
namespace Go.Proofs.YtkgnbjgnddfojaaGreat.DFnExactSourcePressure
open Go Go.RowKit Go.Proofs Go.Proofs.YtkgnbjgnddfojaaGreat Go.Proofs.YtkgnbjgnddfojaaGreat.Ev
-- impl.SourcePressure
set_option maxRecDepth 20000 in
set_option maxHeartbeats 2000000 in
theorem D_impl_SourcePressure (ns : List Int) (ps : List Pi) (s : Int) (fl ds : List Int) (mg : Int) (hn : ns.length ≤ 17592186044416) (hp : ps.length ≤ 2513169434843) (hz : idSz ps) (hf : fl.length ≤ 17592186044416) (hd : ds.length ≤ 17592186044416) : Den Tryz.prog 9 [.agg [.lst 1 (ns.map ci), .lst 6 (ps.map piA)], .s (.int .i64 s), .lst 1 (fl.map ci), .lst 1 (ds.map ci), .s (.int .i64 mg)] (.tup [.s (.int .i64 (spV ns ps s fl ds mg)), .s (.int .i64 (spC ns ps s fl ds mg))]) := by
  refine den_of_good Tryz.func9 (by decide) rfl (Nat.le_of_ble_eq_true rfl) (Nat.le_of_ble_eq_true rfl) ?_
  refine good_seq fun K1 hK1 => ?_
  refine good_region rfl ?_
  refine ev_k rfl (k_box (by conv => lhs; whnf) rfl rfl rfl ?_)
  refine ev_q rfl (q_assign (by conv => lhs; whnf) ?_)
  refine ev_q rfl (q_assign (by conv => lhs; whnf) ?_)
  refine ev_nil (hK1 _ ?_); clear hK1
  refine good_seq fun K2 hK2 => ?_
  refine good_block ?_
  refine good_seq fun K3 hK3 => ?_
  refine good_region rfl ?_
  refine ev_q rfl (q_loadA tA31 rfl rfl rfl ?_)
  refine ev_q rfl (q_callB rfl rfl (rfl) (D_impl_ValidNetwork ns ps hn hp hz) ?_)
  intro b4 hb4; cases b4
  · first | replace hb4 := dF hb4 | skip
    refine ev_q rfl (q_not rfl rfl ?_)
    refine ev_q rfl (q_assign (by conv => lhs; whnf) ?_)
    refine ev_nil (hK3 _ ?_); clear hK3
    refine good_condT rfl ?_
    refine good_seq fun K5 hK5 => ?_
    refine good_region rfl ?_
    refine ev_q rfl (q_assign (by conv => lhs; whnf) ?_)
    refine ev_q rfl (q_assign (by conv => lhs; whnf) ?_)
    refine ev_nil (hK5 _ ?_); clear hK5
    refine good_ret ?_
    repeat (first | refine thenQ_ret ?_ | refine blockQ_ret ?_)
    refine ret_many rfl ?_
    refine res_tmp (by conv => lhs; whnf) rfl ?_
    refine res_tmp (by conv => lhs; whnf) rfl ?_
    refine res_nil ?_
    clear hK2
    first | exact fTup1 (fI (by have := (sp_1 (by assumption) : spC ns ps s fl ds mg = 1 ∧ spV ns ps s fl ds mg = 0); omega)) (fTup1 (fI (by have := (sp_1 (by assumption) : spC ns ps s fl ds mg = 1 ∧ spV ns ps s fl ds mg = 0); omega)) rfl) | exact fTup1 (fI (by have := (sp_2 (by assumption) (by omega) : spC ns ps s fl ds mg = 2 ∧ spV ns ps s fl ds mg = 0); omega)) (fTup1 (fI (by have := (sp_2 (by assumption) (by omega) : spC ns ps s fl ds mg = 2 ∧ spV ns ps s fl ds mg = 0); omega)) rfl) | exact fTup1 (fI (by have := (sp_7 (by assumption) (by omega) (by omega) (fun h => by first | exact absurd h.1 (by assumption) | exact absurd h.2 (by assumption) | (have := h.2.1; omega) | exact absurd h.2.2 (by assumption)) : spC ns ps s fl ds mg = 7 ∧ spV ns ps s fl ds mg = 0); omega)) (fTup1 (fI (by have := (sp_7 (by assumption) (by omega) (by omega) (fun h => by first | exact absurd h.1 (by assumption) | exact absurd h.2 (by assumption) | (have := h.2.1; omega) | exact absurd h.2.2 (by assumption)) : spC ns ps s fl ds mg = 7 ∧ spV ns ps s fl ds mg = 0); omega)) rfl) | exact fTup1 (fI (by have := (sp_6 (by assumption) (by omega) (by omega) (by assumption) (by first | assumption | exact ⟨by omega, by assumption⟩) (by assumption) : spC ns ps s fl ds mg = 6 ∧ spV ns ps s fl ds mg = 0); omega)) (fTup1 (fI (by have := (sp_6 (by assumption) (by omega) (by omega) (by assumption) (by first | assumption | exact ⟨by omega, by assumption⟩) (by assumption) : spC ns ps s fl ds mg = 6 ∧ spV ns ps s fl ds mg = 0); omega)) rfl) | exact fTup1 (fI (by have := (sp_5 (by assumption) (by omega) (by omega) (by assumption) (by first | assumption | exact ⟨by omega, by assumption⟩) (by assumption) (by assumption) : spC ns ps s fl ds mg = 5 ∧ spV ns ps s fl ds mg = 0); omega)) (fTup1 (fI (by have := (sp_5 (by assumption) (by omega) (by omega) (by assumption) (by first | assumption | exact ⟨by omega, by assumption⟩) (by assumption) (by assumption) : spC ns ps s fl ds mg = 5 ∧ spV ns ps s fl ds mg = 0); omega)) rfl) | exact fTup1 (fI (by rw [(sp_0 (by assumption) (by omega) (by omega) (by assumption) (by first | assumption | exact ⟨by omega, by assumption⟩) (by assumption) (by assumption) : spC ns ps s fl ds mg = 0 ∧ _).2, show ns.length = j by omega])) (fTup1 (fI (by rw [(sp_0 (by assumption) (by omega) (by omega) (by assumption) (by first | assumption | exact ⟨by omega, by assumption⟩) (by assumption) (by assumption) : spC ns ps s fl ds mg = 0 ∧ _).1])) rfl)
  · first | replace hb4 := dT hb4 | skip
    refine ev_q rfl (q_not rfl rfl ?_)
    refine ev_q rfl (q_assign (by conv => lhs; whnf) ?_)
    refine ev_nil (hK3 _ ?_); clear hK3
    refine good_condF rfl ?_
    refine good_seq fun K6 hK6 => ?_
    refine good_region rfl ?_
    refine ev_q rfl (q_loadA tA31 rfl rfl rfl ?_)
    refine ev_q rfl (q_move (by conv => lhs; whnf) ?_)
    refine ev_q rfl (q_callB rfl rfl (rfl) (D_impl_Network_hasNode _ _ _ hn) ?_)
    intro b7 hb7; cases b7
    · first | replace hb7 := dF hb7 | skip
      refine ev_q rfl (q_not rfl rfl ?_)
      refine ev_q rfl (q_move (by conv => lhs; whnf) ?_)
      refine ev_skip rfl ?_
      refine ev_skip rfl ?_
      refine ev_skip rfl ?_
      refine ev_q rfl (q_pickT rfl (by conv => lhs; whnf) ?_)
      refine ev_q rfl (q_assign (by conv => lhs; whnf) ?_)
      refine ev_nil (hK6 _ ?_); clear hK6
      refine good_condT rfl ?_
      refine good_seq fun K8 hK8 => ?_
      refine good_region rfl ?_
      refine ev_q rfl (q_assign (by conv => lhs; whnf) ?_)
      refine ev_q rfl (q_assign (by conv => lhs; whnf) ?_)
      refine ev_nil (hK8 _ ?_); clear hK8
      refine good_ret ?_
      repeat (first | refine thenQ_ret ?_ | refine blockQ_ret ?_)
      refine ret_many rfl ?_
      refine res_tmp (by conv => lhs; whnf) rfl ?_
      refine res_tmp (by conv => lhs; whnf) rfl ?_
      refine res_nil ?_
      clear hK2
      first | exact fTup1 (fI (by have := (sp_1 (by assumption) : spC ns ps s fl ds mg = 1 ∧ spV ns ps s fl ds mg = 0); omega)) (fTup1 (fI (by have := (sp_1 (by assumption) : spC ns ps s fl ds mg = 1 ∧ spV ns ps s fl ds mg = 0); omega)) rfl) | exact fTup1 (fI (by have := (sp_2 (by assumption) (by omega) : spC ns ps s fl ds mg = 2 ∧ spV ns ps s fl ds mg = 0); omega)) (fTup1 (fI (by have := (sp_2 (by assumption) (by omega) : spC ns ps s fl ds mg = 2 ∧ spV ns ps s fl ds mg = 0); omega)) rfl) | exact fTup1 (fI (by have := (sp_7 (by assumption) (by omega) (by omega) (fun h => by first | exact absurd h.1 (by assumption) | exact absurd h.2 (by assumption) | (have := h.2.1; omega) | exact absurd h.2.2 (by assumption)) : spC ns ps s fl ds mg = 7 ∧ spV ns ps s fl ds mg = 0); omega)) (fTup1 (fI (by have := (sp_7 (by assumption) (by omega) (by omega) (fun h => by first | exact absurd h.1 (by assumption) | exact absurd h.2 (by assumption) | (have := h.2.1; omega) | exact absurd h.2.2 (by assumption)) : spC ns ps s fl ds mg = 7 ∧ spV ns ps s fl ds mg = 0); omega)) rfl) | exact fTup1 (fI (by have := (sp_6 (by assumption) (by omega) (by omega) (by assumption) (by first | assumption | exact ⟨by omega, by assumption⟩) (by assumption) : spC ns ps s fl ds mg = 6 ∧ spV ns ps s fl ds mg = 0); omega)) (fTup1 (fI (by have := (sp_6 (by assumption) (by omega) (by omega) (by assumption) (by first | assumption | exact ⟨by omega, by assumption⟩) (by assumption) : spC ns ps s fl ds mg = 6 ∧ spV ns ps s fl ds mg = 0); omega)) rfl) | exact fTup1 (fI (by have := (sp_5 (by assumption) (by omega) (by omega) (by assumption) (by first | assumption | exact ⟨by omega, by assumption⟩) (by assumption) (by assumption) : spC ns ps s fl ds mg = 5 ∧ spV ns ps s fl ds mg = 0); omega)) (fTup1 (fI (by have := (sp_5 (by assumption) (by omega) (by omega) (by assumption) (by first | assumption | exact ⟨by omega, by assumption⟩) (by assumption) (by assumption) : spC ns ps s fl ds mg = 5 ∧ spV ns ps s fl ds mg = 0); omega)) rfl) | exact fTup1 (fI (by rw [(sp_0 (by assumption) (by omega) (by omega) (by assumption) (by first | assumption | exact ⟨by omega, by assumption⟩) (by assumption) (by assumption) : spC ns ps s fl ds mg = 0 ∧ _).2, show ns.length = j by omega])) (fTup1 (fI (by rw [(sp_0 (by assumption) (by omega) (by omega) (by assumption) (by first | assumption | exact ⟨by omega, by assumption⟩) (by assumption) (by assumption) : spC ns ps s fl ds mg = 0 ∧ _).1])) rfl)
    · first | replace hb7 := dT hb7 | skip
      refine ev_q rfl (q_not rfl rfl ?_)
      refine ev_q rfl (q_move (by conv => lhs; whnf) ?_)
      refine ev_q rfl (q_move (by conv => lhs; whnf) ?_)
      refine ev_q rfl (q_callB rfl rfl (rfl) (D_impl_marginOk ..) ?_)
      intro b9 hb9; cases b9
      · first | replace hb9 := dF hb9 | skip
        refine ev_q rfl (q_not rfl rfl ?_)
        refine ev_q rfl (q_pickF rfl (by conv => lhs; whnf) ?_)
        refine ev_q rfl (q_assign (by conv => lhs; whnf) ?_)
        refine ev_nil (hK6 _ ?_); clear hK6
        refine good_condT rfl ?_
        refine good_seq fun K10 hK10 => ?_
        refine good_region rfl ?_
        refine ev_q rfl (q_assign (by conv => lhs; whnf) ?_)
        refine ev_q rfl (q_assign (by conv => lhs; whnf) ?_)
        refine ev_nil (hK10 _ ?_); clear hK10
        refine good_ret ?_
        repeat (first | refine thenQ_ret ?_ | refine blockQ_ret ?_)
        refine ret_many rfl ?_
        refine res_tmp (by conv => lhs; whnf) rfl ?_
        refine res_tmp (by conv => lhs; whnf) rfl ?_
        refine res_nil ?_
        clear hK2
        first | exact fTup1 (fI (by have := (sp_1 (by assumption) : spC ns ps s fl ds mg = 1 ∧ spV ns ps s fl ds mg = 0); omega)) (fTup1 (fI (by have := (sp_1 (by assumption) : spC ns ps s fl ds mg = 1 ∧ spV ns ps s fl ds mg = 0); omega)) rfl) | exact fTup1 (fI (by have := (sp_2 (by assumption) (by omega) : spC ns ps s fl ds mg = 2 ∧ spV ns ps s fl ds mg = 0); omega)) (fTup1 (fI (by have := (sp_2 (by assumption) (by omega) : spC ns ps s fl ds mg = 2 ∧ spV ns ps s fl ds mg = 0); omega)) rfl) | exact fTup1 (fI (by have := (sp_7 (by assumption) (by omega) (by omega) (fun h => by first | exact absurd h.1 (by assumption) | exact absurd h.2 (by assumption) | (have := h.2.1; omega) | exact absurd h.2.2 (by assumption)) : spC ns ps s fl ds mg = 7 ∧ spV ns ps s fl ds mg = 0); omega)) (fTup1 (fI (by have := (sp_7 (by assumption) (by omega) (by omega) (fun h => by first | exact absurd h.1 (by assumption) | exact absurd h.2 (by assumption) | (have := h.2.1; omega) | exact absurd h.2.2 (by assumption)) : spC ns ps s fl ds mg = 7 ∧ spV ns ps s fl ds mg = 0); omega)) rfl) | exact fTup1 (fI (by have := (sp_6 (by assumption) (by omega) (by omega) (by assumption) (by first | assumption | exact ⟨by omega, by assumption⟩) (by assumption) : spC ns ps s fl ds mg = 6 ∧ spV ns ps s fl ds mg = 0); omega)) (fTup1 (fI (by have := (sp_6 (by assumption) (by omega) (by omega) (by assumption) (by first | assumption | exact ⟨by omega, by assumption⟩) (by assumption) : spC ns ps s fl ds mg = 6 ∧ spV ns ps s fl ds mg = 0); omega)) rfl) | exact fTup1 (fI (by have := (sp_5 (by assumption) (by omega) (by omega) (by assumption) (by first | assumption | exact ⟨by omega, by assumption⟩) (by assumption) (by assumption) : spC ns ps s fl ds mg = 5 ∧ spV ns ps s fl ds mg = 0); omega)) (fTup1 (fI (by have := (sp_5 (by assumption) (by omega) (by omega) (by assumption) (by first | assumption | exact ⟨by omega, by assumption⟩) (by assumption) (by assumption) : spC ns ps s fl ds mg = 5 ∧ spV ns ps s fl ds mg = 0); omega)) rfl) | exact fTup1 (fI (by rw [(sp_0 (by assumption) (by omega) (by omega) (by assumption) (by first | assumption | exact ⟨by omega, by assumption⟩) (by assumption) (by assumption) : spC ns ps s fl ds mg = 0 ∧ _).2, show ns.length = j by omega])) (fTup1 (fI (by rw [(sp_0 (by assumption) (by omega) (by omega) (by assumption) (by first | assumption | exact ⟨by omega, by assumption⟩) (by assumption) (by assumption) : spC ns ps s fl ds mg = 0 ∧ _).1])) rfl)
      · first | replace hb9 := dT hb9 | skip
        refine ev_q rfl (q_not rfl rfl ?_)
        refine ev_q rfl (q_pickF rfl (by conv => lhs; whnf) ?_)
        refine ev_q rfl (q_assign (by conv => lhs; whnf) ?_)
        refine ev_nil (hK6 _ ?_); clear hK6
        refine good_condF rfl ?_
        refine good_seq fun K11 hK11 => ?_
        refine good_region rfl ?_
        refine ev_q rfl (q_loadA tA31 rfl rfl rfl ?_)
        refine ev_q rfl (q_move (by conv => lhs; whnf) ?_)
        refine ev_q rfl (q_callB rfl rfl (rfl) (D_impl_Network_flowsOk ns ps fl hn hp hz hf) ?_)
        intro b12 hb12; cases b12
        · first | replace hb12 := dF hb12 | skip
          refine ev_q rfl (q_not rfl rfl ?_)
          refine ev_q rfl (q_move (by conv => lhs; whnf) ?_)
          refine ev_skip rfl ?_
          refine ev_skip rfl ?_
          refine ev_skip rfl ?_
          refine ev_skip rfl ?_
          refine ev_skip rfl ?_
          refine ev_skip rfl ?_
          refine ev_q rfl (q_pickT rfl (by conv => lhs; whnf) ?_)
          refine ev_q rfl (q_move (by conv => lhs; whnf) ?_)
          refine ev_skip rfl ?_
          refine ev_skip rfl ?_
          refine ev_skip rfl ?_
          refine ev_q rfl (q_pickT rfl (by conv => lhs; whnf) ?_)
          refine ev_q rfl (q_assign (by conv => lhs; whnf) ?_)
          refine ev_nil (hK11 _ ?_); clear hK11
          refine good_condT rfl ?_
          refine good_seq fun K13 hK13 => ?_
          refine good_region rfl ?_
          refine ev_q rfl (q_assign (by conv => lhs; whnf) ?_)
          refine ev_q rfl (q_assign (by conv => lhs; whnf) ?_)
          refine ev_nil (hK13 _ ?_); clear hK13
          refine good_ret ?_
          repeat (first | refine thenQ_ret ?_ | refine blockQ_ret ?_)
          refine ret_many rfl ?_
          refine res_tmp (by conv => lhs; whnf) rfl ?_
          refine res_tmp (by conv => lhs; whnf) rfl ?_
          refine res_nil ?_
          clear hK2
          first | exact fTup1 (fI (by have := (sp_1 (by assumption) : spC ns ps s fl ds mg = 1 ∧ spV ns ps s fl ds mg = 0); omega)) (fTup1 (fI (by have := (sp_1 (by assumption) : spC ns ps s fl ds mg = 1 ∧ spV ns ps s fl ds mg = 0); omega)) rfl) | exact fTup1 (fI (by have := (sp_2 (by assumption) (by omega) : spC ns ps s fl ds mg = 2 ∧ spV ns ps s fl ds mg = 0); omega)) (fTup1 (fI (by have := (sp_2 (by assumption) (by omega) : spC ns ps s fl ds mg = 2 ∧ spV ns ps s fl ds mg = 0); omega)) rfl) | exact fTup1 (fI (by have := (sp_7 (by assumption) (by omega) (by omega) (fun h => by first | exact absurd h.1 (by assumption) | exact absurd h.2 (by assumption) | (have := h.2.1; omega) | exact absurd h.2.2 (by assumption)) : spC ns ps s fl ds mg = 7 ∧ spV ns ps s fl ds mg = 0); omega)) (fTup1 (fI (by have := (sp_7 (by assumption) (by omega) (by omega) (fun h => by first | exact absurd h.1 (by assumption) | exact absurd h.2 (by assumption) | (have := h.2.1; omega) | exact absurd h.2.2 (by assumption)) : spC ns ps s fl ds mg = 7 ∧ spV ns ps s fl ds mg = 0); omega)) rfl) | exact fTup1 (fI (by have := (sp_6 (by assumption) (by omega) (by omega) (by assumption) (by first | assumption | exact ⟨by omega, by assumption⟩) (by assumption) : spC ns ps s fl ds mg = 6 ∧ spV ns ps s fl ds mg = 0); omega)) (fTup1 (fI (by have := (sp_6 (by assumption) (by omega) (by omega) (by assumption) (by first | assumption | exact ⟨by omega, by assumption⟩) (by assumption) : spC ns ps s fl ds mg = 6 ∧ spV ns ps s fl ds mg = 0); omega)) rfl) | exact fTup1 (fI (by have := (sp_5 (by assumption) (by omega) (by omega) (by assumption) (by first | assumption | exact ⟨by omega, by assumption⟩) (by assumption) (by assumption) : spC ns ps s fl ds mg = 5 ∧ spV ns ps s fl ds mg = 0); omega)) (fTup1 (fI (by have := (sp_5 (by assumption) (by omega) (by omega) (by assumption) (by first | assumption | exact ⟨by omega, by assumption⟩) (by assumption) (by assumption) : spC ns ps s fl ds mg = 5 ∧ spV ns ps s fl ds mg = 0); omega)) rfl) | exact fTup1 (fI (by rw [(sp_0 (by assumption) (by omega) (by omega) (by assumption) (by first | assumption | exact ⟨by omega, by assumption⟩) (by assumption) (by assumption) : spC ns ps s fl ds mg = 0 ∧ _).2, show ns.length = j by omega])) (fTup1 (fI (by rw [(sp_0 (by assumption) (by omega) (by omega) (by assumption) (by first | assumption | exact ⟨by omega, by assumption⟩) (by assumption) (by assumption) : spC ns ps s fl ds mg = 0 ∧ _).1])) rfl)
        · first | replace hb12 := dT hb12 | skip
          refine ev_q rfl (q_not rfl rfl ?_)
          refine ev_q rfl (q_move (by conv => lhs; whnf) ?_)
          refine ev_q rfl (q_move (by conv => lhs; whnf) ?_)
          refine ev_q rfl (q_len tEs22 rfl ?_)
          intro n14 hn14
          try simp only [List.length_map] at hn14
          refine ev_q rfl (q_fieldAddrP fO31_0 rfl rfl ?_)
          refine ev_q rfl (q_load tA22 rfl ?_)
          refine ev_q rfl (q_len tEs22 rfl ?_)
          intro n15 hn15
          try simp only [List.length_map] at hn15
          refine ev_q rfl (q_int rfl rfl ?_)
          intro b16 hb16; cases b16
          · replace hb16 := neF hb16
            refine ev_q rfl (q_pickF rfl (by conv => lhs; whnf) ?_)
            refine ev_q rfl (q_move (by conv => lhs; whnf) ?_)
            refine ev_q rfl (q_move (by conv => lhs; whnf) ?_)
            refine ev_q rfl (q_callB rfl rfl (rfl) (D_impl_allWithin ds _ _ hd) ?_)
            intro b17 hb17; cases b17
            · first | replace hb17 := dF hb17 | skip
              refine ev_q rfl (q_not rfl rfl ?_)
              refine ev_q rfl (q_pickF rfl (by conv => lhs; whnf) ?_)
              refine ev_q rfl (q_assign (by conv => lhs; whnf) ?_)
              refine ev_nil (hK11 _ ?_); clear hK11
              refine good_condT rfl ?_
              refine good_seq fun K18 hK18 => ?_
              refine good_region rfl ?_
              refine ev_q rfl (q_assign (by conv => lhs; whnf) ?_)
              refine ev_q rfl (q_assign (by conv => lhs; whnf) ?_)
              refine ev_nil (hK18 _ ?_); clear hK18
              refine good_ret ?_
              repeat (first | refine thenQ_ret ?_ | refine blockQ_ret ?_)
              refine ret_many rfl ?_
              refine res_tmp (by conv => lhs; whnf) rfl ?_
              refine res_tmp (by conv => lhs; whnf) rfl ?_
              refine res_nil ?_
              clear hK2
              first | exact fTup1 (fI (by have := (sp_1 (by assumption) : spC ns ps s fl ds mg = 1 ∧ spV ns ps s fl ds mg = 0); omega)) (fTup1 (fI (by have := (sp_1 (by assumption) : spC ns ps s fl ds mg = 1 ∧ spV ns ps s fl ds mg = 0); omega)) rfl) | exact fTup1 (fI (by have := (sp_2 (by assumption) (by omega) : spC ns ps s fl ds mg = 2 ∧ spV ns ps s fl ds mg = 0); omega)) (fTup1 (fI (by have := (sp_2 (by assumption) (by omega) : spC ns ps s fl ds mg = 2 ∧ spV ns ps s fl ds mg = 0); omega)) rfl) | exact fTup1 (fI (by have := (sp_7 (by assumption) (by omega) (by omega) (fun h => by first | exact absurd h.1 (by assumption) | exact absurd h.2 (by assumption) | (have := h.2.1; omega) | exact absurd h.2.2 (by assumption)) : spC ns ps s fl ds mg = 7 ∧ spV ns ps s fl ds mg = 0); omega)) (fTup1 (fI (by have := (sp_7 (by assumption) (by omega) (by omega) (fun h => by first | exact absurd h.1 (by assumption) | exact absurd h.2 (by assumption) | (have := h.2.1; omega) | exact absurd h.2.2 (by assumption)) : spC ns ps s fl ds mg = 7 ∧ spV ns ps s fl ds mg = 0); omega)) rfl) | exact fTup1 (fI (by have := (sp_6 (by assumption) (by omega) (by omega) (by assumption) (by first | assumption | exact ⟨by omega, by assumption⟩) (by assumption) : spC ns ps s fl ds mg = 6 ∧ spV ns ps s fl ds mg = 0); omega)) (fTup1 (fI (by have := (sp_6 (by assumption) (by omega) (by omega) (by assumption) (by first | assumption | exact ⟨by omega, by assumption⟩) (by assumption) : spC ns ps s fl ds mg = 6 ∧ spV ns ps s fl ds mg = 0); omega)) rfl) | exact fTup1 (fI (by have := (sp_5 (by assumption) (by omega) (by omega) (by assumption) (by first | assumption | exact ⟨by omega, by assumption⟩) (by assumption) (by assumption) : spC ns ps s fl ds mg = 5 ∧ spV ns ps s fl ds mg = 0); omega)) (fTup1 (fI (by have := (sp_5 (by assumption) (by omega) (by omega) (by assumption) (by first | assumption | exact ⟨by omega, by assumption⟩) (by assumption) (by assumption) : spC ns ps s fl ds mg = 5 ∧ spV ns ps s fl ds mg = 0); omega)) rfl) | exact fTup1 (fI (by rw [(sp_0 (by assumption) (by omega) (by omega) (by assumption) (by first | assumption | exact ⟨by omega, by assumption⟩) (by assumption) (by assumption) : spC ns ps s fl ds mg = 0 ∧ _).2, show ns.length = j by omega])) (fTup1 (fI (by rw [(sp_0 (by assumption) (by omega) (by omega) (by assumption) (by first | assumption | exact ⟨by omega, by assumption⟩) (by assumption) (by assumption) : spC ns ps s fl ds mg = 0 ∧ _).1])) rfl)
            · first | replace hb17 := dT hb17 | skip
              refine ev_q rfl (q_not rfl rfl ?_)
              refine ev_q rfl (q_pickF rfl (by conv => lhs; whnf) ?_)
              refine ev_q rfl (q_assign (by conv => lhs; whnf) ?_)
              refine ev_nil (hK11 _ ?_); clear hK11
              refine good_condF rfl ?_
              refine good_seq fun K19 hK19 => ?_
              refine good_region rfl ?_
              refine ev_q rfl (q_loadA tA31 rfl rfl rfl ?_)
              refine ev_q rfl (q_callB rfl rfl (rfl) (D_impl_Network_isTree ns ps hn hp hz (by assumption)) ?_)
              intro b20 hb20; cases b20
              · first | replace hb20 := dF hb20 | skip
                refine ev_q rfl (q_not rfl rfl ?_)
                refine ev_q rfl (q_assign (by conv => lhs; whnf) ?_)
                refine ev_nil (hK19 _ ?_); clear hK19
                refine good_condT rfl ?_
                refine good_seq fun K21 hK21 => ?_
                refine good_region rfl ?_
                refine ev_q rfl (q_assign (by conv => lhs; whnf) ?_)
                refine ev_q rfl (q_assign (by conv => lhs; whnf) ?_)
                refine ev_nil (hK21 _ ?_); clear hK21
                refine good_ret ?_
                repeat (first | refine thenQ_ret ?_ | refine blockQ_ret ?_)
                refine ret_many rfl ?_
                refine res_tmp (by conv => lhs; whnf) rfl ?_
                refine res_tmp (by conv => lhs; whnf) rfl ?_
                refine res_nil ?_
                clear hK2
                first | exact fTup1 (fI (by have := (sp_1 (by assumption) : spC ns ps s fl ds mg = 1 ∧ spV ns ps s fl ds mg = 0); omega)) (fTup1 (fI (by have := (sp_1 (by assumption) : spC ns ps s fl ds mg = 1 ∧ spV ns ps s fl ds mg = 0); omega)) rfl) | exact fTup1 (fI (by have := (sp_2 (by assumption) (by omega) : spC ns ps s fl ds mg = 2 ∧ spV ns ps s fl ds mg = 0); omega)) (fTup1 (fI (by have := (sp_2 (by assumption) (by omega) : spC ns ps s fl ds mg = 2 ∧ spV ns ps s fl ds mg = 0); omega)) rfl) | exact fTup1 (fI (by have := (sp_7 (by assumption) (by omega) (by omega) (fun h => by first | exact absurd h.1 (by assumption) | exact absurd h.2 (by assumption) | (have := h.2.1; omega) | exact absurd h.2.2 (by assumption)) : spC ns ps s fl ds mg = 7 ∧ spV ns ps s fl ds mg = 0); omega)) (fTup1 (fI (by have := (sp_7 (by assumption) (by omega) (by omega) (fun h => by first | exact absurd h.1 (by assumption) | exact absurd h.2 (by assumption) | (have := h.2.1; omega) | exact absurd h.2.2 (by assumption)) : spC ns ps s fl ds mg = 7 ∧ spV ns ps s fl ds mg = 0); omega)) rfl) | exact fTup1 (fI (by have := (sp_6 (by assumption) (by omega) (by omega) (by assumption) (by first | assumption | exact ⟨by omega, by assumption⟩) (by assumption) : spC ns ps s fl ds mg = 6 ∧ spV ns ps s fl ds mg = 0); omega)) (fTup1 (fI (by have := (sp_6 (by assumption) (by omega) (by omega) (by assumption) (by first | assumption | exact ⟨by omega, by assumption⟩) (by assumption) : spC ns ps s fl ds mg = 6 ∧ spV ns ps s fl ds mg = 0); omega)) rfl) | exact fTup1 (fI (by have := (sp_5 (by assumption) (by omega) (by omega) (by assumption) (by first | assumption | exact ⟨by omega, by assumption⟩) (by assumption) (by assumption) : spC ns ps s fl ds mg = 5 ∧ spV ns ps s fl ds mg = 0); omega)) (fTup1 (fI (by have := (sp_5 (by assumption) (by omega) (by omega) (by assumption) (by first | assumption | exact ⟨by omega, by assumption⟩) (by assumption) (by assumption) : spC ns ps s fl ds mg = 5 ∧ spV ns ps s fl ds mg = 0); omega)) rfl) | exact fTup1 (fI (by rw [(sp_0 (by assumption) (by omega) (by omega) (by assumption) (by first | assumption | exact ⟨by omega, by assumption⟩) (by assumption) (by assumption) : spC ns ps s fl ds mg = 0 ∧ _).2, show ns.length = j by omega])) (fTup1 (fI (by rw [(sp_0 (by assumption) (by omega) (by omega) (by assumption) (by first | assumption | exact ⟨by omega, by assumption⟩) (by assumption) (by assumption) : spC ns ps s fl ds mg = 0 ∧ _).1])) rfl)
              · first | replace hb20 := dT hb20 | skip
                refine ev_q rfl (q_not rfl rfl ?_)
                refine ev_q rfl (q_assign (by conv => lhs; whnf) ?_)
                refine ev_nil (hK19 _ ?_); clear hK19
                refine good_condF rfl ?_
                refine good_seq fun K22 hK22 => ?_
                refine good_region rfl ?_
                refine ev_q rfl (q_loadA tA31 rfl rfl rfl ?_)
                refine ev_q rfl (q_move (by conv => lhs; whnf) ?_)
                refine ev_q rfl (q_callB rfl rfl (rfl) (D_impl_Network_dropsOk ns ps fl hn hp hz hf (by assumption) (by assumption)) ?_)
                intro b23 hb23; cases b23
                · first | replace hb23 := dF hb23 | skip
                  refine ev_q rfl (q_not rfl rfl ?_)
                  refine ev_q rfl (q_assign (by conv => lhs; whnf) ?_)
                  refine ev_nil (hK22 _ ?_); clear hK22
                  refine good_condT rfl ?_
                  refine good_seq fun K24 hK24 => ?_
                  refine good_region rfl ?_
                  refine ev_q rfl (q_assign (by conv => lhs; whnf) ?_)
                  refine ev_q rfl (q_assign (by conv => lhs; whnf) ?_)
                  refine ev_nil (hK24 _ ?_); clear hK24
                  refine good_ret ?_
                  repeat (first | refine thenQ_ret ?_ | refine blockQ_ret ?_)
                  refine ret_many rfl ?_
                  refine res_tmp (by conv => lhs; whnf) rfl ?_
                  refine res_tmp (by conv => lhs; whnf) rfl ?_
                  refine res_nil ?_
                  clear hK2
                  first | exact fTup1 (fI (by have := (sp_1 (by assumption) : spC ns ps s fl ds mg = 1 ∧ spV ns ps s fl ds mg = 0); omega)) (fTup1 (fI (by have := (sp_1 (by assumption) : spC ns ps s fl ds mg = 1 ∧ spV ns ps s fl ds mg = 0); omega)) rfl) | exact fTup1 (fI (by have := (sp_2 (by assumption) (by omega) : spC ns ps s fl ds mg = 2 ∧ spV ns ps s fl ds mg = 0); omega)) (fTup1 (fI (by have := (sp_2 (by assumption) (by omega) : spC ns ps s fl ds mg = 2 ∧ spV ns ps s fl ds mg = 0); omega)) rfl) | exact fTup1 (fI (by have := (sp_7 (by assumption) (by omega) (by omega) (fun h => by first | exact absurd h.1 (by assumption) | exact absurd h.2 (by assumption) | (have := h.2.1; omega) | exact absurd h.2.2 (by assumption)) : spC ns ps s fl ds mg = 7 ∧ spV ns ps s fl ds mg = 0); omega)) (fTup1 (fI (by have := (sp_7 (by assumption) (by omega) (by omega) (fun h => by first | exact absurd h.1 (by assumption) | exact absurd h.2 (by assumption) | (have := h.2.1; omega) | exact absurd h.2.2 (by assumption)) : spC ns ps s fl ds mg = 7 ∧ spV ns ps s fl ds mg = 0); omega)) rfl) | exact fTup1 (fI (by have := (sp_6 (by assumption) (by omega) (by omega) (by assumption) (by first | assumption | exact ⟨by omega, by assumption⟩) (by assumption) : spC ns ps s fl ds mg = 6 ∧ spV ns ps s fl ds mg = 0); omega)) (fTup1 (fI (by have := (sp_6 (by assumption) (by omega) (by omega) (by assumption) (by first | assumption | exact ⟨by omega, by assumption⟩) (by assumption) : spC ns ps s fl ds mg = 6 ∧ spV ns ps s fl ds mg = 0); omega)) rfl) | exact fTup1 (fI (by have := (sp_5 (by assumption) (by omega) (by omega) (by assumption) (by first | assumption | exact ⟨by omega, by assumption⟩) (by assumption) (by assumption) : spC ns ps s fl ds mg = 5 ∧ spV ns ps s fl ds mg = 0); omega)) (fTup1 (fI (by have := (sp_5 (by assumption) (by omega) (by omega) (by assumption) (by first | assumption | exact ⟨by omega, by assumption⟩) (by assumption) (by assumption) : spC ns ps s fl ds mg = 5 ∧ spV ns ps s fl ds mg = 0); omega)) rfl) | exact fTup1 (fI (by rw [(sp_0 (by assumption) (by omega) (by omega) (by assumption) (by first | assumption | exact ⟨by omega, by assumption⟩) (by assumption) (by assumption) : spC ns ps s fl ds mg = 0 ∧ _).2, show ns.length = j by omega])) (fTup1 (fI (by rw [(sp_0 (by assumption) (by omega) (by omega) (by assumption) (by first | assumption | exact ⟨by omega, by assumption⟩) (by assumption) (by assumption) : spC ns ps s fl ds mg = 0 ∧ _).1])) rfl)
                · first | replace hb23 := dT hb23 | skip
                  refine ev_q rfl (q_not rfl rfl ?_)
                  refine ev_q rfl (q_assign (by conv => lhs; whnf) ?_)
                  refine ev_nil (hK22 _ ?_); clear hK22
                  refine good_condF rfl ?_
                  refine good_skip (hK2 _ ?_); clear hK2
                  refine good_seq fun K25 hK25 => ?_
                  refine good_region rfl ?_
                  refine ev_q rfl (q_assign (by conv => lhs; whnf) ?_)
                  refine ev_nil (hK25 _ ?_); clear hK25
                  refine good_seq fun K26 hK26 => ?_
                  refine good_seq fun K27 hK27 => ?_
                  refine good_region rfl ?_
                  have hnk : netOk ns ps := by assumption
                  have hsrc : 0 ≤ s ∧ s < ns.length := by omega
                  have hflp : flP ps fl := by assumption
                  have htr : treeP ns ps := by assumption
                  have hdg : dgP ns ds := by first | assumption | exact ⟨by omega, by assumption⟩
                  refine ev_q rfl (q_loadA tA31 rfl rfl rfl ?_)
                  refine ev_q rfl (q_move (by conv => lhs; whnf) ?_)
                  refine ev_q rfl (q_move (by conv => lhs; whnf) ?_)
                  refine ev_k rfl (k_callX [(900003, 900003)] (D_impl_Network_pressures ns ps s fl 0 hn hp hz hf hnk hsrc hflp (by omega)) rfl (rfl) (rfl) trivial ⟨⟨rfl, show (900003 : Nat) < 1000000 by decide⟩, trivial⟩ rfl rfl rfl ?_)
                  refine ev_q rfl (q_len tEs22 rfl ?_)
                  intro n28 hn28
                  try simp only [List.length_map] at hn28
                  refine ev_q rfl (q_move (by conv => lhs; whnf) ?_)
                  refine ev_nil (hK27 _ ?_); clear hK27
                  refine good_block ?_
                  refine good_loop (α := Nat) (fun j => { env := upd (upd (upd (upd (upd (upd ((fun _ => .junk)) 3 (.lst 1 (ds.map ci))) 4 (.s (.int .i64 mg))) 12 (.s (.int .i64 (spM (spRow ns ps s fl) ds mg j)))) 59 (.own 900003 ns.length)) 60 (.s (.int .i64 ((ns.length : Int))))) 61 (.s (.int .i64 ((j : Int)))), H := upd ((fun _ => none)) 900003 (some (.row 2 1 ((spRow ns ps s fl).map ci))) }) (fun j => j ≤ ns.length) (fun j => ns.length - j) 0 ?_ ?_ ?_
                  · exact Nat.zero_le _
                  · refine sub_weak ?_ ?_
                    · exact weakH_row (rowEq (rfl)) (weakH_none _)
                    · refine weakE_upd ?e61 ?r61 (weakE_upd ?e60 ?r60 (weakE_upd ?e59 ?r59 (weakE_upd ?e12 ?r12 (weakE_upd ?e4 ?r4 (weakE_upd ?e3 ?r3 (weakE_junk _ _))))))
                      case e3 => first | rfl | exact fI (by omega) | (simp_all)
                      case r3 => intro h hh; cases hh
                      case e4 => first | rfl | exact fI (by omega) | (simp_all)
                      case r4 => intro h hh; cases hh
                      case e12 => first | rfl | exact fI (by omega) | (first | rfl | exact fI (by assumption) | exact fI (by omega))
                      case r12 => intro h hh; cases hh
                      case e59 => first | rfl | exact fI (by omega) | (simp_all)
                      case r59 => intro h hh; simp [refs] at hh; subst hh; rfl
                      case e60 => first | rfl | exact fI (by omega) | (simp_all)
                      case r60 => intro h hh; cases hh
                      case e61 => first | rfl | exact fI (by omega) | (simp_all)
                      case r61 => intro h hh; cases hh
                  · rintro j hI
                    refine good_seq fun K29 hK29 => ?_
                    refine good_region rfl ?_
                    refine ev_q rfl (q_int rfl rfl ?_)
                    intro b30 hb30; cases b30
                    · replace hb30 := dF hb30
                      refine ev_nil (hK29 _ ?_); clear hK29
                      refine good_seq fun K31 hK31 => ?_
                      refine good_condF rfl ?_
                      refine good_exit ?_
                      repeat (first | refine thenQ_exit ?_ | refine blockQ_pass rfl ?_)
                      refine blockQ_exit (hK26 _ ?_); clear hK26
                      refine good_seq fun K32 hK32 => ?_
                      refine good_region rfl ?_
                      refine ev_q rfl (q_move (by conv => lhs; whnf) ?_)
                      refine ev_q rfl (q_assign (by conv => lhs; whnf) ?_)
                      refine ev_q rfl (q_assign (by conv => lhs; whnf) ?_)
                      refine ev_nil (hK32 _ ?_); clear hK32
                      refine good_ret ?_
                      repeat (first | refine thenQ_ret ?_ | refine blockQ_ret ?_)
                      refine ret_many rfl ?_
                      refine res_tmp (by conv => lhs; whnf) rfl ?_
                      refine res_tmp (by conv => lhs; whnf) rfl ?_
                      refine res_nil ?_
                      clear hK31
                      first | exact fTup1 (fI (by have := (sp_1 (by assumption) : spC ns ps s fl ds mg = 1 ∧ spV ns ps s fl ds mg = 0); omega)) (fTup1 (fI (by have := (sp_1 (by assumption) : spC ns ps s fl ds mg = 1 ∧ spV ns ps s fl ds mg = 0); omega)) rfl) | exact fTup1 (fI (by have := (sp_2 (by assumption) (by omega) : spC ns ps s fl ds mg = 2 ∧ spV ns ps s fl ds mg = 0); omega)) (fTup1 (fI (by have := (sp_2 (by assumption) (by omega) : spC ns ps s fl ds mg = 2 ∧ spV ns ps s fl ds mg = 0); omega)) rfl) | exact fTup1 (fI (by have := (sp_7 (by assumption) (by omega) (by omega) (fun h => by first | exact absurd h.1 (by assumption) | exact absurd h.2 (by assumption) | (have := h.2.1; omega) | exact absurd h.2.2 (by assumption)) : spC ns ps s fl ds mg = 7 ∧ spV ns ps s fl ds mg = 0); omega)) (fTup1 (fI (by have := (sp_7 (by assumption) (by omega) (by omega) (fun h => by first | exact absurd h.1 (by assumption) | exact absurd h.2 (by assumption) | (have := h.2.1; omega) | exact absurd h.2.2 (by assumption)) : spC ns ps s fl ds mg = 7 ∧ spV ns ps s fl ds mg = 0); omega)) rfl) | exact fTup1 (fI (by have := (sp_6 (by assumption) (by omega) (by omega) (by assumption) (by first | assumption | exact ⟨by omega, by assumption⟩) (by assumption) : spC ns ps s fl ds mg = 6 ∧ spV ns ps s fl ds mg = 0); omega)) (fTup1 (fI (by have := (sp_6 (by assumption) (by omega) (by omega) (by assumption) (by first | assumption | exact ⟨by omega, by assumption⟩) (by assumption) : spC ns ps s fl ds mg = 6 ∧ spV ns ps s fl ds mg = 0); omega)) rfl) | exact fTup1 (fI (by have := (sp_5 (by assumption) (by omega) (by omega) (by assumption) (by first | assumption | exact ⟨by omega, by assumption⟩) (by assumption) (by assumption) : spC ns ps s fl ds mg = 5 ∧ spV ns ps s fl ds mg = 0); omega)) (fTup1 (fI (by have := (sp_5 (by assumption) (by omega) (by omega) (by assumption) (by first | assumption | exact ⟨by omega, by assumption⟩) (by assumption) (by assumption) : spC ns ps s fl ds mg = 5 ∧ spV ns ps s fl ds mg = 0); omega)) rfl) | exact fTup1 (fI (by rw [(sp_0 (by assumption) (by omega) (by omega) (by assumption) (by first | assumption | exact ⟨by omega, by assumption⟩) (by assumption) (by assumption) : spC ns ps s fl ds mg = 0 ∧ _).2, show ns.length = j by omega])) (fTup1 (fI (by rw [(sp_0 (by assumption) (by omega) (by omega) (by assumption) (by first | assumption | exact ⟨by omega, by assumption⟩) (by assumption) (by assumption) : spC ns ps s fl ds mg = 0 ∧ _).1])) rfl)
                    · replace hb30 := dT hb30
                      have hrb := spRow_bd (fl := fl) hnk hsrc hflp j
                      have hrl := spRow_len (ns := ns) (ps := ps) (s := s) (fl := fl)
                      have hsb := stm_bd (ds.getD j 0)
                      have hmb := spM_bd (ds := ds) (mg := mg) (by omega) (spRow_bd (fl := fl) hnk hsrc hflp) j
                      have hms := spM_s (xs := (spRow ns ps s fl)) (ds := ds) (mg := mg) (n := j)
                      have hdj := dgG hdg.2 j
                      refine ev_nil (hK29 _ ?_); clear hK29
                      refine good_seq fun K33 hK33 => ?_
                      refine good_condT rfl ?_
                      refine good_skip (hK33 _ ?_); clear hK33
                      refine good_seq fun K34 hK34 => ?_
                      refine good_block ?_
                      refine good_seq fun K35 hK35 => ?_
                      refine good_region rfl ?_
                      refine ev_q rfl (q_move (by conv => lhs; whnf) ?_)
                      refine ev_q rfl (q_idxO tE22 rfl rfl rfl (by exact Int.natCast_nonneg _) (by omega) rfl ?_)
                      refine ev_q rfl (q_loadE tA2 rfl rfl (by exact getG (t := (spRow ns ps s fl)) (v := j) (by omega)) rfl ?_)
                      refine ev_q rfl (q_assign (by conv => lhs; whnf) ?_)
                      refine ev_q rfl (q_assign (by conv => lhs; whnf) ?_)
                      refine ev_nil (hK35 _ ?_); clear hK35
                      refine good_region rfl ?_
                      refine ev_q rfl (q_move (by conv => lhs; whnf) ?_)
                      refine ev_q rfl (q_move (by conv => lhs; whnf) ?_)
                      refine ev_q rfl (q_move (by conv => lhs; whnf) ?_)
                      refine ev_q rfl (q_idx tE22 rfl rfl (by exact Int.natCast_nonneg _) (by exact getG (t := ds) (v := j) (by have := hdg.1; omega)) rfl ?_)
                      refine ev_q rfl (q_load tA2 rfl ?_)
                      refine ev_q rfl (q_callI rfl rfl (rfl) (D_impl_steamPressure _) ?_)
                      intro n36 hn36
                      refine ev_q rfl (q_move (by conv => lhs; whnf) ?_)
                      refine ev_q rfl (q_int rfl rfl ?_)
                      intro n37 hn37
                      replace hn37 := in64 hn37 (by omega) (by omega)
                      refine ev_q rfl (q_move (by conv => lhs; whnf) ?_)
                      refine ev_q rfl (q_int rfl rfl ?_)
                      intro n38 hn38
                      replace hn38 := in64 hn38 (by omega) (by omega)
                      refine ev_q rfl (q_max rfl rfl ?_)
                      intro n39 hn39; simp only [mxI, mnI] at hn39
                      have hmx : n39 = spM (spRow ns ps s fl) ds mg (j + 1) := by (rw [hms]; first | grind | (split at hn39 <;> split <;> omega))
                      refine ev_q rfl (q_assign (by conv => lhs; whnf) ?_)
                      refine ev_nil (hK34 _ ?_); clear hK34
                      refine good_region rfl ?_
                      refine ev_q rfl (q_int rfl rfl ?_)
                      intro n40 hn40
                      replace hn40 := in64 hn40 (by omega) (by omega)
                      refine ev_q rfl (q_move (by conv => lhs; whnf) ?_)
                      refine ev_nil ?_
                      clear hK26
                      refine ⟨j + 1, ?_, ?_, ?_⟩
                      · show _ ≤ _; omega
                      · first | omega | (simp only []; omega) | (dsimp only; omega)
                      · refine sub_weak ?_ ?_
                        · exact weakH_row (rowEq (rfl)) (weakH_none _)
                        · refine weakE_upd ?e61 ?r61 (weakE_upd ?e60 ?r60 (weakE_upd ?e59 ?r59 (weakE_upd ?e12 ?r12 (weakE_upd ?e4 ?r4 (weakE_upd ?e3 ?r3 (weakE_junk _ _))))))
                          case e3 => first | rfl | exact fI (by omega) | (simp_all)
                          case r3 => intro h hh; cases hh
                          case e4 => first | rfl | exact fI (by omega) | (simp_all)
                          case r4 => intro h hh; cases hh
                          case e12 => first | rfl | exact fI (by omega) | (first | rfl | exact fI (by assumption) | exact fI (by omega))
                          case r12 => intro h hh; cases hh
                          case e59 => first | rfl | exact fI (by omega) | (simp_all)
                          case r59 => intro h hh; simp [refs] at hh; subst hh; rfl
                          case e60 => first | rfl | exact fI (by omega) | (simp_all)
                          case r60 => intro h hh; cases hh
                          case e61 => first | rfl | exact fI (by omega) | (simp_all)
                          case r61 => intro h hh; cases hh
          · replace hb16 := neT hb16
            refine ev_q rfl (q_pickF rfl (by conv => lhs; whnf) ?_)
            refine ev_q rfl (q_move (by conv => lhs; whnf) ?_)
            refine ev_skip rfl ?_
            refine ev_skip rfl ?_
            refine ev_skip rfl ?_
            refine ev_q rfl (q_pickT rfl (by conv => lhs; whnf) ?_)
            refine ev_q rfl (q_assign (by conv => lhs; whnf) ?_)
            refine ev_nil (hK11 _ ?_); clear hK11
            refine good_condT rfl ?_
            refine good_seq fun K41 hK41 => ?_
            refine good_region rfl ?_
            refine ev_q rfl (q_assign (by conv => lhs; whnf) ?_)
            refine ev_q rfl (q_assign (by conv => lhs; whnf) ?_)
            refine ev_nil (hK41 _ ?_); clear hK41
            refine good_ret ?_
            repeat (first | refine thenQ_ret ?_ | refine blockQ_ret ?_)
            refine ret_many rfl ?_
            refine res_tmp (by conv => lhs; whnf) rfl ?_
            refine res_tmp (by conv => lhs; whnf) rfl ?_
            refine res_nil ?_
            clear hK2
            first | exact fTup1 (fI (by have := (sp_1 (by assumption) : spC ns ps s fl ds mg = 1 ∧ spV ns ps s fl ds mg = 0); omega)) (fTup1 (fI (by have := (sp_1 (by assumption) : spC ns ps s fl ds mg = 1 ∧ spV ns ps s fl ds mg = 0); omega)) rfl) | exact fTup1 (fI (by have := (sp_2 (by assumption) (by omega) : spC ns ps s fl ds mg = 2 ∧ spV ns ps s fl ds mg = 0); omega)) (fTup1 (fI (by have := (sp_2 (by assumption) (by omega) : spC ns ps s fl ds mg = 2 ∧ spV ns ps s fl ds mg = 0); omega)) rfl) | exact fTup1 (fI (by have := (sp_7 (by assumption) (by omega) (by omega) (fun h => by first | exact absurd h.1 (by assumption) | exact absurd h.2 (by assumption) | (have := h.2.1; omega) | exact absurd h.2.2 (by assumption)) : spC ns ps s fl ds mg = 7 ∧ spV ns ps s fl ds mg = 0); omega)) (fTup1 (fI (by have := (sp_7 (by assumption) (by omega) (by omega) (fun h => by first | exact absurd h.1 (by assumption) | exact absurd h.2 (by assumption) | (have := h.2.1; omega) | exact absurd h.2.2 (by assumption)) : spC ns ps s fl ds mg = 7 ∧ spV ns ps s fl ds mg = 0); omega)) rfl) | exact fTup1 (fI (by have := (sp_6 (by assumption) (by omega) (by omega) (by assumption) (by first | assumption | exact ⟨by omega, by assumption⟩) (by assumption) : spC ns ps s fl ds mg = 6 ∧ spV ns ps s fl ds mg = 0); omega)) (fTup1 (fI (by have := (sp_6 (by assumption) (by omega) (by omega) (by assumption) (by first | assumption | exact ⟨by omega, by assumption⟩) (by assumption) : spC ns ps s fl ds mg = 6 ∧ spV ns ps s fl ds mg = 0); omega)) rfl) | exact fTup1 (fI (by have := (sp_5 (by assumption) (by omega) (by omega) (by assumption) (by first | assumption | exact ⟨by omega, by assumption⟩) (by assumption) (by assumption) : spC ns ps s fl ds mg = 5 ∧ spV ns ps s fl ds mg = 0); omega)) (fTup1 (fI (by have := (sp_5 (by assumption) (by omega) (by omega) (by assumption) (by first | assumption | exact ⟨by omega, by assumption⟩) (by assumption) (by assumption) : spC ns ps s fl ds mg = 5 ∧ spV ns ps s fl ds mg = 0); omega)) rfl) | exact fTup1 (fI (by rw [(sp_0 (by assumption) (by omega) (by omega) (by assumption) (by first | assumption | exact ⟨by omega, by assumption⟩) (by assumption) (by assumption) : spC ns ps s fl ds mg = 0 ∧ _).2, show ns.length = j by omega])) (fTup1 (fI (by rw [(sp_0 (by assumption) (by omega) (by omega) (by assumption) (by first | assumption | exact ⟨by omega, by assumption⟩) (by assumption) (by assumption) : spC ns ps s fl ds mg = 0 ∧ _).1])) rfl)

-- spec.SourcePressure
set_option maxRecDepth 20000 in
set_option maxHeartbeats 2000000 in
theorem D_spec_SourcePressure (ns : List Int) (ps : List Pi) (s : Int) (fl ds : List Int) (mg : Int) (hn : ns.length ≤ 17592186044416) (hp : ps.length ≤ 2513169434843) (hz : idSz ps) (hf : fl.length ≤ 17592186044416) (hd : ds.length ≤ 17592186044416) : Den Tryz.prog 6 [.agg [.lst 1 (ns.map ci), .lst 6 (ps.map piA)], .s (.int .i64 s), .lst 1 (fl.map ci), .lst 1 (ds.map ci), .s (.int .i64 mg)] (.tup [.s (.int .i64 (spV ns ps s fl ds mg)), .s (.int .i64 (spC ns ps s fl ds mg))]) := by
  refine den_of_good Tryz.func6 (by decide) rfl (Nat.le_of_ble_eq_true rfl) (Nat.le_of_ble_eq_true rfl) ?_
  refine good_seq fun K1 hK1 => ?_
  refine good_region rfl ?_
  refine ev_k rfl (k_box (by conv => lhs; whnf) rfl rfl rfl ?_)
  refine ev_q rfl (q_assign (by conv => lhs; whnf) ?_)
  refine ev_q rfl (q_assign (by conv => lhs; whnf) ?_)
  refine ev_nil (hK1 _ ?_); clear hK1
  refine good_seq fun K2 hK2 => ?_
  refine good_region rfl ?_
  refine ev_q rfl (q_move (by conv => lhs; whnf) ?_)
  refine ev_q rfl (q_callI rfl rfl (rfl) (D_spec_l07Ask ns ps s hn hp hz) ?_)
  intro n3 hn3
  have hask := ask_y (fl := fl) hn3
  have hsk := sp_ask (fl := fl) (ds := ds) (mg := mg) hn3
  refine ev_q rfl (q_assign (by conv => lhs; whnf) ?_)
  refine ev_nil (hK2 _ ?_); clear hK2
  refine good_seq fun K4 hK4 => ?_
  refine good_seq fun K5 hK5 => ?_
  refine good_region rfl ?_
  refine ev_q rfl (q_move (by conv => lhs; whnf) ?_)
  refine ev_q rfl (q_int rfl rfl ?_)
  intro b6 hb6; cases b6
  · replace hb6 := neF hb6
    obtain ⟨hok, hsr⟩ := hask.1 (by omega)
    refine ev_nil (hK5 _ ?_); clear hK5
    refine good_condF rfl ?_
    refine good_skip (hK4 _ ?_); clear hK4
    refine good_seq fun K7 hK7 => ?_
    refine good_seq fun K8 hK8 => ?_
    refine good_region rfl ?_
    refine ev_q rfl (q_move (by conv => lhs; whnf) ?_)
    refine ev_q rfl (q_callB rfl rfl (rfl) (D_spec_l11Margin ..) ?_)
    intro b9 hb9; cases b9
    · first | replace hb9 := dF hb9 | skip
      refine ev_q rfl (q_not rfl rfl ?_)
      refine ev_nil (hK8 _ ?_); clear hK8
      refine good_condT rfl ?_
      refine good_seq fun K10 hK10 => ?_
      refine good_region rfl ?_
      refine ev_q rfl (q_assign (by conv => lhs; whnf) ?_)
      refine ev_q rfl (q_assign (by conv => lhs; whnf) ?_)
      refine ev_nil (hK10 _ ?_); clear hK10
      refine good_ret ?_
      repeat (first | refine thenQ_ret ?_ | refine blockQ_ret ?_)
      refine ret_many rfl ?_
      refine res_tmp (by conv => lhs; whnf) rfl ?_
      refine res_tmp (by conv => lhs; whnf) rfl ?_
      refine res_nil ?_
      clear hK7
      first | exact fTup1 (fI hse.2.symm) (fTup1 (fI (by omega)) rfl) | exact fTup1 (fI (by have := (sp_1 (by assumption) : spC ns ps s fl ds mg = 1 ∧ spV ns ps s fl ds mg = 0); omega)) (fTup1 (fI (by have := (sp_1 (by assumption) : spC ns ps s fl ds mg = 1 ∧ spV ns ps s fl ds mg = 0); omega)) rfl) | exact fTup1 (fI (by have := (sp_2 (by assumption) (by omega) : spC ns ps s fl ds mg = 2 ∧ spV ns ps s fl ds mg = 0); omega)) (fTup1 (fI (by have := (sp_2 (by assumption) (by omega) : spC ns ps s fl ds mg = 2 ∧ spV ns ps s fl ds mg = 0); omega)) rfl) | exact fTup1 (fI (by have := (sp_7 (by assumption) (by omega) (by omega) (fun h => by first | exact absurd h.1 (by assumption) | exact absurd h.2 (by assumption) | (have := h.2.1; omega) | exact absurd h.2.2 (by assumption)) : spC ns ps s fl ds mg = 7 ∧ spV ns ps s fl ds mg = 0); omega)) (fTup1 (fI (by have := (sp_7 (by assumption) (by omega) (by omega) (fun h => by first | exact absurd h.1 (by assumption) | exact absurd h.2 (by assumption) | (have := h.2.1; omega) | exact absurd h.2.2 (by assumption)) : spC ns ps s fl ds mg = 7 ∧ spV ns ps s fl ds mg = 0); omega)) rfl) | exact fTup1 (fI (by have := (sp_6 (by assumption) (by omega) (by omega) (by assumption) (by first | assumption | exact ⟨by omega, by assumption⟩) (by assumption) : spC ns ps s fl ds mg = 6 ∧ spV ns ps s fl ds mg = 0); omega)) (fTup1 (fI (by have := (sp_6 (by assumption) (by omega) (by omega) (by assumption) (by first | assumption | exact ⟨by omega, by assumption⟩) (by assumption) : spC ns ps s fl ds mg = 6 ∧ spV ns ps s fl ds mg = 0); omega)) rfl) | exact fTup1 (fI (by have := (sp_5 (by assumption) (by omega) (by omega) (by assumption) (by first | assumption | exact ⟨by omega, by assumption⟩) (by assumption) (by assumption) : spC ns ps s fl ds mg = 5 ∧ spV ns ps s fl ds mg = 0); omega)) (fTup1 (fI (by have := (sp_5 (by assumption) (by omega) (by omega) (by assumption) (by first | assumption | exact ⟨by omega, by assumption⟩) (by assumption) (by assumption) : spC ns ps s fl ds mg = 5 ∧ spV ns ps s fl ds mg = 0); omega)) rfl) | exact fTup1 (fI (by rw [(sp_0 (by assumption) (by omega) (by omega) (by assumption) (by first | assumption | exact ⟨by omega, by assumption⟩) (by assumption) (by assumption) : spC ns ps s fl ds mg = 0 ∧ _).2, show ns.length = j by omega])) (fTup1 (fI (by rw [(sp_0 (by assumption) (by omega) (by omega) (by assumption) (by first | assumption | exact ⟨by omega, by assumption⟩) (by assumption) (by assumption) : spC ns ps s fl ds mg = 0 ∧ _).1])) rfl)
    · first | replace hb9 := dT hb9 | skip
      refine ev_q rfl (q_not rfl rfl ?_)
      refine ev_nil (hK8 _ ?_); clear hK8
      refine good_condF rfl ?_
      refine good_skip (hK7 _ ?_); clear hK7
      refine good_seq fun K11 hK11 => ?_
      refine good_seq fun K12 hK12 => ?_
      refine good_region rfl ?_
      refine ev_q rfl (q_move (by conv => lhs; whnf) ?_)
      refine ev_q rfl (q_callB rfl rfl (rfl) (D_spec_l07Flows ns ps fl hn hp hz hf) ?_)
      intro b13 hb13; cases b13
      · first | replace hb13 := dF hb13 | skip
        refine ev_q rfl (q_not rfl rfl ?_)
        refine ev_q rfl (q_move (by conv => lhs; whnf) ?_)
        refine ev_skip rfl ?_
        refine ev_skip rfl ?_
        refine ev_skip rfl ?_
        refine ev_q rfl (q_pickT rfl (by conv => lhs; whnf) ?_)
        refine ev_nil (hK12 _ ?_); clear hK12
        refine good_condT rfl ?_
        refine good_seq fun K14 hK14 => ?_
        refine good_region rfl ?_
        refine ev_q rfl (q_assign (by conv => lhs; whnf) ?_)
        refine ev_q rfl (q_assign (by conv => lhs; whnf) ?_)
        refine ev_nil (hK14 _ ?_); clear hK14
        refine good_ret ?_
        repeat (first | refine thenQ_ret ?_ | refine blockQ_ret ?_)
        refine ret_many rfl ?_
        refine res_tmp (by conv => lhs; whnf) rfl ?_
        refine res_tmp (by conv => lhs; whnf) rfl ?_
        refine res_nil ?_
        clear hK11
        first | exact fTup1 (fI hse.2.symm) (fTup1 (fI (by omega)) rfl) | exact fTup1 (fI (by have := (sp_1 (by assumption) : spC ns ps s fl ds mg = 1 ∧ spV ns ps s fl ds mg = 0); omega)) (fTup1 (fI (by have := (sp_1 (by assumption) : spC ns ps s fl ds mg = 1 ∧ spV ns ps s fl ds mg = 0); omega)) rfl) | exact fTup1 (fI (by have := (sp_2 (by assumption) (by omega) : spC ns ps s fl ds mg = 2 ∧ spV ns ps s fl ds mg = 0); omega)) (fTup1 (fI (by have := (sp_2 (by assumption) (by omega) : spC ns ps s fl ds mg = 2 ∧ spV ns ps s fl ds mg = 0); omega)) rfl) | exact fTup1 (fI (by have := (sp_7 (by assumption) (by omega) (by omega) (fun h => by first | exact absurd h.1 (by assumption) | exact absurd h.2 (by assumption) | (have := h.2.1; omega) | exact absurd h.2.2 (by assumption)) : spC ns ps s fl ds mg = 7 ∧ spV ns ps s fl ds mg = 0); omega)) (fTup1 (fI (by have := (sp_7 (by assumption) (by omega) (by omega) (fun h => by first | exact absurd h.1 (by assumption) | exact absurd h.2 (by assumption) | (have := h.2.1; omega) | exact absurd h.2.2 (by assumption)) : spC ns ps s fl ds mg = 7 ∧ spV ns ps s fl ds mg = 0); omega)) rfl) | exact fTup1 (fI (by have := (sp_6 (by assumption) (by omega) (by omega) (by assumption) (by first | assumption | exact ⟨by omega, by assumption⟩) (by assumption) : spC ns ps s fl ds mg = 6 ∧ spV ns ps s fl ds mg = 0); omega)) (fTup1 (fI (by have := (sp_6 (by assumption) (by omega) (by omega) (by assumption) (by first | assumption | exact ⟨by omega, by assumption⟩) (by assumption) : spC ns ps s fl ds mg = 6 ∧ spV ns ps s fl ds mg = 0); omega)) rfl) | exact fTup1 (fI (by have := (sp_5 (by assumption) (by omega) (by omega) (by assumption) (by first | assumption | exact ⟨by omega, by assumption⟩) (by assumption) (by assumption) : spC ns ps s fl ds mg = 5 ∧ spV ns ps s fl ds mg = 0); omega)) (fTup1 (fI (by have := (sp_5 (by assumption) (by omega) (by omega) (by assumption) (by first | assumption | exact ⟨by omega, by assumption⟩) (by assumption) (by assumption) : spC ns ps s fl ds mg = 5 ∧ spV ns ps s fl ds mg = 0); omega)) rfl) | exact fTup1 (fI (by rw [(sp_0 (by assumption) (by omega) (by omega) (by assumption) (by first | assumption | exact ⟨by omega, by assumption⟩) (by assumption) (by assumption) : spC ns ps s fl ds mg = 0 ∧ _).2, show ns.length = j by omega])) (fTup1 (fI (by rw [(sp_0 (by assumption) (by omega) (by omega) (by assumption) (by first | assumption | exact ⟨by omega, by assumption⟩) (by assumption) (by assumption) : spC ns ps s fl ds mg = 0 ∧ _).1])) rfl)
      · first | replace hb13 := dT hb13 | skip
        refine ev_q rfl (q_not rfl rfl ?_)
        refine ev_q rfl (q_move (by conv => lhs; whnf) ?_)
        refine ev_q rfl (q_move (by conv => lhs; whnf) ?_)
        refine ev_q rfl (q_callB rfl rfl (rfl) (D_spec_l11Degrees ns ps ds hn hp hz hd) ?_)
        intro b15 hb15; cases b15
        · first | replace hb15 := dF hb15 | skip
          refine ev_q rfl (q_not rfl rfl ?_)
          refine ev_q rfl (q_pickF rfl (by conv => lhs; whnf) ?_)
          refine ev_nil (hK12 _ ?_); clear hK12
          refine good_condT rfl ?_
          refine good_seq fun K16 hK16 => ?_
          refine good_region rfl ?_
          refine ev_q rfl (q_assign (by conv => lhs; whnf) ?_)
          refine ev_q rfl (q_assign (by conv => lhs; whnf) ?_)
          refine ev_nil (hK16 _ ?_); clear hK16
          refine good_ret ?_
          repeat (first | refine thenQ_ret ?_ | refine blockQ_ret ?_)
          refine ret_many rfl ?_
          refine res_tmp (by conv => lhs; whnf) rfl ?_
          refine res_tmp (by conv => lhs; whnf) rfl ?_
          refine res_nil ?_
          clear hK11
          first | exact fTup1 (fI hse.2.symm) (fTup1 (fI (by omega)) rfl) | exact fTup1 (fI (by have := (sp_1 (by assumption) : spC ns ps s fl ds mg = 1 ∧ spV ns ps s fl ds mg = 0); omega)) (fTup1 (fI (by have := (sp_1 (by assumption) : spC ns ps s fl ds mg = 1 ∧ spV ns ps s fl ds mg = 0); omega)) rfl) | exact fTup1 (fI (by have := (sp_2 (by assumption) (by omega) : spC ns ps s fl ds mg = 2 ∧ spV ns ps s fl ds mg = 0); omega)) (fTup1 (fI (by have := (sp_2 (by assumption) (by omega) : spC ns ps s fl ds mg = 2 ∧ spV ns ps s fl ds mg = 0); omega)) rfl) | exact fTup1 (fI (by have := (sp_7 (by assumption) (by omega) (by omega) (fun h => by first | exact absurd h.1 (by assumption) | exact absurd h.2 (by assumption) | (have := h.2.1; omega) | exact absurd h.2.2 (by assumption)) : spC ns ps s fl ds mg = 7 ∧ spV ns ps s fl ds mg = 0); omega)) (fTup1 (fI (by have := (sp_7 (by assumption) (by omega) (by omega) (fun h => by first | exact absurd h.1 (by assumption) | exact absurd h.2 (by assumption) | (have := h.2.1; omega) | exact absurd h.2.2 (by assumption)) : spC ns ps s fl ds mg = 7 ∧ spV ns ps s fl ds mg = 0); omega)) rfl) | exact fTup1 (fI (by have := (sp_6 (by assumption) (by omega) (by omega) (by assumption) (by first | assumption | exact ⟨by omega, by assumption⟩) (by assumption) : spC ns ps s fl ds mg = 6 ∧ spV ns ps s fl ds mg = 0); omega)) (fTup1 (fI (by have := (sp_6 (by assumption) (by omega) (by omega) (by assumption) (by first | assumption | exact ⟨by omega, by assumption⟩) (by assumption) : spC ns ps s fl ds mg = 6 ∧ spV ns ps s fl ds mg = 0); omega)) rfl) | exact fTup1 (fI (by have := (sp_5 (by assumption) (by omega) (by omega) (by assumption) (by first | assumption | exact ⟨by omega, by assumption⟩) (by assumption) (by assumption) : spC ns ps s fl ds mg = 5 ∧ spV ns ps s fl ds mg = 0); omega)) (fTup1 (fI (by have := (sp_5 (by assumption) (by omega) (by omega) (by assumption) (by first | assumption | exact ⟨by omega, by assumption⟩) (by assumption) (by assumption) : spC ns ps s fl ds mg = 5 ∧ spV ns ps s fl ds mg = 0); omega)) rfl) | exact fTup1 (fI (by rw [(sp_0 (by assumption) (by omega) (by omega) (by assumption) (by first | assumption | exact ⟨by omega, by assumption⟩) (by assumption) (by assumption) : spC ns ps s fl ds mg = 0 ∧ _).2, show ns.length = j by omega])) (fTup1 (fI (by rw [(sp_0 (by assumption) (by omega) (by omega) (by assumption) (by first | assumption | exact ⟨by omega, by assumption⟩) (by assumption) (by assumption) : spC ns ps s fl ds mg = 0 ∧ _).1])) rfl)
        · first | replace hb15 := dT hb15 | skip
          refine ev_q rfl (q_not rfl rfl ?_)
          refine ev_q rfl (q_pickF rfl (by conv => lhs; whnf) ?_)
          refine ev_nil (hK12 _ ?_); clear hK12
          refine good_condF rfl ?_
          refine good_skip (hK11 _ ?_); clear hK11
          refine good_seq fun K17 hK17 => ?_
          refine good_seq fun K18 hK18 => ?_
          refine good_region rfl ?_
          refine ev_q rfl (q_callB rfl rfl (rfl) (D_spec_l04IsTree ns ps hn hp hz hok) ?_)
          intro b19 hb19; cases b19
          · first | replace hb19 := dF hb19 | skip
            refine ev_q rfl (q_not rfl rfl ?_)
            refine ev_nil (hK18 _ ?_); clear hK18
            refine good_condT rfl ?_
            refine good_seq fun K20 hK20 => ?_
            refine good_region rfl ?_
            refine ev_q rfl (q_assign (by conv => lhs; whnf) ?_)
            refine ev_q rfl (q_assign (by conv => lhs; whnf) ?_)
            refine ev_nil (hK20 _ ?_); clear hK20
            refine good_ret ?_
            repeat (first | refine thenQ_ret ?_ | refine blockQ_ret ?_)
            refine ret_many rfl ?_
            refine res_tmp (by conv => lhs; whnf) rfl ?_
            refine res_tmp (by conv => lhs; whnf) rfl ?_
            refine res_nil ?_
            clear hK17
            first | exact fTup1 (fI hse.2.symm) (fTup1 (fI (by omega)) rfl) | exact fTup1 (fI (by have := (sp_1 (by assumption) : spC ns ps s fl ds mg = 1 ∧ spV ns ps s fl ds mg = 0); omega)) (fTup1 (fI (by have := (sp_1 (by assumption) : spC ns ps s fl ds mg = 1 ∧ spV ns ps s fl ds mg = 0); omega)) rfl) | exact fTup1 (fI (by have := (sp_2 (by assumption) (by omega) : spC ns ps s fl ds mg = 2 ∧ spV ns ps s fl ds mg = 0); omega)) (fTup1 (fI (by have := (sp_2 (by assumption) (by omega) : spC ns ps s fl ds mg = 2 ∧ spV ns ps s fl ds mg = 0); omega)) rfl) | exact fTup1 (fI (by have := (sp_7 (by assumption) (by omega) (by omega) (fun h => by first | exact absurd h.1 (by assumption) | exact absurd h.2 (by assumption) | (have := h.2.1; omega) | exact absurd h.2.2 (by assumption)) : spC ns ps s fl ds mg = 7 ∧ spV ns ps s fl ds mg = 0); omega)) (fTup1 (fI (by have := (sp_7 (by assumption) (by omega) (by omega) (fun h => by first | exact absurd h.1 (by assumption) | exact absurd h.2 (by assumption) | (have := h.2.1; omega) | exact absurd h.2.2 (by assumption)) : spC ns ps s fl ds mg = 7 ∧ spV ns ps s fl ds mg = 0); omega)) rfl) | exact fTup1 (fI (by have := (sp_6 (by assumption) (by omega) (by omega) (by assumption) (by first | assumption | exact ⟨by omega, by assumption⟩) (by assumption) : spC ns ps s fl ds mg = 6 ∧ spV ns ps s fl ds mg = 0); omega)) (fTup1 (fI (by have := (sp_6 (by assumption) (by omega) (by omega) (by assumption) (by first | assumption | exact ⟨by omega, by assumption⟩) (by assumption) : spC ns ps s fl ds mg = 6 ∧ spV ns ps s fl ds mg = 0); omega)) rfl) | exact fTup1 (fI (by have := (sp_5 (by assumption) (by omega) (by omega) (by assumption) (by first | assumption | exact ⟨by omega, by assumption⟩) (by assumption) (by assumption) : spC ns ps s fl ds mg = 5 ∧ spV ns ps s fl ds mg = 0); omega)) (fTup1 (fI (by have := (sp_5 (by assumption) (by omega) (by omega) (by assumption) (by first | assumption | exact ⟨by omega, by assumption⟩) (by assumption) (by assumption) : spC ns ps s fl ds mg = 5 ∧ spV ns ps s fl ds mg = 0); omega)) rfl) | exact fTup1 (fI (by rw [(sp_0 (by assumption) (by omega) (by omega) (by assumption) (by first | assumption | exact ⟨by omega, by assumption⟩) (by assumption) (by assumption) : spC ns ps s fl ds mg = 0 ∧ _).2, show ns.length = j by omega])) (fTup1 (fI (by rw [(sp_0 (by assumption) (by omega) (by omega) (by assumption) (by first | assumption | exact ⟨by omega, by assumption⟩) (by assumption) (by assumption) : spC ns ps s fl ds mg = 0 ∧ _).1])) rfl)
          · first | replace hb19 := dT hb19 | skip
            refine ev_q rfl (q_not rfl rfl ?_)
            refine ev_nil (hK18 _ ?_); clear hK18
            refine good_condF rfl ?_
            refine good_skip (hK17 _ ?_); clear hK17
            refine good_seq fun K21 hK21 => ?_
            refine good_region rfl ?_
            have hnk : netOk ns ps := by assumption
            have hsrc : 0 ≤ s ∧ s < ns.length := by omega
            have hflp : flP ps fl := by assumption
            have htr : treeP ns ps := by assumption
            have hdg : dgP ns ds := by first | assumption | exact ⟨by omega, by assumption⟩
            refine ev_q rfl (q_move (by conv => lhs; whnf) ?_)
            refine ev_q rfl (q_move (by conv => lhs; whnf) ?_)
            refine ev_k rfl (k_callXc [(900003, 900003)] (D_spec_l07Pressures ns ps s fl 0 hn hp hz hf hnk hsrc hflp (by omega) htr) rfl (rfl) (⟨rfl, ⟨pure_ci, trivial⟩⟩) trivial ⟨⟨rfl, show (900003 : Nat) < 1000000 by decide⟩, trivial⟩ rfl rfl rfl ?_)
            refine ev_q rfl (q_move (by conv => lhs; whnf) ?_)
            refine ev_q rfl (q_extract rfl rfl ?_)
            refine ev_q rfl (q_extractB rfl rfl ?_)
            intro b22 hb22; cases b22
            · first | replace hb22 := dF hb22 | skip
              refine ev_q rfl (q_assign (by conv => lhs; whnf) ?_)
              refine ev_q rfl (q_assign (by conv => lhs; whnf) ?_)
              refine ev_nil (hK21 _ ?_); clear hK21
              refine good_seq fun K23 hK23 => ?_
              refine good_seq fun K24 hK24 => ?_
              refine good_region rfl ?_
              refine ev_q rfl (q_move (by conv => lhs; whnf) ?_)
              refine ev_q rfl (q_not rfl rfl ?_)
              refine ev_nil (hK24 _ ?_); clear hK24
              refine good_condT rfl ?_
              refine good_seq fun K25 hK25 => ?_
              refine good_region rfl ?_
              refine ev_q rfl (q_assign (by conv => lhs; whnf) ?_)
              refine ev_q rfl (q_assign (by conv => lhs; whnf) ?_)
              refine ev_nil (hK25 _ ?_); clear hK25
              refine good_ret ?_
              repeat (first | refine thenQ_ret ?_ | refine blockQ_ret ?_)
              refine ret_many rfl ?_
              refine res_tmp (by conv => lhs; whnf) rfl ?_
              refine res_tmp (by conv => lhs; whnf) rfl ?_
              refine res_nil ?_
              clear hK23
              first | exact fTup1 (fI hse.2.symm) (fTup1 (fI (by omega)) rfl) | exact fTup1 (fI (by have := (sp_1 (by assumption) : spC ns ps s fl ds mg = 1 ∧ spV ns ps s fl ds mg = 0); omega)) (fTup1 (fI (by have := (sp_1 (by assumption) : spC ns ps s fl ds mg = 1 ∧ spV ns ps s fl ds mg = 0); omega)) rfl) | exact fTup1 (fI (by have := (sp_2 (by assumption) (by omega) : spC ns ps s fl ds mg = 2 ∧ spV ns ps s fl ds mg = 0); omega)) (fTup1 (fI (by have := (sp_2 (by assumption) (by omega) : spC ns ps s fl ds mg = 2 ∧ spV ns ps s fl ds mg = 0); omega)) rfl) | exact fTup1 (fI (by have := (sp_7 (by assumption) (by omega) (by omega) (fun h => by first | exact absurd h.1 (by assumption) | exact absurd h.2 (by assumption) | (have := h.2.1; omega) | exact absurd h.2.2 (by assumption)) : spC ns ps s fl ds mg = 7 ∧ spV ns ps s fl ds mg = 0); omega)) (fTup1 (fI (by have := (sp_7 (by assumption) (by omega) (by omega) (fun h => by first | exact absurd h.1 (by assumption) | exact absurd h.2 (by assumption) | (have := h.2.1; omega) | exact absurd h.2.2 (by assumption)) : spC ns ps s fl ds mg = 7 ∧ spV ns ps s fl ds mg = 0); omega)) rfl) | exact fTup1 (fI (by have := (sp_6 (by assumption) (by omega) (by omega) (by assumption) (by first | assumption | exact ⟨by omega, by assumption⟩) (by assumption) : spC ns ps s fl ds mg = 6 ∧ spV ns ps s fl ds mg = 0); omega)) (fTup1 (fI (by have := (sp_6 (by assumption) (by omega) (by omega) (by assumption) (by first | assumption | exact ⟨by omega, by assumption⟩) (by assumption) : spC ns ps s fl ds mg = 6 ∧ spV ns ps s fl ds mg = 0); omega)) rfl) | exact fTup1 (fI (by have := (sp_5 (by assumption) (by omega) (by omega) (by assumption) (by first | assumption | exact ⟨by omega, by assumption⟩) (by assumption) (by assumption) : spC ns ps s fl ds mg = 5 ∧ spV ns ps s fl ds mg = 0); omega)) (fTup1 (fI (by have := (sp_5 (by assumption) (by omega) (by omega) (by assumption) (by first | assumption | exact ⟨by omega, by assumption⟩) (by assumption) (by assumption) : spC ns ps s fl ds mg = 5 ∧ spV ns ps s fl ds mg = 0); omega)) rfl) | exact fTup1 (fI (by rw [(sp_0 (by assumption) (by omega) (by omega) (by assumption) (by first | assumption | exact ⟨by omega, by assumption⟩) (by assumption) (by assumption) : spC ns ps s fl ds mg = 0 ∧ _).2, show ns.length = j by omega])) (fTup1 (fI (by rw [(sp_0 (by assumption) (by omega) (by omega) (by assumption) (by first | assumption | exact ⟨by omega, by assumption⟩) (by assumption) (by assumption) : spC ns ps s fl ds mg = 0 ∧ _).1])) rfl)
            · first | replace hb22 := dT hb22 | skip
              refine ev_q rfl (q_assign (by conv => lhs; whnf) ?_)
              refine ev_q rfl (q_assign (by conv => lhs; whnf) ?_)
              refine ev_nil (hK21 _ ?_); clear hK21
              refine good_seq fun K26 hK26 => ?_
              refine good_seq fun K27 hK27 => ?_
              refine good_region rfl ?_
              refine ev_q rfl (q_move (by conv => lhs; whnf) ?_)
              refine ev_q rfl (q_not rfl rfl ?_)
              refine ev_nil (hK27 _ ?_); clear hK27
              refine good_condF rfl ?_
              refine good_skip (hK26 _ ?_); clear hK26
              refine good_seq fun K28 hK28 => ?_
              refine good_region rfl ?_
              refine ev_q rfl (q_assign (by conv => lhs; whnf) ?_)
              refine ev_nil (hK28 _ ?_); clear hK28
              refine good_seq fun K29 hK29 => ?_
              refine good_seq fun K30 hK30 => ?_
              refine good_region rfl ?_
              refine ev_q rfl (q_assign (by conv => lhs; whnf) ?_)
              refine ev_nil (hK30 _ ?_); clear hK30
              refine good_block ?_
              refine good_loop (α := Nat) (fun j => { env := upd (upd (upd (upd (upd ((fun _ => .junk)) 3 (.lst 1 (ds.map ci))) 4 (.s (.int .i64 mg))) 13 (.own 900003 ns.length)) 15 (.s (.int .i64 (spM (spRow ns ps s fl) ds mg j)))) 16 (.s (.int .i64 ((j : Int)))), H := upd ((fun _ => none)) 900003 (some (.row 2 1 ((spRow ns ps s fl).map ci))) }) (fun j => j ≤ ns.length) (fun j => ns.length - j) 0 ?_ ?_ ?_
              · exact Nat.zero_le _
              · refine sub_weak ?_ ?_
                · exact weakH_row (rowEq (by first | rfl | (rw [if_pos (by assumption)]; rfl))) (weakH_none _)
                · refine weakE_upd ?e16 ?r16 (weakE_upd ?e15 ?r15 (weakE_upd ?e13 ?r13 (weakE_upd ?e4 ?r4 (weakE_upd ?e3 ?r3 (weakE_junk _ _)))))
                  case e3 => first | rfl | exact fI (by omega) | (simp_all)
                  case r3 => intro h hh; cases hh
                  case e4 => first | rfl | exact fI (by omega) | (simp_all)
                  case r4 => intro h hh; cases hh
                  case e13 => first | rfl | exact fI (by omega) | (first | rfl | exact ownEq (by rw [if_pos (by assumption)]; exact wyR_len.symm))
                  case r13 => intro h hh; simp [refs] at hh; subst hh; rfl
                  case e15 => first | rfl | exact fI (by omega) | (first | rfl | exact fI (by assumption) | exact fI (by omega))
                  case r15 => intro h hh; cases hh
                  case e16 => first | rfl | exact fI (by omega) | (simp_all)
                  case r16 => intro h hh; cases hh
              · rintro j hI
                refine good_seq fun K31 hK31 => ?_
                refine good_seq fun K32 hK32 => ?_
                refine good_region rfl ?_
                refine ev_q rfl (q_move (by conv => lhs; whnf) ?_)
                refine ev_q rfl (q_move (by conv => lhs; whnf) ?_)
                refine ev_q rfl (q_len tEs22 rfl ?_)
                intro n33 hn33
                try simp only [List.length_map] at hn33
                refine ev_q rfl (q_int rfl rfl ?_)
                intro b34 hb34; cases b34
                · replace hb34 := dF hb34
                  refine ev_nil (hK32 _ ?_); clear hK32
                  refine good_condF rfl ?_
                  refine good_exit ?_
                  repeat (first | refine thenQ_exit ?_ | refine blockQ_pass rfl ?_)
                  refine blockQ_exit (hK29 _ ?_); clear hK29
                  refine good_seq fun K35 hK35 => ?_
                  refine good_region rfl ?_
                  refine ev_q rfl (q_move (by conv => lhs; whnf) ?_)
                  refine ev_q rfl (q_assign (by conv => lhs; whnf) ?_)
                  refine ev_q rfl (q_assign (by conv => lhs; whnf) ?_)
                  refine ev_nil (hK35 _ ?_); clear hK35
                  refine good_ret ?_
                  repeat (first | refine thenQ_ret ?_ | refine blockQ_ret ?_)
                  refine ret_many rfl ?_
                  refine res_tmp (by conv => lhs; whnf) rfl ?_
                  refine res_tmp (by conv => lhs; whnf) rfl ?_
                  refine res_nil ?_
                  clear hK31
                  first | exact fTup1 (fI hse.2.symm) (fTup1 (fI (by omega)) rfl) | exact fTup1 (fI (by have := (sp_1 (by assumption) : spC ns ps s fl ds mg = 1 ∧ spV ns ps s fl ds mg = 0); omega)) (fTup1 (fI (by have := (sp_1 (by assumption) : spC ns ps s fl ds mg = 1 ∧ spV ns ps s fl ds mg = 0); omega)) rfl) | exact fTup1 (fI (by have := (sp_2 (by assumption) (by omega) : spC ns ps s fl ds mg = 2 ∧ spV ns ps s fl ds mg = 0); omega)) (fTup1 (fI (by have := (sp_2 (by assumption) (by omega) : spC ns ps s fl ds mg = 2 ∧ spV ns ps s fl ds mg = 0); omega)) rfl) | exact fTup1 (fI (by have := (sp_7 (by assumption) (by omega) (by omega) (fun h => by first | exact absurd h.1 (by assumption) | exact absurd h.2 (by assumption) | (have := h.2.1; omega) | exact absurd h.2.2 (by assumption)) : spC ns ps s fl ds mg = 7 ∧ spV ns ps s fl ds mg = 0); omega)) (fTup1 (fI (by have := (sp_7 (by assumption) (by omega) (by omega) (fun h => by first | exact absurd h.1 (by assumption) | exact absurd h.2 (by assumption) | (have := h.2.1; omega) | exact absurd h.2.2 (by assumption)) : spC ns ps s fl ds mg = 7 ∧ spV ns ps s fl ds mg = 0); omega)) rfl) | exact fTup1 (fI (by have := (sp_6 (by assumption) (by omega) (by omega) (by assumption) (by first | assumption | exact ⟨by omega, by assumption⟩) (by assumption) : spC ns ps s fl ds mg = 6 ∧ spV ns ps s fl ds mg = 0); omega)) (fTup1 (fI (by have := (sp_6 (by assumption) (by omega) (by omega) (by assumption) (by first | assumption | exact ⟨by omega, by assumption⟩) (by assumption) : spC ns ps s fl ds mg = 6 ∧ spV ns ps s fl ds mg = 0); omega)) rfl) | exact fTup1 (fI (by have := (sp_5 (by assumption) (by omega) (by omega) (by assumption) (by first | assumption | exact ⟨by omega, by assumption⟩) (by assumption) (by assumption) : spC ns ps s fl ds mg = 5 ∧ spV ns ps s fl ds mg = 0); omega)) (fTup1 (fI (by have := (sp_5 (by assumption) (by omega) (by omega) (by assumption) (by first | assumption | exact ⟨by omega, by assumption⟩) (by assumption) (by assumption) : spC ns ps s fl ds mg = 5 ∧ spV ns ps s fl ds mg = 0); omega)) rfl) | exact fTup1 (fI (by rw [(sp_0 (by assumption) (by omega) (by omega) (by assumption) (by first | assumption | exact ⟨by omega, by assumption⟩) (by assumption) (by assumption) : spC ns ps s fl ds mg = 0 ∧ _).2, show ns.length = j by omega])) (fTup1 (fI (by rw [(sp_0 (by assumption) (by omega) (by omega) (by assumption) (by first | assumption | exact ⟨by omega, by assumption⟩) (by assumption) (by assumption) : spC ns ps s fl ds mg = 0 ∧ _).1])) rfl)
                · replace hb34 := dT hb34
                  have hrb := spRow_bd (fl := fl) hnk hsrc hflp j
                  have hrl := spRow_len (ns := ns) (ps := ps) (s := s) (fl := fl)
                  have hsb := stm_bd (ds.getD j 0)
                  have hmb := spM_bd (ds := ds) (mg := mg) (by omega) (spRow_bd (fl := fl) hnk hsrc hflp) j
                  have hms := spM_s (xs := (spRow ns ps s fl)) (ds := ds) (mg := mg) (n := j)
                  have hdj := dgG hdg.2 j
                  refine ev_nil (hK32 _ ?_); clear hK32
                  refine good_condT rfl ?_
                  refine good_skip (hK31 _ ?_); clear hK31
                  refine good_seq fun K36 hK36 => ?_
                  refine good_block ?_
                  refine good_draw 15 hmix (by kernel_rfl) rfl ?_
                  refine qo_q rfl (q_move (by conv => lhs; whnf) ?_)
                  refine qo_q rfl (q_move (by conv => lhs; whnf) ?_)
                  refine qo_q rfl (q_move (by conv => lhs; whnf) ?_)
                  refine qo_q rfl (q_idx tE22 rfl rfl (by exact Int.natCast_nonneg _) (by exact getG (t := ds) (v := j) (by have := hdg.1; omega)) rfl ?_)
                  refine qo_q rfl (q_load tA2 rfl ?_)
                  refine qo_q rfl (q_callI rfl rfl (rfl) (D_spec_l11Steam _ (by omega)) ?_)
                  intro n37 hn37
                  refine qo_q rfl (q_move (by conv => lhs; whnf) ?_)
                  refine qo_q rfl (q_int rfl rfl ?_)
                  intro n38 hn38
                  replace hn38 := in64 hn38 (by omega) (by omega)
                  refine qo_q rfl (q_move (by conv => lhs; whnf) ?_)
                  refine qo_q rfl (q_move (by conv => lhs; whnf) ?_)
                  refine qo_q rfl (q_idxO tE22 rfl rfl rfl (by exact Int.natCast_nonneg _) (by omega) rfl ?_)
                  refine qo_q rfl (q_loadE tA2 rfl rfl (by exact getG (t := (spRow ns ps s fl)) (v := j) (by omega)) rfl ?_)
                  refine qo_q rfl (q_int rfl rfl ?_)
                  intro n39 hn39
                  replace hn39 := in64 hn39 (by omega) (by omega)
                  refine qo_q rfl (q_callI rfl rfl (rfl) (D_spec_l00Max ..) ?_)
                  intro n40 hn40
                  have hmx : n40 = spM (spRow ns ps s fl) ds mg (j + 1) := by (rw [hms, hn40]; split <;> split <;> omega)
                  refine qo_q rfl (q_assign (by conv => lhs; whnf) ?_)
                  refine qo_nil ?_
                  refine ev_nil (hK36 _ ?_); clear hK36
                  refine good_region rfl ?_
                  refine ev_q rfl (q_move (by conv => lhs; whnf) ?_)
                  refine ev_q rfl (q_int rfl rfl ?_)
                  intro n41 hn41
                  replace hn41 := in64 hn41 (by omega) (by omega)
                  refine ev_q rfl (q_assign (by conv => lhs; whnf) ?_)
                  refine ev_nil ?_
                  clear hK29
                  refine ⟨j + 1, ?_, ?_, ?_⟩
                  · show _ ≤ _; omega
                  · first | omega | (simp only []; omega) | (dsimp only; omega)
                  · refine sub_weak ?_ ?_
                    · exact weakH_row (rowEq (rfl)) (weakH_none _)
                    · refine weakE_upd ?e16 ?r16 (weakE_upd ?e15 ?r15 (weakE_upd ?e13 ?r13 (weakE_upd ?e4 ?r4 (weakE_upd ?e3 ?r3 (weakE_junk _ _)))))
                      case e3 => first | rfl | exact fI (by omega) | (simp_all)
                      case r3 => intro h hh; cases hh
                      case e4 => first | rfl | exact fI (by omega) | (simp_all)
                      case r4 => intro h hh; cases hh
                      case e13 => first | rfl | exact fI (by omega) | (first | rfl | exact ownEq (by rw [if_pos (by assumption)]; exact wyR_len.symm))
                      case r13 => intro h hh; simp [refs] at hh; subst hh; rfl
                      case e15 => first | rfl | exact fI (by omega) | (first | rfl | exact fI (by assumption) | exact fI (by omega))
                      case r15 => intro h hh; cases hh
                      case e16 => first | rfl | exact fI (by omega) | (simp_all)
                      case r16 => intro h hh; cases hh
  · replace hb6 := neT hb6
    have hse := hsk (by omega)
    refine ev_nil (hK5 _ ?_); clear hK5
    refine good_condT rfl ?_
    refine good_seq fun K42 hK42 => ?_
    refine good_region rfl ?_
    refine ev_q rfl (q_move (by conv => lhs; whnf) ?_)
    refine ev_q rfl (q_assign (by conv => lhs; whnf) ?_)
    refine ev_q rfl (q_assign (by conv => lhs; whnf) ?_)
    refine ev_nil (hK42 _ ?_); clear hK42
    refine good_ret ?_
    repeat (first | refine thenQ_ret ?_ | refine blockQ_ret ?_)
    refine ret_many rfl ?_
    refine res_tmp (by conv => lhs; whnf) rfl ?_
    refine res_tmp (by conv => lhs; whnf) rfl ?_
    refine res_nil ?_
    clear hK4
    first | exact fTup1 (fI hse.2.symm) (fTup1 (fI (by omega)) rfl) | exact fTup1 (fI (by have := (sp_1 (by assumption) : spC ns ps s fl ds mg = 1 ∧ spV ns ps s fl ds mg = 0); omega)) (fTup1 (fI (by have := (sp_1 (by assumption) : spC ns ps s fl ds mg = 1 ∧ spV ns ps s fl ds mg = 0); omega)) rfl) | exact fTup1 (fI (by have := (sp_2 (by assumption) (by omega) : spC ns ps s fl ds mg = 2 ∧ spV ns ps s fl ds mg = 0); omega)) (fTup1 (fI (by have := (sp_2 (by assumption) (by omega) : spC ns ps s fl ds mg = 2 ∧ spV ns ps s fl ds mg = 0); omega)) rfl) | exact fTup1 (fI (by have := (sp_7 (by assumption) (by omega) (by omega) (fun h => by first | exact absurd h.1 (by assumption) | exact absurd h.2 (by assumption) | (have := h.2.1; omega) | exact absurd h.2.2 (by assumption)) : spC ns ps s fl ds mg = 7 ∧ spV ns ps s fl ds mg = 0); omega)) (fTup1 (fI (by have := (sp_7 (by assumption) (by omega) (by omega) (fun h => by first | exact absurd h.1 (by assumption) | exact absurd h.2 (by assumption) | (have := h.2.1; omega) | exact absurd h.2.2 (by assumption)) : spC ns ps s fl ds mg = 7 ∧ spV ns ps s fl ds mg = 0); omega)) rfl) | exact fTup1 (fI (by have := (sp_6 (by assumption) (by omega) (by omega) (by assumption) (by first | assumption | exact ⟨by omega, by assumption⟩) (by assumption) : spC ns ps s fl ds mg = 6 ∧ spV ns ps s fl ds mg = 0); omega)) (fTup1 (fI (by have := (sp_6 (by assumption) (by omega) (by omega) (by assumption) (by first | assumption | exact ⟨by omega, by assumption⟩) (by assumption) : spC ns ps s fl ds mg = 6 ∧ spV ns ps s fl ds mg = 0); omega)) rfl) | exact fTup1 (fI (by have := (sp_5 (by assumption) (by omega) (by omega) (by assumption) (by first | assumption | exact ⟨by omega, by assumption⟩) (by assumption) (by assumption) : spC ns ps s fl ds mg = 5 ∧ spV ns ps s fl ds mg = 0); omega)) (fTup1 (fI (by have := (sp_5 (by assumption) (by omega) (by omega) (by assumption) (by first | assumption | exact ⟨by omega, by assumption⟩) (by assumption) (by assumption) : spC ns ps s fl ds mg = 5 ∧ spV ns ps s fl ds mg = 0); omega)) rfl) | exact fTup1 (fI (by rw [(sp_0 (by assumption) (by omega) (by omega) (by assumption) (by first | assumption | exact ⟨by omega, by assumption⟩) (by assumption) (by assumption) : spC ns ps s fl ds mg = 0 ∧ _).2, show ns.length = j by omega])) (fTup1 (fI (by rw [(sp_0 (by assumption) (by omega) (by omega) (by assumption) (by first | assumption | exact ⟨by omega, by assumption⟩) (by assumption) (by assumption) : spC ns ps s fl ds mg = 0 ∧ _).1])) rfl)

-- laws.FnExactSourcePressure
set_option maxRecDepth 20000 in
set_option maxHeartbeats 2000000 in
theorem D_laws_FnExactSourcePressure (ns : List Int) (ps : List Pi) (s : Int) (fl ds : List Int) (mg : Int) (hn : ns.length ≤ 17592186044416) (hp : ps.length ≤ 2513169434843) (hz : idSz ps) (hf : fl.length ≤ 17592186044416) (hd : ds.length ≤ 17592186044416) : Den Tryz.prog 3 [.agg [.lst 1 (ns.map ci), .lst 6 (ps.map piA)], .s (.int .i64 s), .lst 1 (fl.map ci), .lst 1 (ds.map ci), .s (.int .i64 mg)] (.s (.bool true)) := by
  refine den_of_good Tryz.func3 (by decide) rfl (Nat.le_of_ble_eq_true rfl) (Nat.le_of_ble_eq_true rfl) ?_
  refine good_seq fun K1 hK1 => ?_
  refine good_region rfl ?_
  refine ev_k rfl (k_box (by conv => lhs; whnf) rfl rfl rfl ?_)
  refine ev_q rfl (q_assign (by conv => lhs; whnf) ?_)
  refine ev_nil (hK1 _ ?_); clear hK1
  refine good_seq fun K2 hK2 => ?_
  refine good_seq fun K3 hK3 => ?_
  refine good_region rfl ?_
  refine ev_q rfl (q_move (by conv => lhs; whnf) ?_)
  refine ev_q rfl (q_len tEs22 rfl ?_)
  intro n4 hn4
  try simp only [List.length_map] at hn4
  refine ev_q rfl (q_int rfl rfl ?_)
  intro b5 hb5; cases b5
  · replace hb5 := dF hb5
    refine ev_nil (hK3 _ ?_); clear hK3
    refine good_condF rfl ?_
    refine good_skip (hK2 _ ?_); clear hK2
    refine good_seq fun K6 hK6 => ?_
    refine good_seq fun K7 hK7 => ?_
    refine good_region rfl ?_
    refine ev_q rfl (q_move (by conv => lhs; whnf) ?_)
    refine ev_q rfl (q_len tEs22 rfl ?_)
    intro n8 hn8
    try simp only [List.length_map] at hn8
    refine ev_q rfl (q_int rfl rfl ?_)
    intro b9 hb9; cases b9
    · replace hb9 := dF hb9
      refine ev_nil (hK7 _ ?_); clear hK7
      refine good_condF rfl ?_
      refine good_skip (hK6 _ ?_); clear hK6
      refine good_seq fun K10 hK10 => ?_
      refine good_region rfl ?_
      refine ev_q rfl (q_assign (by conv => lhs; whnf) ?_)
      refine ev_nil (hK10 _ ?_); clear hK10
      refine good_seq fun K11 hK11 => ?_
      refine good_region rfl ?_
      refine ev_q rfl (q_loadA tA25 rfl rfl rfl ?_)
      refine ev_q rfl (q_move (by conv => lhs; whnf) ?_)
      refine ev_q rfl (q_callI rfl rfl (rfl) (D_laws_szNetwork ns ps _ hn hp hz (by omega)) ?_)
      intro n12 hn12
      refine ev_q rfl (q_assign (by conv => lhs; whnf) ?_)
      refine ev_nil (hK11 _ ?_); clear hK11
      refine good_seq fun K13 hK13 => ?_
      refine good_seq fun K14 hK14 => ?_
      refine good_region rfl ?_
      refine ev_q rfl (q_move (by conv => lhs; whnf) ?_)
      refine ev_q rfl (q_int rfl rfl ?_)
      intro b15 hb15; cases b15
      · replace hb15 := dF hb15
        refine ev_nil (hK14 _ ?_); clear hK14
        refine good_condF rfl ?_
        refine good_skip (hK13 _ ?_); clear hK13
        refine good_seq fun K16 hK16 => ?_
        refine good_region rfl ?_
        refine ev_q rfl (q_loadA tA25 rfl rfl rfl ?_)
        refine ev_q rfl (q_call rfl rfl (rfl) (D_laws_toNetwork ns ps hn hp) rfl ?_)
        refine ev_q rfl (q_move (by conv => lhs; whnf) ?_)
        refine ev_q rfl (q_move (by conv => lhs; whnf) ?_)
        refine ev_q rfl (q_call rfl rfl (rfl) (by first | exact (D_laws_toInt64S fl hf) | exact (D_laws_toInt64S ds hd)) rfl ?_)
        refine ev_q rfl (q_move (by conv => lhs; whnf) ?_)
        refine ev_q rfl (q_call rfl rfl (rfl) (by first | exact (D_laws_toInt64S fl hf) | exact (D_laws_toInt64S ds hd)) rfl ?_)
        refine ev_q rfl (q_move (by conv => lhs; whnf) ?_)
        refine ev_q rfl (q_call rfl rfl (rfl) (D_spec_SourcePressure ns ps s fl ds mg hn hp hz hf hd) rfl ?_)
        refine ev_q rfl (q_move (by conv => lhs; whnf) ?_)
        refine ev_q rfl (q_extractI rfl rfl ?_)
        intro n17 hn17
        refine ev_q rfl (q_extractI rfl rfl ?_)
        intro n18 hn18
        refine ev_q rfl (q_assign (by conv => lhs; whnf) ?_)
        refine ev_q rfl (q_assign (by conv => lhs; whnf) ?_)
        refine ev_nil (hK16 _ ?_); clear hK16
        refine good_seq fun K19 hK19 => ?_
        refine good_region rfl ?_
        refine ev_q rfl (q_loadA tA25 rfl rfl rfl ?_)
        refine ev_q rfl (q_call rfl rfl (rfl) (D_laws_toNetwork ns ps hn hp) rfl ?_)
        refine ev_k rfl (k_alloc zA31 rfl ?_)
        refine ev_k rfl (k_store sz31 rfl (by conv => lhs; whnf) rfl rfl rfl (Nat.le_of_ble_eq_true rfl) rfl ?_)
        refine ev_nil (hK19 _ ?_); clear hK19
        refine good_seq fun K20 hK20 => ?_
        refine good_region rfl ?_
        refine ev_q rfl (q_move (by conv => lhs; whnf) ?_)
        refine ev_q rfl (q_call rfl rfl (rfl) (by first | exact (D_laws_toInt64S fl hf) | exact (D_laws_toInt64S ds hd)) rfl ?_)
        refine ev_q rfl (q_assign (by conv => lhs; whnf) ?_)
        refine ev_nil (hK20 _ ?_); clear hK20
        refine good_seq fun K21 hK21 => ?_
        refine good_region rfl ?_
        refine ev_q rfl (q_move (by conv => lhs; whnf) ?_)
        refine ev_q rfl (q_call rfl rfl (rfl) (by first | exact (D_laws_toInt64S fl hf) | exact (D_laws_toInt64S ds hd)) rfl ?_)
        refine ev_q rfl (q_assign (by conv => lhs; whnf) ?_)
        refine ev_nil (hK21 _ ?_); clear hK21
        refine good_seq fun K22 hK22 => ?_
        refine good_region rfl ?_
        refine ev_q rfl (q_loadA tA31 rfl rfl rfl ?_)
        refine ev_q rfl (q_move (by conv => lhs; whnf) ?_)
        refine ev_q rfl (q_move (by conv => lhs; whnf) ?_)
        refine ev_q rfl (q_move (by conv => lhs; whnf) ?_)
        refine ev_q rfl (q_move (by conv => lhs; whnf) ?_)
        refine ev_q rfl (q_call rfl rfl (rfl) (D_impl_SourcePressure ns ps s fl ds mg hn hp hz hf hd) rfl ?_)
        refine ev_q rfl (q_move (by conv => lhs; whnf) ?_)
        refine ev_q rfl (q_extractI rfl rfl ?_)
        intro n23 hn23
        refine ev_q rfl (q_extractI rfl rfl ?_)
        intro n24 hn24
        refine ev_q rfl (q_assign (by conv => lhs; whnf) ?_)
        refine ev_q rfl (q_assign (by conv => lhs; whnf) ?_)
        refine ev_nil (hK22 _ ?_); clear hK22
        refine good_seq fun K25 hK25 => ?_
        refine good_seq fun K26 hK26 => ?_
        refine good_region rfl ?_
        refine ev_q rfl (q_move (by conv => lhs; whnf) ?_)
        refine ev_q rfl (q_move (by conv => lhs; whnf) ?_)
        refine ev_q rfl (q_int rfl rfl ?_)
        intro b27 hb27; cases b27
        · replace hb27 := neF hb27
          refine ev_q rfl (q_move (by conv => lhs; whnf) ?_)
          refine ev_q rfl (q_move (by conv => lhs; whnf) ?_)
          refine ev_q rfl (q_move (by conv => lhs; whnf) ?_)
          refine ev_q rfl (q_int rfl rfl ?_)
          intro b28 hb28; cases b28
          · replace hb28 := neF hb28
            refine ev_q rfl (q_pickF rfl (by conv => lhs; whnf) ?_)
            refine ev_nil (hK26 _ ?_); clear hK26
            refine good_condF rfl ?_
            refine good_skip (hK25 _ ?_); clear hK25
            refine good_seq fun K29 hK29 => ?_
            refine good_seq fun K30 hK30 => ?_
            refine good_draw 5 hmix (by kernel_rfl) rfl ?_
            refine qo_q rfl (q_loadA tA31 rfl rfl rfl ?_)
            refine qo_q rfl (q_loadA tA25 rfl rfl rfl ?_)
            refine qo_q rfl (q_call rfl rfl (rfl) (D_laws_toNetwork ns ps hn hp) rfl ?_)
            refine qo_q rfl (q_callB rfl rfl (rfl) (D_laws_eqNetwork ns ps hn hp) ?_)
            intro b31 hb31; cases b31
            · first | replace hb31 := dF hb31 | skip
              refine qo_q rfl (q_not rfl rfl ?_)
              refine qo_nil ?_
              refine ev_nil (hK30 _ ?_); clear hK30
              refine good_condT rfl ?_
              refine good_seq fun K32 hK32 => ?_
              refine good_region rfl ?_
              refine ev_q rfl (q_assign (by conv => lhs; whnf) ?_)
              refine ev_nil (hK32 _ ?_); clear hK32
              refine good_ret ?_
              repeat (first | refine thenQ_ret ?_ | refine blockQ_ret ?_)
              refine ret_tmp (st := _) rfl (by conv => lhs; whnf) rfl ?_
              clear hK29
              first | rfl | (exfalso; first | omega | contradiction | grind)
            · first | replace hb31 := dT hb31 | skip
              refine qo_q rfl (q_not rfl rfl ?_)
              refine qo_nil ?_
              refine ev_nil (hK30 _ ?_); clear hK30
              refine good_condF rfl ?_
              refine good_skip (hK29 _ ?_); clear hK29
              refine good_seq fun K33 hK33 => ?_
              refine good_seq fun K34 hK34 => ?_
              refine good_region rfl ?_
              refine ev_q rfl (q_move (by conv => lhs; whnf) ?_)
              refine ev_q rfl (q_move (by conv => lhs; whnf) ?_)
              refine ev_q rfl (q_call rfl rfl (rfl) (by first | exact (D_laws_toInt64S fl hf) | exact (D_laws_toInt64S ds hd)) rfl ?_)
              refine ev_q rfl (q_callB rfl rfl (rfl) (by first | exact (D_laws_eqInt64S fl hf) | exact (D_laws_eqInt64S ds hd)) ?_)
              intro b35 hb35; cases b35
              · first | replace hb35 := dF hb35 | skip
                refine ev_q rfl (q_not rfl rfl ?_)
                refine ev_nil (hK34 _ ?_); clear hK34
                refine good_condT rfl ?_
                refine good_seq fun K36 hK36 => ?_
                refine good_region rfl ?_
                refine ev_q rfl (q_assign (by conv => lhs; whnf) ?_)
                refine ev_nil (hK36 _ ?_); clear hK36
                refine good_ret ?_
                repeat (first | refine thenQ_ret ?_ | refine blockQ_ret ?_)
                refine ret_tmp (st := _) rfl (by conv => lhs; whnf) rfl ?_
                clear hK33
                first | rfl | (exfalso; first | omega | contradiction | grind)
              · first | replace hb35 := dT hb35 | skip
                refine ev_q rfl (q_not rfl rfl ?_)
                refine ev_nil (hK34 _ ?_); clear hK34
                refine good_condF rfl ?_
                refine good_skip (hK33 _ ?_); clear hK33
                refine good_seq fun K37 hK37 => ?_
                refine good_seq fun K38 hK38 => ?_
                refine good_region rfl ?_
                refine ev_q rfl (q_move (by conv => lhs; whnf) ?_)
                refine ev_q rfl (q_move (by conv => lhs; whnf) ?_)
                refine ev_q rfl (q_call rfl rfl (rfl) (by first | exact (D_laws_toInt64S fl hf) | exact (D_laws_toInt64S ds hd)) rfl ?_)
                refine ev_q rfl (q_callB rfl rfl (rfl) (by first | exact (D_laws_eqInt64S fl hf) | exact (D_laws_eqInt64S ds hd)) ?_)
                intro b39 hb39; cases b39
                · first | replace hb39 := dF hb39 | skip
                  refine ev_q rfl (q_not rfl rfl ?_)
                  refine ev_nil (hK38 _ ?_); clear hK38
                  refine good_condT rfl ?_
                  refine good_seq fun K40 hK40 => ?_
                  refine good_region rfl ?_
                  refine ev_q rfl (q_assign (by conv => lhs; whnf) ?_)
                  refine ev_nil (hK40 _ ?_); clear hK40
                  refine good_ret ?_
                  repeat (first | refine thenQ_ret ?_ | refine blockQ_ret ?_)
                  refine ret_tmp (st := _) rfl (by conv => lhs; whnf) rfl ?_
                  clear hK37
                  first | rfl | (exfalso; first | omega | contradiction | grind)
                · first | replace hb39 := dT hb39 | skip
                  refine ev_q rfl (q_not rfl rfl ?_)
                  refine ev_nil (hK38 _ ?_); clear hK38
                  refine good_condF rfl ?_
                  refine good_skip (hK37 _ ?_); clear hK37
                  refine good_seq fun K41 hK41 => ?_
                  refine good_region rfl ?_
                  refine ev_q rfl (q_assign (by conv => lhs; whnf) ?_)
                  refine ev_nil (hK41 _ ?_); clear hK41
                  refine good_ret ?_
                  repeat (first | refine thenQ_ret ?_ | refine blockQ_ret ?_)
                  refine ret_tmp (st := _) rfl (by conv => lhs; whnf) rfl ?_
                  first | rfl | (exfalso; first | omega | contradiction | grind)
          · replace hb28 := neT hb28
            refine ev_q rfl (q_pickF rfl (by conv => lhs; whnf) ?_)
            refine ev_nil (hK26 _ ?_); clear hK26
            refine good_condT rfl ?_
            refine good_seq fun K42 hK42 => ?_
            refine good_region rfl ?_
            refine ev_q rfl (q_assign (by conv => lhs; whnf) ?_)
            refine ev_nil (hK42 _ ?_); clear hK42
            refine good_ret ?_
            repeat (first | refine thenQ_ret ?_ | refine blockQ_ret ?_)
            refine ret_tmp (st := _) rfl (by conv => lhs; whnf) rfl ?_
            clear hK25
            first | rfl | (exfalso; first | omega | contradiction | grind)
        · replace hb27 := neT hb27
          refine ev_q rfl (q_move (by conv => lhs; whnf) ?_)
          refine ev_skip rfl ?_
          refine ev_skip rfl ?_
          refine ev_skip rfl ?_
          refine ev_q rfl (q_pickT rfl (by conv => lhs; whnf) ?_)
          refine ev_nil (hK26 _ ?_); clear hK26
          refine good_condT rfl ?_
          refine good_seq fun K43 hK43 => ?_
          refine good_region rfl ?_
          refine ev_q rfl (q_assign (by conv => lhs; whnf) ?_)
          refine ev_nil (hK43 _ ?_); clear hK43
          refine good_ret ?_
          repeat (first | refine thenQ_ret ?_ | refine blockQ_ret ?_)
          refine ret_tmp (st := _) rfl (by conv => lhs; whnf) rfl ?_
          clear hK25
          first | rfl | (exfalso; first | omega | contradiction | grind)
      · replace hb15 := dT hb15
        refine ev_nil (hK14 _ ?_); clear hK14
        refine good_condT rfl ?_
        refine good_seq fun K44 hK44 => ?_
        refine good_region rfl ?_
        refine ev_q rfl (q_assign (by conv => lhs; whnf) ?_)
        refine ev_nil (hK44 _ ?_); clear hK44
        refine good_ret ?_
        repeat (first | refine thenQ_ret ?_ | refine blockQ_ret ?_)
        refine ret_tmp (st := _) rfl (by conv => lhs; whnf) rfl ?_
        clear hK13
        first | rfl | (exfalso; first | omega | contradiction | grind)
    · replace hb9 := dT hb9
      refine ev_nil (hK7 _ ?_); clear hK7
      refine good_condT rfl ?_
      refine good_seq fun K45 hK45 => ?_
      refine good_region rfl ?_
      refine ev_q rfl (q_assign (by conv => lhs; whnf) ?_)
      refine ev_nil (hK45 _ ?_); clear hK45
      refine good_ret ?_
      repeat (first | refine thenQ_ret ?_ | refine blockQ_ret ?_)
      refine ret_tmp (st := _) rfl (by conv => lhs; whnf) rfl ?_
      clear hK6
      first | rfl | (exfalso; first | omega | contradiction | grind)
  · replace hb5 := dT hb5
    refine ev_nil (hK3 _ ?_); clear hK3
    refine good_condT rfl ?_
    refine good_seq fun K46 hK46 => ?_
    refine good_region rfl ?_
    refine ev_q rfl (q_assign (by conv => lhs; whnf) ?_)
    refine ev_nil (hK46 _ ?_); clear hK46
    refine good_ret ?_
    repeat (first | refine thenQ_ret ?_ | refine blockQ_ret ?_)
    refine ret_tmp (st := _) rfl (by conv => lhs; whnf) rfl ?_
    clear hK2
    first | rfl | (exfalso; first | omega | contradiction | grind)

end Go.Proofs.YtkgnbjgnddfojaaGreat.DFnExactSourcePressure
