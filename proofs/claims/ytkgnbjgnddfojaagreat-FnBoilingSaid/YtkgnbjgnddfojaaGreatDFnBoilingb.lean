/- Walks through the functions that FnBoiling reaches: what each answers. -/
import Derived.Test.YtkgnbjgnddfojaaGreatDFnBoilinga
set_option linter.unusedVariables false
set_option linter.unusedSimpArgs false
set_option maxRecDepth 20000
set_option maxHeartbeats 2000000
namespace Go.Proofs.YtkgnbjgnddfojaaGreat.DFnBoiling
open Go Go.RowKit Go.Proofs Go.Proofs.YtkgnbjgnddfojaaGreat Go.Proofs.YtkgnbjgnddfojaaGreat.Ev
-- (impl.Network).hasNode
theorem D_impl_Network_hasNode (ns : List Int) (ps : List Pi) (k : Int) (hn : ns.length ≤ 17592186044416) : Den Tryz.prog 39 [.agg [.lst 1 (ns.map ci), .lst 6 (ps.map piA)], .s (.int .i64 k)] (.s (.bool (decide (0 ≤ k ∧ k < ns.length)))) := by
  refine den_of_good Tryz.func39 (by decide) rfl (Nat.le_of_ble_eq_true rfl) (Nat.le_of_ble_eq_true rfl) ?_
  refine good_seq fun K1 hK1 => ?_
  refine gr rfl ?_
  refine ev_k rfl (k_box (by conv=>lhs;whnf) rfl rfl rfl ?_)
  refine ea rfl (by conv=>lhs;whnf) ?_
  refine ev_nil (hK1 _ ?_); clear hK1
  refine good_seq fun K2 hK2 => ?_
  refine gr rfl ?_
  refine em rfl (by conv=>lhs;whnf) ?_
  refine ev_q rfl (q_fieldAddrP fO31_0 rfl rfl ?_)
  refine ev_q rfl (q_load tA22 rfl ?_)
  refine ev_q rfl (q_len tEs22 rfl ?_)
  intro n3 hn3
  try simp only [List.length_map] at hn3
  refine ei rfl rfl rfl ?_
  intro n4 hn4
  replace hn4 := in64 hn4 (by omega) (by omega)
  refine ev_q rfl (q_callB rfl rfl (rfl) (D_impl_within ..) ?_)
  intro b5 hb5; cases b5
  · first | replace hb5 := dF hb5 | skip
    refine ea rfl (by conv=>lhs;whnf) ?_
    refine ev_nil (hK2 _ ?_); clear hK2
    refine good_ret ?_
    repeat first|refine thenQ_ret ?_|refine blockQ_ret ?_
    refine ret_tmp (st := _) rfl (by conv=>lhs;whnf) rfl ?_
    first | exact fT (by omega) | exact fF (by omega)
  · first | replace hb5 := dT hb5 | skip
    refine ea rfl (by conv=>lhs;whnf) ?_
    refine ev_nil (hK2 _ ?_); clear hK2
    refine good_ret ?_
    repeat first|refine thenQ_ret ?_|refine blockQ_ret ?_
    refine ret_tmp (st := _) rfl (by conv=>lhs;whnf) rfl ?_
    first | exact fT (by omega) | exact fF (by omega)

-- (impl.Network).hasEnds
theorem D_impl_Network_hasEnds (ns : List Int) (ps : List Pi) (s : ByteArray) (fm tt le di lo : Int) (hn : ns.length ≤ 17592186044416) : Den Tryz.prog 79 [.agg [.lst 1 (ns.map ci), .lst 6 (ps.map piA)], .agg [.s (.string s), .s (.int .i64 fm), .s (.int .i64 tt), .s (.int .i64 le), .s (.int .i64 di), .s (.int .i64 lo)]] (.s (.bool (decide ((0 ≤ fm ∧ fm < ns.length) ∧ (0 ≤ tt ∧ tt < ns.length))))) := by
  refine den_of_good Tryz.func79 (by decide) rfl (Nat.le_of_ble_eq_true rfl) (Nat.le_of_ble_eq_true rfl) ?_
  refine good_seq fun K1 hK1 => ?_
  refine gr rfl ?_
  refine ev_k rfl (k_box (by conv=>lhs;whnf) rfl rfl rfl ?_)
  refine ev_k rfl (k_box (by conv=>lhs;whnf) rfl rfl rfl ?_)
  refine ea rfl (by conv=>lhs;whnf) ?_
  refine ev_nil (hK1 _ ?_); clear hK1
  refine good_seq fun K2 hK2 => ?_
  refine gr rfl ?_
  refine ev_q rfl (q_loadA tA31 rfl rfl rfl ?_)
  refine ev_q rfl (q_fieldAddrP fO95_1 rfl rfl ?_)
  refine ev_q rfl (q_load tA2 rfl ?_)
  refine ev_q rfl (q_callB rfl rfl (rfl) (D_impl_Network_hasNode _ _ _ hn) ?_)
  intro b3 hb3; cases b3
  · first | replace hb3 := dF hb3 | skip
    refine em rfl (by conv=>lhs;whnf) ?_
    refine ev_skip rfl ?_
    refine ev_skip rfl ?_
    refine ev_skip rfl ?_
    refine ev_skip rfl ?_
    refine ev_q rfl (q_pickF rfl (by conv=>lhs;whnf) ?_)
    refine ea rfl (by conv=>lhs;whnf) ?_
    refine ev_nil (hK2 _ ?_); clear hK2
    refine good_ret ?_
    repeat first|refine thenQ_ret ?_|refine blockQ_ret ?_
    refine ret_tmp (st := _) rfl (by conv=>lhs;whnf) rfl ?_
    first | rfl | exact fT (by first | omega | grind) | exact fF (by first | omega | grind) | exact fT' (by first | omega | grind) | (exfalso; first | omega | grind)
  · first | replace hb3 := dT hb3 | skip
    refine em rfl (by conv=>lhs;whnf) ?_
    refine ev_q rfl (q_loadA tA31 rfl rfl rfl ?_)
    refine ev_q rfl (q_fieldAddrP fO95_2 rfl rfl ?_)
    refine ev_q rfl (q_load tA2 rfl ?_)
    refine ev_q rfl (q_callB rfl rfl (rfl) (D_impl_Network_hasNode _ _ _ hn) ?_)
    intro b4 hb4; cases b4
    · first | replace hb4 := dF hb4 | skip
      refine ev_q rfl (q_pickT rfl (by conv=>lhs;whnf) ?_)
      refine ea rfl (by conv=>lhs;whnf) ?_
      refine ev_nil (hK2 _ ?_); clear hK2
      refine good_ret ?_
      repeat first|refine thenQ_ret ?_|refine blockQ_ret ?_
      refine ret_tmp (st := _) rfl (by conv=>lhs;whnf) rfl ?_
      first | rfl | exact fT (by first | omega | grind) | exact fF (by first | omega | grind) | exact fT' (by first | omega | grind) | (exfalso; first | omega | grind)
    · first | replace hb4 := dT hb4 | skip
      refine ev_q rfl (q_pickT rfl (by conv=>lhs;whnf) ?_)
      refine ea rfl (by conv=>lhs;whnf) ?_
      refine ev_nil (hK2 _ ?_); clear hK2
      refine good_ret ?_
      repeat first|refine thenQ_ret ?_|refine blockQ_ret ?_
      refine ret_tmp (st := _) rfl (by conv=>lhs;whnf) rfl ?_
      first | rfl | exact fT (by first | omega | grind) | exact fF (by first | omega | grind) | exact fT' (by first | omega | grind) | (exfalso; first | omega | grind)

-- spec.l04Node
theorem D_spec_l04Node (ns : List Int) (ps : List Pi) (k : Int) (hn : ns.length ≤ 17592186044416) : Den Tryz.prog 66 [.rp [.lst 1 (ns.map ci), .lst 6 (ps.map piA)], .s (.int .i64 k)] (.s (.bool (decide (0 ≤ k ∧ k < ns.length)))) := by
  refine den_of_good Tryz.func66 (by decide) rfl (Nat.le_of_ble_eq_true rfl) (Nat.le_of_ble_eq_true rfl) ?_
  refine good_seq fun K1 hK1 => ?_
  refine gr rfl ?_
  refine ea rfl (by conv=>lhs;whnf) ?_
  refine ev_nil (hK1 _ ?_); clear hK1
  refine good_seq fun K2 hK2 => ?_
  refine gr rfl ?_
  refine em rfl (by conv=>lhs;whnf) ?_
  refine em rfl (by conv=>lhs;whnf) ?_
  refine ev_q rfl (q_nilCheck (by conv=>lhs;whnf) rfl ?_)
  refine ev_q rfl (q_fieldAddr fO31_0 rfl rfl ?_)
  refine ev_q rfl (q_load tA22 rfl ?_)
  refine ev_q rfl (q_len tEs22 rfl ?_)
  intro n3 hn3
  try simp only [List.length_map] at hn3
  refine ei rfl rfl rfl ?_
  intro n4 hn4
  replace hn4 := in64 hn4 (by omega) (by omega)
  refine ev_q rfl (q_callB rfl rfl (rfl) (D_spec_l00In ..) ?_)
  intro b5 hb5; cases b5
  · first | replace hb5 := dF hb5 | skip
    refine ea rfl (by conv=>lhs;whnf) ?_
    refine ev_nil (hK2 _ ?_); clear hK2
    refine good_ret ?_
    repeat first|refine thenQ_ret ?_|refine blockQ_ret ?_
    refine ret_tmp (st := _) rfl (by conv=>lhs;whnf) rfl ?_
    first | exact fT (by omega) | exact fF (by omega)
  · first | replace hb5 := dT hb5 | skip
    refine ea rfl (by conv=>lhs;whnf) ?_
    refine ev_nil (hK2 _ ?_); clear hK2
    refine good_ret ?_
    repeat first|refine thenQ_ret ?_|refine blockQ_ret ?_
    refine ret_tmp (st := _) rfl (by conv=>lhs;whnf) rfl ?_
    first | exact fT (by omega) | exact fF (by omega)

-- spec.l04Fits
theorem D_spec_l04Fits (ns : List Int) (ps : List Pi) (s : ByteArray) (fm tt le di lo : Int) (hn : ns.length ≤ 17592186044416) (hs : s.size ≤ 140737488351232) : Den Tryz.prog 101 [.rp [.lst 1 (ns.map ci), .lst 6 (ps.map piA)], .rp [.s (.string s), .s (.int .i64 fm), .s (.int .i64 tt), .s (.int .i64 le), .s (.int .i64 di), .s (.int .i64 lo)]] (.s (.bool (decide ((isName s = true ∧ (0 ≤ fm ∧ fm ≤ 15) ∧ (0 ≤ tt ∧ tt ≤ 15) ∧ ¬ fm = tt ∧ (1 ≤ le ∧ le ≤ 10000) ∧ (20 ≤ di ∧ di ≤ 1000) ∧ (0 ≤ lo ∧ lo ≤ 5000)) ∧ fm < ns.length ∧ tt < ns.length)))) := by
  refine den_of_good Tryz.func101 (by decide) rfl (Nat.le_of_ble_eq_true rfl) (Nat.le_of_ble_eq_true rfl) ?_
  refine good_seq fun K1 hK1 => ?_
  refine gr rfl ?_
  refine ea rfl (by conv=>lhs;whnf) ?_
  refine ev_nil (hK1 _ ?_); clear hK1
  refine good_seq fun K2 hK2 => ?_
  refine good_draw 27 hmix (by kernel_rfl) rfl ?_
  refine qm rfl (by conv=>lhs;whnf) ?_
  refine qo_q rfl (q_callB rfl rfl (rfl) (D_spec_l03Ok _ _ _ _ _ _ hs) ?_)
  intro b3 hb3; cases b3
  · first | replace hb3 := dF hb3 | skip
    refine qm rfl (by conv=>lhs;whnf) ?_
    refine qo_skip rfl ?_
    refine qo_skip rfl ?_
    refine qo_skip rfl ?_
    refine qo_skip rfl ?_
    refine qo_skip rfl ?_
    refine qo_skip rfl ?_
    refine qo_skip rfl ?_
    refine qo_skip rfl ?_
    refine qo_skip rfl ?_
    refine qo_skip rfl ?_
    refine qo_q rfl (q_pickF rfl (by conv=>lhs;whnf) ?_)
    refine qm rfl (by conv=>lhs;whnf) ?_
    refine qo_skip rfl ?_
    refine qo_skip rfl ?_
    refine qo_skip rfl ?_
    refine qo_skip rfl ?_
    refine qo_skip rfl ?_
    refine qo_skip rfl ?_
    refine qo_skip rfl ?_
    refine qo_skip rfl ?_
    refine qo_skip rfl ?_
    refine qo_skip rfl ?_
    refine qo_q rfl (q_pickF rfl (by conv=>lhs;whnf) ?_)
    refine qa rfl (by conv=>lhs;whnf) ?_
    refine qo_nil ?_
    refine ev_nil (hK2 _ ?_); clear hK2
    refine good_ret ?_
    repeat first|refine thenQ_ret ?_|refine blockQ_ret ?_
    refine ret_tmp (st := _) rfl (by conv=>lhs;whnf) rfl ?_
    first | exact fT ⟨by assumption, by omega, by omega⟩ | exact fF (fun h => by first | (have := h.2.1; omega) | (have := h.2.2; omega) | exact absurd h.1 (by assumption))
  · first | replace hb3 := dT hb3 | skip
    refine qm rfl (by conv=>lhs;whnf) ?_
    refine qm rfl (by conv=>lhs;whnf) ?_
    refine qo_q rfl (q_nilCheck (by conv=>lhs;whnf) rfl ?_)
    refine qo_q rfl (q_fieldAddr fO95_1 rfl rfl ?_)
    refine qo_q rfl (q_load tA2 rfl ?_)
    refine qm rfl (by conv=>lhs;whnf) ?_
    refine qo_q rfl (q_nilCheck (by conv=>lhs;whnf) rfl ?_)
    refine qo_q rfl (q_fieldAddr fO31_0 rfl rfl ?_)
    refine qo_q rfl (q_load tA22 rfl ?_)
    refine qo_q rfl (q_len tEs22 rfl ?_)
    intro n4 hn4
    try simp only [List.length_map] at hn4
    refine qo_q rfl (q_int rfl rfl ?_)
    intro b5 hb5; cases b5
    · replace hb5 := dF hb5
      refine qo_q rfl (q_pickT rfl (by conv=>lhs;whnf) ?_)
      refine qm rfl (by conv=>lhs;whnf) ?_
      refine qo_skip rfl ?_
      refine qo_skip rfl ?_
      refine qo_skip rfl ?_
      refine qo_skip rfl ?_
      refine qo_skip rfl ?_
      refine qo_skip rfl ?_
      refine qo_skip rfl ?_
      refine qo_skip rfl ?_
      refine qo_skip rfl ?_
      refine qo_skip rfl ?_
      refine qo_q rfl (q_pickF rfl (by conv=>lhs;whnf) ?_)
      refine qa rfl (by conv=>lhs;whnf) ?_
      refine qo_nil ?_
      refine ev_nil (hK2 _ ?_); clear hK2
      refine good_ret ?_
      repeat first|refine thenQ_ret ?_|refine blockQ_ret ?_
      refine ret_tmp (st := _) rfl (by conv=>lhs;whnf) rfl ?_
      first | exact fT ⟨by assumption, by omega, by omega⟩ | exact fF (fun h => by first | (have := h.2.1; omega) | (have := h.2.2; omega) | exact absurd h.1 (by assumption))
    · replace hb5 := dT hb5
      refine qo_q rfl (q_pickT rfl (by conv=>lhs;whnf) ?_)
      refine qm rfl (by conv=>lhs;whnf) ?_
      refine qm rfl (by conv=>lhs;whnf) ?_
      refine qo_q rfl (q_nilCheck (by conv=>lhs;whnf) rfl ?_)
      refine qo_q rfl (q_fieldAddr fO95_2 rfl rfl ?_)
      refine qo_q rfl (q_load tA2 rfl ?_)
      refine qm rfl (by conv=>lhs;whnf) ?_
      refine qo_q rfl (q_nilCheck (by conv=>lhs;whnf) rfl ?_)
      refine qo_q rfl (q_fieldAddr fO31_0 rfl rfl ?_)
      refine qo_q rfl (q_load tA22 rfl ?_)
      refine qo_q rfl (q_len tEs22 rfl ?_)
      intro n6 hn6
      try simp only [List.length_map] at hn6
      refine qo_q rfl (q_int rfl rfl ?_)
      intro b7 hb7; cases b7
      · replace hb7 := dF hb7
        refine qo_q rfl (q_pickT rfl (by conv=>lhs;whnf) ?_)
        refine qa rfl (by conv=>lhs;whnf) ?_
        refine qo_nil ?_
        refine ev_nil (hK2 _ ?_); clear hK2
        refine good_ret ?_
        repeat first|refine thenQ_ret ?_|refine blockQ_ret ?_
        refine ret_tmp (st := _) rfl (by conv=>lhs;whnf) rfl ?_
        first | exact fT ⟨by assumption, by omega, by omega⟩ | exact fF (fun h => by first | (have := h.2.1; omega) | (have := h.2.2; omega) | exact absurd h.1 (by assumption))
      · replace hb7 := dT hb7
        refine qo_q rfl (q_pickT rfl (by conv=>lhs;whnf) ?_)
        refine qa rfl (by conv=>lhs;whnf) ?_
        refine qo_nil ?_
        refine ev_nil (hK2 _ ?_); clear hK2
        refine good_ret ?_
        repeat first|refine thenQ_ret ?_|refine blockQ_ret ?_
        refine ret_tmp (st := _) rfl (by conv=>lhs;whnf) rfl ?_
        first | exact fT ⟨by assumption, by omega, by omega⟩ | exact fF (fun h => by first | (have := h.2.1; omega) | (have := h.2.2; omega) | exact absurd h.1 (by assumption))

-- impl.ValidNetwork
theorem D_impl_ValidNetwork (ns : List Int) (ps : List Pi) (hn : ns.length ≤ 17592186044416) (hp : ps.length ≤ 2513169434843) (hz : idSz ps) : Den Tryz.prog 38 [.agg [.lst 1 (ns.map ci), .lst 6 (ps.map piA)]] (.s (.bool (decide (netOk ns ps)))) := by
  refine den_of_good Tryz.func38 (by decide) rfl (Nat.le_of_ble_eq_true rfl) (Nat.le_of_ble_eq_true rfl) ?_
  refine good_seq fun K1 hK1 => ?_
  refine gr rfl ?_
  refine ev_k rfl (k_box (by conv=>lhs;whnf) rfl rfl rfl ?_)
  refine ea rfl (by conv=>lhs;whnf) ?_
  refine ev_nil (hK1 _ ?_); clear hK1
  refine good_seq fun K2 hK2 => ?_
  refine good_seq fun K3 hK3 => ?_
  refine gr rfl ?_
  refine ev_q rfl (q_fieldAddrP fO31_0 rfl rfl ?_)
  refine ev_q rfl (q_load tA22 rfl ?_)
  refine ev_q rfl (q_len tEs22 rfl ?_)
  intro n4 hn4
  try simp only [List.length_map] at hn4
  refine ei rfl rfl rfl ?_
  intro b5 hb5; cases b5
  · replace hb5 := dF hb5
    refine em rfl (by conv=>lhs;whnf) ?_
    refine ev_q rfl (q_fieldAddrP fO31_0 rfl rfl ?_)
    refine ev_q rfl (q_load tA22 rfl ?_)
    refine ev_q rfl (q_len tEs22 rfl ?_)
    intro n6 hn6
    try simp only [List.length_map] at hn6
    refine ei rfl rfl rfl ?_
    intro b7 hb7; cases b7
    · replace hb7 := dF hb7
      refine ev_q rfl (q_pickF rfl (by conv=>lhs;whnf) ?_)
      refine em rfl (by conv=>lhs;whnf) ?_
      refine ev_q rfl (q_fieldAddrP fO31_0 rfl rfl ?_)
      refine ev_q rfl (q_load tA22 rfl ?_)
      refine ev_q rfl (q_callB rfl rfl (rfl) (D_impl_allWithin ns _ _ hn) ?_)
      intro b8 hb8; cases b8
      · first | replace hb8 := dF hb8 | skip
        refine ev_q rfl (q_not rfl rfl ?_)
        refine ev_q rfl (q_pickF rfl (by conv=>lhs;whnf) ?_)
        refine em rfl (by conv=>lhs;whnf) ?_
        refine ev_skip rfl ?_
        refine ev_skip rfl ?_
        refine ev_skip rfl ?_
        refine ev_skip rfl ?_
        refine ev_q rfl (q_pickT rfl (by conv=>lhs;whnf) ?_)
        refine ev_nil (hK3 _ ?_); clear hK3
        refine good_condT rfl ?_
        refine good_seq fun K9 hK9 => ?_
        refine gr rfl ?_
        refine ea rfl (by conv=>lhs;whnf) ?_
        refine ev_nil (hK9 _ ?_); clear hK9
        refine good_ret ?_
        repeat first|refine thenQ_ret ?_|refine blockQ_ret ?_
        refine ret_tmp (st := _) rfl (by conv=>lhs;whnf) rfl ?_
        clear hK2
        first | exact fT ⟨⟨⟨by omega, by omega⟩, by assumption, by omega⟩, all_finS (Q := fun j p => piAt ns ps j p) hJ (by omega)⟩ | exact fF (fun h => by have h1 := h.1; first | omega | exact absurd h1.2.1 (by assumption)) | exact fF (net_no hpp (fun ⟨⟨h1, h3, h4⟩, h2⟩ => by first | contradiction | (exfalso; omega) | exact hE (h2 q (by omega) (by rw [← hq]; congr 1; omega)) | (have := h1.2.1; have := h1.2.2.1; omega)))
      · first | replace hb8 := dT hb8 | skip
        refine ev_q rfl (q_not rfl rfl ?_)
        refine ev_q rfl (q_pickF rfl (by conv=>lhs;whnf) ?_)
        refine em rfl (by conv=>lhs;whnf) ?_
        refine ev_q rfl (q_fieldAddrP fO31_1 rfl rfl ?_)
        refine ev_q rfl (q_load tA29 rfl ?_)
        refine ev_q rfl (q_len tEs29 rfl ?_)
        intro n10 hn10
        try simp only [List.length_map] at hn10
        refine ei rfl rfl rfl ?_
        intro b11 hb11; cases b11
        · replace hb11 := dF hb11
          refine ev_q rfl (q_pickF rfl (by conv=>lhs;whnf) ?_)
          refine ev_nil (hK3 _ ?_); clear hK3
          refine good_condF rfl ?_
          refine good_skip (hK2 _ ?_); clear hK2
          refine good_seq fun K12 hK12 => ?_
          refine good_seq fun K13 hK13 => ?_
          refine gr rfl ?_
          refine ev_q rfl (q_fieldAddrP fO31_1 rfl rfl ?_)
          refine ev_q rfl (q_load tA29 rfl ?_)
          refine ev_q rfl (q_len tEs29 rfl ?_)
          intro n14 hn14
          try simp only [List.length_map] at hn14
          refine em rfl (by conv=>lhs;whnf) ?_
          refine ev_nil (hK13 _ ?_); clear hK13
          refine good_block ?_
          refine good_loop (α := Nat) (fun i => { env := upd (upd (upd (upd ((fun _ => .junk)) 1 (.ptr 1 0)) 28 (.lst 6 (ps.map piA))) 29 (.s (.int .i64 ((ps.length : Int))))) 30 (.s (.int .i64 i)), H := upd ((fun _ => none)) 1 (some (.box 31 [.lst 1 (ns.map ci), .lst 6 (ps.map piA)])) }) (fun i => i ≤ ps.length ∧ ∀ j p, j < i → ps[j]? = some p → piAt ns ps j p) (fun i => ps.length - i) 0 ?_ ?_ ?_
          · exact ⟨by omega, fun j u hj => by omega⟩
          · refine sub_weak ?_ ?_
            · exact weakH_box (boxEq (rfl)) rfl (weakH_none _)
            · refine weakE_upd ?e30 ?r30 (weakE_upd ?e29 ?r29 (weakE_upd ?e28 ?r28 (weakE_upd ?e1 ?r1 (weakE_junk _ _))))
              case e1 => first | rfl | exact fI (by omega) | (simp_all)
              case r1 => intro h hh; simp [refs] at hh; subst hh; rfl
              case e28 => first | rfl | exact fI (by omega) | (simp_all)
              case r28 => intro h hh; cases hh
              case e29 => first | rfl | exact fI (by omega) | (simp_all)
              case r29 => intro h hh; cases hh
              case e30 => first | rfl | exact fI (by omega) | (simp_all)
              case r30 => intro h hh; cases hh
          · rintro i ⟨hI, hJ⟩
            refine good_seq fun K15 hK15 => ?_
            refine gr rfl ?_
            refine ei rfl rfl rfl ?_
            intro b16 hb16; cases b16
            · replace hb16 := dF hb16
              refine ev_nil (hK15 _ ?_); clear hK15
              refine good_seq fun K17 hK17 => ?_
              refine good_condF rfl ?_
              refine good_exit ?_
              repeat first|refine thenQ_exit ?_|refine blockQ_pass rfl ?_
              refine blockQ_exit (hK12 _ ?_); clear hK12
              refine good_seq fun K18 hK18 => ?_
              refine gr rfl ?_
              refine ea rfl (by conv=>lhs;whnf) ?_
              refine ev_nil (hK18 _ ?_); clear hK18
              refine good_ret ?_
              repeat first|refine thenQ_ret ?_|refine blockQ_ret ?_
              refine ret_tmp (st := _) rfl (by conv=>lhs;whnf) rfl ?_
              clear hK17
              first | exact fT ⟨⟨⟨by omega, by omega⟩, by assumption, by omega⟩, all_finS (Q := fun j p => piAt ns ps j p) hJ (by omega)⟩ | exact fF (fun h => by have h1 := h.1; first | omega | exact absurd h1.2.1 (by assumption)) | exact fF (net_no hpp (fun ⟨⟨h1, h3, h4⟩, h2⟩ => by first | contradiction | (exfalso; omega) | exact hE (h2 q (by omega) (by rw [← hq]; congr 1; omega)) | (have := h1.2.1; have := h1.2.2.1; omega)))
            · replace hb16 := dT hb16
              obtain ⟨p, hpp⟩ := getL (xs := ps) (n := (i : Int)) (by omega) (by omega)
              replace hpp : ps[i]? = some p := hpp
              have hzp := hz i p hpp
              refine ev_nil (hK15 _ ?_); clear hK15
              refine good_seq fun K19 hK19 => ?_
              refine good_condT rfl ?_
              refine good_skip (hK19 _ ?_); clear hK19
              refine good_seq fun K20 hK20 => ?_
              refine good_block ?_
              refine good_seq fun K21 hK21 => ?_
              refine gr rfl ?_
              refine em rfl (by conv=>lhs;whnf) ?_
              refine ev_q rfl (q_idx tE29 rfl rfl (by exact Int.natCast_nonneg _) (by exact map_get hpp) rfl ?_)
              refine ev_q rfl (q_loadA tA95 rfl rfl rfl ?_)
              refine ev_k rfl (k_alloc zA95 rfl ?_)
              refine ea rfl (by conv=>lhs;whnf) ?_
              refine ev_k rfl (k_store sz95 rfl (by conv=>lhs;whnf) rfl rfl rfl (Nat.le_of_ble_eq_true rfl) rfl ?_)
              refine ev_nil (hK21 _ ?_); clear hK21
              refine good_seq fun K22 hK22 => ?_
              refine good_draw 25 hmix (by kernel_rfl) rfl ?_
              refine qo_q rfl (q_loadA tA95 rfl rfl rfl ?_)
              refine qo_q rfl (q_callB rfl rfl (rfl) (D_impl_ValidPipe _ _ _ _ _ _ (by assumption)) ?_)
              intro b23 hb23; cases b23
              · first | replace hb23 := dF hb23 | skip
                refine qo_q rfl (q_not rfl rfl ?_)
                refine qm rfl (by conv=>lhs;whnf) ?_
                refine qo_skip rfl ?_
                refine qo_skip rfl ?_
                refine qo_skip rfl ?_
                refine qo_skip rfl ?_
                refine qo_q rfl (q_pickT rfl (by conv=>lhs;whnf) ?_)
                refine qm rfl (by conv=>lhs;whnf) ?_
                refine qo_skip rfl ?_
                refine qo_skip rfl ?_
                refine qo_skip rfl ?_
                refine qo_skip rfl ?_
                refine qo_skip rfl ?_
                refine qo_skip rfl ?_
                refine qo_skip rfl ?_
                refine qo_skip rfl ?_
                refine qo_skip rfl ?_
                refine qo_skip rfl ?_
                refine qo_skip rfl ?_
                refine qo_skip rfl ?_
                refine qo_skip rfl ?_
                refine qo_skip rfl ?_
                refine qo_q rfl (q_pickT rfl (by conv=>lhs;whnf) ?_)
                refine qo_nil ?_
                refine ev_nil (hK22 _ ?_); clear hK22
                refine good_condT rfl ?_
                refine good_seq fun K24 hK24 => ?_
                refine gr rfl ?_
                refine ea rfl (by conv=>lhs;whnf) ?_
                refine ev_nil (hK24 _ ?_); clear hK24
                refine good_ret ?_
                repeat first|refine thenQ_ret ?_|refine blockQ_ret ?_
                refine ret_tmp (st := _) rfl (by conv=>lhs;whnf) rfl ?_
                clear hK12 hK20
                first | exact fT ⟨⟨⟨by omega, by omega⟩, by assumption, by omega⟩, all_finS (Q := fun j p => piAt ns ps j p) hJ (by omega)⟩ | exact fF (fun h => by have h1 := h.1; first | omega | exact absurd h1.2.1 (by assumption)) | exact fF (net_no hpp (fun ⟨⟨h1, h3, h4⟩, h2⟩ => by first | contradiction | (exfalso; omega) | exact hE (h2 q (by omega) (by rw [← hq]; congr 1; omega)) | (have := h1.2.1; have := h1.2.2.1; omega)))
              · first | replace hb23 := dT hb23 | skip
                refine qo_q rfl (q_not rfl rfl ?_)
                refine qm rfl (by conv=>lhs;whnf) ?_
                refine qo_q rfl (q_loadA tA31 rfl rfl rfl ?_)
                refine qo_q rfl (q_loadA tA95 rfl rfl rfl ?_)
                refine qo_q rfl (q_callB rfl rfl (rfl) (D_impl_Network_hasEnds ns ps _ _ _ _ _ _ hn) ?_)
                intro b25 hb25; cases b25
                · first | replace hb25 := dF hb25 | skip
                  refine qo_q rfl (q_not rfl rfl ?_)
                  refine qo_q rfl (q_pickF rfl (by conv=>lhs;whnf) ?_)
                  refine qm rfl (by conv=>lhs;whnf) ?_
                  refine qo_skip rfl ?_
                  refine qo_skip rfl ?_
                  refine qo_skip rfl ?_
                  refine qo_skip rfl ?_
                  refine qo_skip rfl ?_
                  refine qo_skip rfl ?_
                  refine qo_skip rfl ?_
                  refine qo_skip rfl ?_
                  refine qo_skip rfl ?_
                  refine qo_skip rfl ?_
                  refine qo_skip rfl ?_
                  refine qo_skip rfl ?_
                  refine qo_skip rfl ?_
                  refine qo_skip rfl ?_
                  refine qo_q rfl (q_pickT rfl (by conv=>lhs;whnf) ?_)
                  refine qo_nil ?_
                  refine ev_nil (hK22 _ ?_); clear hK22
                  refine good_condT rfl ?_
                  refine good_seq fun K26 hK26 => ?_
                  refine gr rfl ?_
                  refine ea rfl (by conv=>lhs;whnf) ?_
                  refine ev_nil (hK26 _ ?_); clear hK26
                  refine good_ret ?_
                  repeat first|refine thenQ_ret ?_|refine blockQ_ret ?_
                  refine ret_tmp (st := _) rfl (by conv=>lhs;whnf) rfl ?_
                  clear hK12 hK20
                  first | exact fT ⟨⟨⟨by omega, by omega⟩, by assumption, by omega⟩, all_finS (Q := fun j p => piAt ns ps j p) hJ (by omega)⟩ | exact fF (fun h => by have h1 := h.1; first | omega | exact absurd h1.2.1 (by assumption)) | exact fF (net_no hpp (fun ⟨⟨h1, h3, h4⟩, h2⟩ => by first | contradiction | (exfalso; omega) | exact hE (h2 q (by omega) (by rw [← hq]; congr 1; omega)) | (have := h1.2.1; have := h1.2.2.1; omega)))
                · first | replace hb25 := dT hb25 | skip
                  refine qo_q rfl (q_not rfl rfl ?_)
                  refine qo_q rfl (q_pickF rfl (by conv=>lhs;whnf) ?_)
                  refine qm rfl (by conv=>lhs;whnf) ?_
                  refine qm rfl (by conv=>lhs;whnf) ?_
                  refine qo_q rfl (q_int rfl rfl ?_)
                  intro b27 hb27; cases b27
                  · replace hb27 := dF hb27
                    refine qm rfl (by conv=>lhs;whnf) ?_
                    refine qo_skip rfl ?_
                    refine qo_skip rfl ?_
                    refine qo_skip rfl ?_
                    refine qo_skip rfl ?_
                    refine qo_skip rfl ?_
                    refine qo_skip rfl ?_
                    refine qo_skip rfl ?_
                    refine qo_skip rfl ?_
                    refine qo_skip rfl ?_
                    refine qo_skip rfl ?_
                    refine qo_q rfl (q_pickF rfl (by conv=>lhs;whnf) ?_)
                    refine qo_q rfl (q_pickF rfl (by conv=>lhs;whnf) ?_)
                    refine qo_nil ?_
                    refine ev_nil (hK22 _ ?_); clear hK22
                    refine good_condF rfl ?_
                    refine good_skip (hK20 _ ?_); clear hK20
                    refine gr rfl ?_
                    refine ei rfl rfl rfl ?_
                    intro n28 hn28
                    replace hn28 := in64 hn28 (by omega) (by omega)
                    refine em rfl (by conv=>lhs;whnf) ?_
                    refine ev_nil ?_
                    clear hK12
                    refine ⟨i + 1, ?_, ?_, ?_⟩
                    · refine ⟨by omega, all_extS (Q := fun j p => piAt ns ps j p) hJ hpp ?_⟩
                      first | exact ⟨⟨by assumption, by omega, by omega⟩, fun y h0 hy => by first | omega | (have e : some y = some q := hy.symm.trans (by rw [← hq]; congr 1; omega); cases e; exact hE)⟩
                    · first | omega | (simp only []; omega) | (dsimp only; omega)
                    · refine sub_weak ?_ ?_
                      · exact weakH_box (boxEq (rfl)) rfl (weakH_none _)
                      · refine weakE_upd ?e30 ?r30 (weakE_upd ?e29 ?r29 (weakE_upd ?e28 ?r28 (weakE_upd ?e1 ?r1 (weakE_junk _ _))))
                        case e1 => first | rfl | exact fI (by omega) | (simp_all)
                        case r1 => intro h hh; simp [refs] at hh; subst hh; rfl
                        case e28 => first | rfl | exact fI (by omega) | (simp_all)
                        case r28 => intro h hh; cases hh
                        case e29 => first | rfl | exact fI (by omega) | (simp_all)
                        case r29 => intro h hh; cases hh
                        case e30 => first | rfl | exact fI (by omega) | (simp_all)
                        case r30 => intro h hh; cases hh
                  · replace hb27 := dT hb27
                    refine qm rfl (by conv=>lhs;whnf) ?_
                    refine qo_q rfl (q_fieldAddrP fO95_0 rfl rfl ?_)
                    refine qo_q rfl (q_load tA9 rfl ?_)
                    refine qo_q rfl (q_fieldAddrP fO31_1 rfl rfl ?_)
                    refine qo_q rfl (q_load tA29 rfl ?_)
                    refine qm rfl (by conv=>lhs;whnf) ?_
                    refine qo_q rfl (q_int rfl rfl ?_)
                    intro n29 hn29
                    replace hn29 := in64 hn29 (by omega) (by omega)
                    obtain ⟨q, hq⟩ := getL (xs := ps) (n := n29) (by omega) (by omega)
                    refine qo_q rfl (q_idx tE29 rfl rfl (by omega) (by exact map_get hq) rfl ?_)
                    refine qo_q rfl (q_fieldAddr fO95_0 rfl rfl ?_)
                    refine qo_q rfl (q_load tA9 rfl ?_)
                    refine qo_q rfl (q_str rfl rfl ?_)
                    intro b30 hb30; cases b30
                    · have hE := lt_le hb30
                      refine qo_q rfl (q_pickT rfl (by conv=>lhs;whnf) ?_)
                      refine qo_q rfl (q_pickF rfl (by conv=>lhs;whnf) ?_)
                      refine qo_nil ?_
                      refine ev_nil (hK22 _ ?_); clear hK22
                      refine good_condF rfl ?_
                      refine good_skip (hK20 _ ?_); clear hK20
                      refine gr rfl ?_
                      refine ei rfl rfl rfl ?_
                      intro n31 hn31
                      replace hn31 := in64 hn31 (by omega) (by omega)
                      refine em rfl (by conv=>lhs;whnf) ?_
                      refine ev_nil ?_
                      clear hK12
                      refine ⟨i + 1, ?_, ?_, ?_⟩
                      · refine ⟨by omega, all_extS (Q := fun j p => piAt ns ps j p) hJ hpp ?_⟩
                        first | exact ⟨⟨by assumption, by omega, by omega⟩, fun y h0 hy => by first | omega | (have e : some y = some q := hy.symm.trans (by rw [← hq]; congr 1; omega); cases e; exact hE)⟩
                      · first | omega | (simp only []; omega) | (dsimp only; omega)
                      · refine sub_weak ?_ ?_
                        · exact weakH_box (boxEq (rfl)) rfl (weakH_none _)
                        · refine weakE_upd ?e30 ?r30 (weakE_upd ?e29 ?r29 (weakE_upd ?e28 ?r28 (weakE_upd ?e1 ?r1 (weakE_junk _ _))))
                          case e1 => first | rfl | exact fI (by omega) | (simp_all)
                          case r1 => intro h hh; simp [refs] at hh; subst hh; rfl
                          case e28 => first | rfl | exact fI (by omega) | (simp_all)
                          case r28 => intro h hh; cases hh
                          case e29 => first | rfl | exact fI (by omega) | (simp_all)
                          case r29 => intro h hh; cases hh
                          case e30 => first | rfl | exact fI (by omega) | (simp_all)
                          case r30 => intro h hh; cases hh
                    · have hE := nlt_le hb30
                      refine qo_q rfl (q_pickT rfl (by conv=>lhs;whnf) ?_)
                      refine qo_q rfl (q_pickF rfl (by conv=>lhs;whnf) ?_)
                      refine qo_nil ?_
                      refine ev_nil (hK22 _ ?_); clear hK22
                      refine good_condT rfl ?_
                      refine good_seq fun K32 hK32 => ?_
                      refine gr rfl ?_
                      refine ea rfl (by conv=>lhs;whnf) ?_
                      refine ev_nil (hK32 _ ?_); clear hK32
                      refine good_ret ?_
                      repeat first|refine thenQ_ret ?_|refine blockQ_ret ?_
                      refine ret_tmp (st := _) rfl (by conv=>lhs;whnf) rfl ?_
                      clear hK12 hK20
                      first | exact fT ⟨⟨⟨by omega, by omega⟩, by assumption, by omega⟩, all_finS (Q := fun j p => piAt ns ps j p) hJ (by omega)⟩ | exact fF (fun h => by have h1 := h.1; first | omega | exact absurd h1.2.1 (by assumption)) | exact fF (net_no hpp (fun ⟨⟨h1, h3, h4⟩, h2⟩ => by first | contradiction | (exfalso; omega) | exact hE (h2 q (by omega) (by rw [← hq]; congr 1; omega)) | (have := h1.2.1; have := h1.2.2.1; omega)))
        · replace hb11 := dT hb11
          refine ev_q rfl (q_pickF rfl (by conv=>lhs;whnf) ?_)
          refine ev_nil (hK3 _ ?_); clear hK3
          refine good_condT rfl ?_
          refine good_seq fun K33 hK33 => ?_
          refine gr rfl ?_
          refine ea rfl (by conv=>lhs;whnf) ?_
          refine ev_nil (hK33 _ ?_); clear hK33
          refine good_ret ?_
          repeat first|refine thenQ_ret ?_|refine blockQ_ret ?_
          refine ret_tmp (st := _) rfl (by conv=>lhs;whnf) rfl ?_
          clear hK2
          first | exact fT ⟨⟨⟨by omega, by omega⟩, by assumption, by omega⟩, all_finS (Q := fun j p => piAt ns ps j p) hJ (by omega)⟩ | exact fF (fun h => by have h1 := h.1; first | omega | exact absurd h1.2.1 (by assumption)) | exact fF (net_no hpp (fun ⟨⟨h1, h3, h4⟩, h2⟩ => by first | contradiction | (exfalso; omega) | exact hE (h2 q (by omega) (by rw [← hq]; congr 1; omega)) | (have := h1.2.1; have := h1.2.2.1; omega)))
    · replace hb7 := dT hb7
      refine ev_q rfl (q_pickF rfl (by conv=>lhs;whnf) ?_)
      refine em rfl (by conv=>lhs;whnf) ?_
      refine ev_skip rfl ?_
      refine ev_skip rfl ?_
      refine ev_skip rfl ?_
      refine ev_skip rfl ?_
      refine ev_q rfl (q_pickT rfl (by conv=>lhs;whnf) ?_)
      refine em rfl (by conv=>lhs;whnf) ?_
      refine ev_skip rfl ?_
      refine ev_skip rfl ?_
      refine ev_skip rfl ?_
      refine ev_skip rfl ?_
      refine ev_q rfl (q_pickT rfl (by conv=>lhs;whnf) ?_)
      refine ev_nil (hK3 _ ?_); clear hK3
      refine good_condT rfl ?_
      refine good_seq fun K34 hK34 => ?_
      refine gr rfl ?_
      refine ea rfl (by conv=>lhs;whnf) ?_
      refine ev_nil (hK34 _ ?_); clear hK34
      refine good_ret ?_
      repeat first|refine thenQ_ret ?_|refine blockQ_ret ?_
      refine ret_tmp (st := _) rfl (by conv=>lhs;whnf) rfl ?_
      clear hK2
      first | exact fT ⟨⟨⟨by omega, by omega⟩, by assumption, by omega⟩, all_finS (Q := fun j p => piAt ns ps j p) hJ (by omega)⟩ | exact fF (fun h => by have h1 := h.1; first | omega | exact absurd h1.2.1 (by assumption)) | exact fF (net_no hpp (fun ⟨⟨h1, h3, h4⟩, h2⟩ => by first | contradiction | (exfalso; omega) | exact hE (h2 q (by omega) (by rw [← hq]; congr 1; omega)) | (have := h1.2.1; have := h1.2.2.1; omega)))
  · replace hb5 := dT hb5
    refine em rfl (by conv=>lhs;whnf) ?_
    refine ev_skip rfl ?_
    refine ev_skip rfl ?_
    refine ev_skip rfl ?_
    refine ev_skip rfl ?_
    refine ev_q rfl (q_pickT rfl (by conv=>lhs;whnf) ?_)
    refine em rfl (by conv=>lhs;whnf) ?_
    refine ev_skip rfl ?_
    refine ev_skip rfl ?_
    refine ev_skip rfl ?_
    refine ev_skip rfl ?_
    refine ev_q rfl (q_pickT rfl (by conv=>lhs;whnf) ?_)
    refine em rfl (by conv=>lhs;whnf) ?_
    refine ev_skip rfl ?_
    refine ev_skip rfl ?_
    refine ev_skip rfl ?_
    refine ev_skip rfl ?_
    refine ev_q rfl (q_pickT rfl (by conv=>lhs;whnf) ?_)
    refine ev_nil (hK3 _ ?_); clear hK3
    refine good_condT rfl ?_
    refine good_seq fun K35 hK35 => ?_
    refine gr rfl ?_
    refine ea rfl (by conv=>lhs;whnf) ?_
    refine ev_nil (hK35 _ ?_); clear hK35
    refine good_ret ?_
    repeat first|refine thenQ_ret ?_|refine blockQ_ret ?_
    refine ret_tmp (st := _) rfl (by conv=>lhs;whnf) rfl ?_
    clear hK2
    first | exact fT ⟨⟨⟨by omega, by omega⟩, by assumption, by omega⟩, all_finS (Q := fun j p => piAt ns ps j p) hJ (by omega)⟩ | exact fF (fun h => by have h1 := h.1; first | omega | exact absurd h1.2.1 (by assumption)) | exact fF (net_no hpp (fun ⟨⟨h1, h3, h4⟩, h2⟩ => by first | contradiction | (exfalso; omega) | exact hE (h2 q (by omega) (by rw [← hq]; congr 1; omega)) | (have := h1.2.1; have := h1.2.2.1; omega)))

-- spec.l04Ok
theorem D_spec_l04Ok (ns : List Int) (ps : List Pi) (hn : ns.length ≤ 17592186044416) (hp : ps.length ≤ 2513169434843) (hz : idSz ps) : Den Tryz.prog 65 [.rp [.lst 1 (ns.map ci), .lst 6 (ps.map piA)]] (.s (.bool (decide (netOk ns ps)))) := by
  refine den_of_good Tryz.func65 (by decide) rfl (Nat.le_of_ble_eq_true rfl) (Nat.le_of_ble_eq_true rfl) ?_
  refine good_seq fun K1 hK1 => ?_
  refine gr rfl ?_
  refine ea rfl (by conv=>lhs;whnf) ?_
  refine ev_nil (hK1 _ ?_); clear hK1
  refine good_seq fun K2 hK2 => ?_
  refine good_seq fun K3 hK3 => ?_
  refine gr rfl ?_
  refine ea rfl (by conv=>lhs;whnf) ?_
  refine ev_nil (hK3 _ ?_); clear hK3
  refine good_block ?_
  refine good_loop (α := Nat) (fun k => { env := upd (upd ((fun _ => .junk)) 0 (.rp [.lst 1 (ns.map ci), .lst 6 (ps.map piA)])) 3 (.s (.int .i64 k)), H := fun _ => none }) (fun k => k ≤ ns.length ∧ ∀ j q, j < k → ns[j]? = some q → (-100000) ≤ q ∧ q ≤ 100000) (fun k => ns.length - k) 0 ?_ ?_ ?_
  · exact ⟨by omega, fun j u hj => by omega⟩
  · refine sub_weak ?_ ?_
    · exact weakH_none _
    · refine weakE_upd ?e3 ?r3 (weakE_upd ?e0 ?r0 (weakE_junk _ _))
      case e0 => first | rfl | exact fI (by omega) | (simp_all)
      case r0 => intro h hh; cases hh
      case e3 => first | rfl | exact fI (by omega) | (simp_all)
      case r3 => intro h hh; cases hh
  · rintro k ⟨hIk, hJk⟩
    refine good_seq fun K4 hK4 => ?_
    refine good_seq fun K5 hK5 => ?_
    refine gr rfl ?_
    refine em rfl (by conv=>lhs;whnf) ?_
    refine em rfl (by conv=>lhs;whnf) ?_
    refine ev_q rfl (q_nilCheck (by conv=>lhs;whnf) rfl ?_)
    refine ev_q rfl (q_fieldAddr fO31_0 rfl rfl ?_)
    refine ev_q rfl (q_load tA22 rfl ?_)
    refine ev_q rfl (q_len tEs22 rfl ?_)
    intro n6 hn6
    try simp only [List.length_map] at hn6
    refine ei rfl rfl rfl ?_
    intro b7 hb7; cases b7
    · replace hb7 := dF hb7
      refine ev_nil (hK5 _ ?_); clear hK5
      refine good_condF rfl ?_
      refine good_exit ?_
      repeat first|refine thenQ_exit ?_|refine blockQ_pass rfl ?_
      refine blockQ_exit (hK2 _ ?_); clear hK2
      refine good_seq fun K8 hK8 => ?_
      refine good_seq fun K9 hK9 => ?_
      refine gr rfl ?_
      refine em rfl (by conv=>lhs;whnf) ?_
      refine ev_q rfl (q_nilCheck (by conv=>lhs;whnf) rfl ?_)
      refine ev_q rfl (q_fieldAddr fO31_0 rfl rfl ?_)
      refine ev_q rfl (q_load tA22 rfl ?_)
      refine ev_q rfl (q_len tEs22 rfl ?_)
      intro n10 hn10
      try simp only [List.length_map] at hn10
      refine ei rfl rfl rfl ?_
      intro b11 hb11; cases b11
      · replace hb11 := dF hb11
        refine em rfl (by conv=>lhs;whnf) ?_
        refine em rfl (by conv=>lhs;whnf) ?_
        refine ev_q rfl (q_nilCheck (by conv=>lhs;whnf) rfl ?_)
        refine ev_q rfl (q_fieldAddr fO31_0 rfl rfl ?_)
        refine ev_q rfl (q_load tA22 rfl ?_)
        refine ev_q rfl (q_len tEs22 rfl ?_)
        intro n12 hn12
        try simp only [List.length_map] at hn12
        refine ei rfl rfl rfl ?_
        intro b13 hb13; cases b13
        · replace hb13 := dF hb13
          refine ev_q rfl (q_pickF rfl (by conv=>lhs;whnf) ?_)
          refine em rfl (by conv=>lhs;whnf) ?_
          refine em rfl (by conv=>lhs;whnf) ?_
          refine ev_q rfl (q_nilCheck (by conv=>lhs;whnf) rfl ?_)
          refine ev_q rfl (q_fieldAddr fO31_1 rfl rfl ?_)
          refine ev_q rfl (q_load tA29 rfl ?_)
          refine ev_q rfl (q_len tEs29 rfl ?_)
          intro n14 hn14
          try simp only [List.length_map] at hn14
          refine ei rfl rfl rfl ?_
          intro b15 hb15; cases b15
          · replace hb15 := dF hb15
            refine ev_q rfl (q_pickF rfl (by conv=>lhs;whnf) ?_)
            refine ev_nil (hK9 _ ?_); clear hK9
            refine good_condF rfl ?_
            refine good_skip (hK8 _ ?_); clear hK8
            refine good_seq fun K16 hK16 => ?_
            refine good_seq fun K17 hK17 => ?_
            refine gr rfl ?_
            refine ea rfl (by conv=>lhs;whnf) ?_
            refine ev_nil (hK17 _ ?_); clear hK17
            refine good_block ?_
            have hw : within ns (-100000) 100000 := all_finI (Q := fun _ q => (-100000) ≤ q ∧ q ≤ 100000) hJk (by omega)
            refine good_loop (α := Nat) (fun i => { env := upd (upd ((fun _ => .junk)) 0 (.rp [.lst 1 (ns.map ci), .lst 6 (ps.map piA)])) 4 (.s (.int .i64 i)), H := fun _ => none }) (fun i => i ≤ ps.length ∧ ∀ j p, j < i → ps[j]? = some p → piAt ns ps j p) (fun i => ps.length - i) 0 ?_ ?_ ?_
            · exact ⟨by omega, fun j u hj => by omega⟩
            · refine sub_weak ?_ ?_
              · exact weakH_none _
              · refine weakE_upd ?e4 ?r4 (weakE_upd ?e0 ?r0 (weakE_junk _ _))
                case e0 => first | rfl | exact fI (by omega) | (simp_all)
                case r0 => intro h hh; cases hh
                case e4 => first | rfl | exact fI (by omega) | (simp_all)
                case r4 => intro h hh; cases hh
            · rintro i ⟨hI, hJ⟩
              refine good_seq fun K18 hK18 => ?_
              refine good_seq fun K19 hK19 => ?_
              refine gr rfl ?_
              refine em rfl (by conv=>lhs;whnf) ?_
              refine em rfl (by conv=>lhs;whnf) ?_
              refine ev_q rfl (q_nilCheck (by conv=>lhs;whnf) rfl ?_)
              refine ev_q rfl (q_fieldAddr fO31_1 rfl rfl ?_)
              refine ev_q rfl (q_load tA29 rfl ?_)
              refine ev_q rfl (q_len tEs29 rfl ?_)
              intro n20 hn20
              try simp only [List.length_map] at hn20
              refine ei rfl rfl rfl ?_
              intro b21 hb21; cases b21
              · replace hb21 := dF hb21
                refine ev_nil (hK19 _ ?_); clear hK19
                refine good_condF rfl ?_
                refine good_exit ?_
                repeat first|refine thenQ_exit ?_|refine blockQ_pass rfl ?_
                refine blockQ_exit (hK16 _ ?_); clear hK16
                refine good_seq fun K22 hK22 => ?_
                refine gr rfl ?_
                refine ea rfl (by conv=>lhs;whnf) ?_
                refine ev_nil (hK22 _ ?_); clear hK22
                refine good_ret ?_
                repeat first|refine thenQ_ret ?_|refine blockQ_ret ?_
                refine ret_tmp (st := _) rfl (by conv=>lhs;whnf) rfl ?_
                clear hK4 hK18
                first | exact fT ⟨⟨⟨by omega, by omega⟩, by assumption, by omega⟩, all_finS (Q := fun j p => piAt ns ps j p) hJ (by omega)⟩ | exact fF (fun h => by have h1 := h.1; first | omega | (have := h1.2.1 _ _ hpk; omega)) | exact fF (net_no hpp (fun ⟨h1, h2⟩ => by first | exact absurd h1 (by assumption) | exact hE (h2 q (by omega) (by rw [← hq]; congr 1; omega))))
              · replace hb21 := dT hb21
                obtain ⟨p, hpp⟩ := getL (xs := ps) (n := (i : Int)) (by omega) (by omega)
                replace hpp : ps[i]? = some p := hpp
                have hzp := hz i p hpp
                refine ev_nil (hK19 _ ?_); clear hK19
                refine good_condT rfl ?_
                refine good_skip (hK18 _ ?_); clear hK18
                refine good_seq fun K23 hK23 => ?_
                refine good_block ?_
                refine good_seq fun K24 hK24 => ?_
                refine good_draw 33 hmix (by kernel_rfl) rfl ?_
                refine qm rfl (by conv=>lhs;whnf) ?_
                refine qm rfl (by conv=>lhs;whnf) ?_
                refine qo_q rfl (q_nilCheck (by conv=>lhs;whnf) rfl ?_)
                refine qo_q rfl (q_fieldAddr fO31_1 rfl rfl ?_)
                refine qo_q rfl (q_load tA29 rfl ?_)
                refine qm rfl (by conv=>lhs;whnf) ?_
                refine qo_q rfl (q_idx tE29 rfl rfl (by exact Int.natCast_nonneg _) (by exact map_get hpp) rfl ?_)
                refine qo_q rfl (q_callB rfl rfl (rfl) (D_spec_l04Fits ns ps _ _ _ _ _ _ hn (by assumption)) ?_)
                intro b25 hb25; cases b25
                · first | replace hb25 := dF hb25 | skip
                  refine qo_q rfl (q_not rfl rfl ?_)
                  refine qm rfl (by conv=>lhs;whnf) ?_
                  refine qo_skip rfl ?_
                  refine qo_skip rfl ?_
                  refine qo_skip rfl ?_
                  refine qo_skip rfl ?_
                  refine qo_skip rfl ?_
                  refine qo_skip rfl ?_
                  refine qo_skip rfl ?_
                  refine qo_skip rfl ?_
                  refine qo_skip rfl ?_
                  refine qo_skip rfl ?_
                  refine qo_skip rfl ?_
                  refine qo_skip rfl ?_
                  refine qo_skip rfl ?_
                  refine qo_skip rfl ?_
                  refine qo_skip rfl ?_
                  refine qo_skip rfl ?_
                  refine qo_skip rfl ?_
                  refine qo_skip rfl ?_
                  refine qo_skip rfl ?_
                  refine qo_skip rfl ?_
                  refine qo_skip rfl ?_
                  refine qo_skip rfl ?_
                  refine qo_q rfl (q_pickT rfl (by conv=>lhs;whnf) ?_)
                  refine qo_nil ?_
                  refine ev_nil (hK24 _ ?_); clear hK24
                  refine good_condT rfl ?_
                  refine good_seq fun K26 hK26 => ?_
                  refine gr rfl ?_
                  refine ea rfl (by conv=>lhs;whnf) ?_
                  refine ev_nil (hK26 _ ?_); clear hK26
                  refine good_ret ?_
                  repeat first|refine thenQ_ret ?_|refine blockQ_ret ?_
                  refine ret_tmp (st := _) rfl (by conv=>lhs;whnf) rfl ?_
                  clear hK4 hK16 hK23
                  first | exact fT ⟨⟨⟨by omega, by omega⟩, by assumption, by omega⟩, all_finS (Q := fun j p => piAt ns ps j p) hJ (by omega)⟩ | exact fF (fun h => by have h1 := h.1; first | omega | (have := h1.2.1 _ _ hpk; omega)) | exact fF (net_no hpp (fun ⟨h1, h2⟩ => by first | exact absurd h1 (by assumption) | exact hE (h2 q (by omega) (by rw [← hq]; congr 1; omega))))
                · first | replace hb25 := dT hb25 | skip
                  refine qo_q rfl (q_not rfl rfl ?_)
                  refine qm rfl (by conv=>lhs;whnf) ?_
                  refine qm rfl (by conv=>lhs;whnf) ?_
                  refine qo_q rfl (q_int rfl rfl ?_)
                  intro b27 hb27; cases b27
                  · replace hb27 := dF hb27
                    refine qm rfl (by conv=>lhs;whnf) ?_
                    refine qo_skip rfl ?_
                    refine qo_skip rfl ?_
                    refine qo_skip rfl ?_
                    refine qo_skip rfl ?_
                    refine qo_skip rfl ?_
                    refine qo_skip rfl ?_
                    refine qo_skip rfl ?_
                    refine qo_skip rfl ?_
                    refine qo_skip rfl ?_
                    refine qo_skip rfl ?_
                    refine qo_skip rfl ?_
                    refine qo_skip rfl ?_
                    refine qo_skip rfl ?_
                    refine qo_skip rfl ?_
                    refine qo_skip rfl ?_
                    refine qo_skip rfl ?_
                    refine qo_skip rfl ?_
                    refine qo_skip rfl ?_
                    refine qo_q rfl (q_pickF rfl (by conv=>lhs;whnf) ?_)
                    refine qo_q rfl (q_pickF rfl (by conv=>lhs;whnf) ?_)
                    refine qo_nil ?_
                    refine ev_nil (hK24 _ ?_); clear hK24
                    refine good_condF rfl ?_
                    refine good_skip (hK23 _ ?_); clear hK23
                    refine gr rfl ?_
                    refine em rfl (by conv=>lhs;whnf) ?_
                    refine ei rfl rfl rfl ?_
                    intro n28 hn28
                    replace hn28 := in64 hn28 (by omega) (by omega)
                    refine ea rfl (by conv=>lhs;whnf) ?_
                    refine ev_nil ?_
                    clear hK4 hK16
                    refine ⟨i + 1, ?_, ?_, ?_⟩
                    · refine ⟨by omega, all_extS (Q := fun j p => piAt ns ps j p) hJ hpp ?_⟩
                      first | exact ⟨by assumption, fun y h0 hy => by first | omega | (have e : some y = some q := hy.symm.trans (by rw [← hq]; congr 1; omega); cases e; exact hE)⟩
                    · first | omega | (simp only []; omega) | (dsimp only; omega)
                    · refine sub_weak ?_ ?_
                      · exact weakH_none _
                      · refine weakE_upd ?e4 ?r4 (weakE_upd ?e0 ?r0 (weakE_junk _ _))
                        case e0 => first | rfl | exact fI (by omega) | (simp_all)
                        case r0 => intro h hh; cases hh
                        case e4 => first | rfl | exact fI (by omega) | (simp_all)
                        case r4 => intro h hh; cases hh
                  · replace hb27 := dT hb27
                    refine qm rfl (by conv=>lhs;whnf) ?_
                    refine qm rfl (by conv=>lhs;whnf) ?_
                    refine qo_q rfl (q_nilCheck (by conv=>lhs;whnf) rfl ?_)
                    refine qo_q rfl (q_fieldAddr fO31_1 rfl rfl ?_)
                    refine qo_q rfl (q_load tA29 rfl ?_)
                    refine qm rfl (by conv=>lhs;whnf) ?_
                    refine qo_q rfl (q_int rfl rfl ?_)
                    intro n29 hn29
                    replace hn29 := in64 hn29 (by omega) (by omega)
                    obtain ⟨q, hq⟩ := getL (xs := ps) (n := n29) (by omega) (by omega)
                    refine qo_q rfl (q_idx tE29 rfl rfl (by omega) (by exact map_get hq) rfl ?_)
                    refine qo_q rfl (q_fieldAddr fO95_0 rfl rfl ?_)
                    refine qo_q rfl (q_load tA9 rfl ?_)
                    refine qm rfl (by conv=>lhs;whnf) ?_
                    refine qo_q rfl (q_nilCheck (by conv=>lhs;whnf) rfl ?_)
                    refine qo_q rfl (q_fieldAddr fO31_1 rfl rfl ?_)
                    refine qo_q rfl (q_load tA29 rfl ?_)
                    refine qm rfl (by conv=>lhs;whnf) ?_
                    refine qo_q rfl (q_idx tE29 rfl rfl (by exact Int.natCast_nonneg _) (by exact map_get hpp) rfl ?_)
                    refine qo_q rfl (q_fieldAddr fO95_0 rfl rfl ?_)
                    refine qo_q rfl (q_load tA9 rfl ?_)
                    refine qo_q rfl (q_str rfl rfl ?_)
                    intro b30 hb30; cases b30
                    · have hE := lt_ge hb30
                      refine qo_q rfl (q_pickT rfl (by conv=>lhs;whnf) ?_)
                      refine qo_q rfl (q_pickF rfl (by conv=>lhs;whnf) ?_)
                      refine qo_nil ?_
                      refine ev_nil (hK24 _ ?_); clear hK24
                      refine good_condF rfl ?_
                      refine good_skip (hK23 _ ?_); clear hK23
                      refine gr rfl ?_
                      refine em rfl (by conv=>lhs;whnf) ?_
                      refine ei rfl rfl rfl ?_
                      intro n31 hn31
                      replace hn31 := in64 hn31 (by omega) (by omega)
                      refine ea rfl (by conv=>lhs;whnf) ?_
                      refine ev_nil ?_
                      clear hK4 hK16
                      refine ⟨i + 1, ?_, ?_, ?_⟩
                      · refine ⟨by omega, all_extS (Q := fun j p => piAt ns ps j p) hJ hpp ?_⟩
                        first | exact ⟨by assumption, fun y h0 hy => by first | omega | (have e : some y = some q := hy.symm.trans (by rw [← hq]; congr 1; omega); cases e; exact hE)⟩
                      · first | omega | (simp only []; omega) | (dsimp only; omega)
                      · refine sub_weak ?_ ?_
                        · exact weakH_none _
                        · refine weakE_upd ?e4 ?r4 (weakE_upd ?e0 ?r0 (weakE_junk _ _))
                          case e0 => first | rfl | exact fI (by omega) | (simp_all)
                          case r0 => intro h hh; cases hh
                          case e4 => first | rfl | exact fI (by omega) | (simp_all)
                          case r4 => intro h hh; cases hh
                    · have hE := nlt_ge hb30
                      refine qo_q rfl (q_pickT rfl (by conv=>lhs;whnf) ?_)
                      refine qo_q rfl (q_pickF rfl (by conv=>lhs;whnf) ?_)
                      refine qo_nil ?_
                      refine ev_nil (hK24 _ ?_); clear hK24
                      refine good_condT rfl ?_
                      refine good_seq fun K32 hK32 => ?_
                      refine gr rfl ?_
                      refine ea rfl (by conv=>lhs;whnf) ?_
                      refine ev_nil (hK32 _ ?_); clear hK32
                      refine good_ret ?_
                      repeat first|refine thenQ_ret ?_|refine blockQ_ret ?_
                      refine ret_tmp (st := _) rfl (by conv=>lhs;whnf) rfl ?_
                      clear hK4 hK16 hK23
                      first | exact fT ⟨⟨⟨by omega, by omega⟩, by assumption, by omega⟩, all_finS (Q := fun j p => piAt ns ps j p) hJ (by omega)⟩ | exact fF (fun h => by have h1 := h.1; first | omega | (have := h1.2.1 _ _ hpk; omega)) | exact fF (net_no hpp (fun ⟨h1, h2⟩ => by first | exact absurd h1 (by assumption) | exact hE (h2 q (by omega) (by rw [← hq]; congr 1; omega))))
          · replace hb15 := dT hb15
            refine ev_q rfl (q_pickF rfl (by conv=>lhs;whnf) ?_)
            refine ev_nil (hK9 _ ?_); clear hK9
            refine good_condT rfl ?_
            refine good_seq fun K33 hK33 => ?_
            refine gr rfl ?_
            refine ea rfl (by conv=>lhs;whnf) ?_
            refine ev_nil (hK33 _ ?_); clear hK33
            refine good_ret ?_
            repeat first|refine thenQ_ret ?_|refine blockQ_ret ?_
            refine ret_tmp (st := _) rfl (by conv=>lhs;whnf) rfl ?_
            clear hK4 hK8
            first | exact fT ⟨⟨⟨by omega, by omega⟩, by assumption, by omega⟩, all_finS (Q := fun j p => piAt ns ps j p) hJ (by omega)⟩ | exact fF (fun h => by have h1 := h.1; first | omega | (have := h1.2.1 _ _ hpk; omega)) | exact fF (net_no hpp (fun ⟨h1, h2⟩ => by first | exact absurd h1 (by assumption) | exact hE (h2 q (by omega) (by rw [← hq]; congr 1; omega))))
        · replace hb13 := dT hb13
          refine ev_q rfl (q_pickF rfl (by conv=>lhs;whnf) ?_)
          refine em rfl (by conv=>lhs;whnf) ?_
          refine ev_skip rfl ?_
          refine ev_skip rfl ?_
          refine ev_skip rfl ?_
          refine ev_skip rfl ?_
          refine ev_skip rfl ?_
          refine ev_skip rfl ?_
          refine ev_q rfl (q_pickT rfl (by conv=>lhs;whnf) ?_)
          refine ev_nil (hK9 _ ?_); clear hK9
          refine good_condT rfl ?_
          refine good_seq fun K34 hK34 => ?_
          refine gr rfl ?_
          refine ea rfl (by conv=>lhs;whnf) ?_
          refine ev_nil (hK34 _ ?_); clear hK34
          refine good_ret ?_
          repeat first|refine thenQ_ret ?_|refine blockQ_ret ?_
          refine ret_tmp (st := _) rfl (by conv=>lhs;whnf) rfl ?_
          clear hK4 hK8
          first | exact fT ⟨⟨⟨by omega, by omega⟩, by assumption, by omega⟩, all_finS (Q := fun j p => piAt ns ps j p) hJ (by omega)⟩ | exact fF (fun h => by have h1 := h.1; first | omega | (have := h1.2.1 _ _ hpk; omega)) | exact fF (net_no hpp (fun ⟨h1, h2⟩ => by first | exact absurd h1 (by assumption) | exact hE (h2 q (by omega) (by rw [← hq]; congr 1; omega))))
      · replace hb11 := dT hb11
        refine em rfl (by conv=>lhs;whnf) ?_
        refine ev_skip rfl ?_
        refine ev_skip rfl ?_
        refine ev_skip rfl ?_
        refine ev_skip rfl ?_
        refine ev_skip rfl ?_
        refine ev_skip rfl ?_
        refine ev_q rfl (q_pickT rfl (by conv=>lhs;whnf) ?_)
        refine em rfl (by conv=>lhs;whnf) ?_
        refine ev_skip rfl ?_
        refine ev_skip rfl ?_
        refine ev_skip rfl ?_
        refine ev_skip rfl ?_
        refine ev_skip rfl ?_
        refine ev_skip rfl ?_
        refine ev_q rfl (q_pickT rfl (by conv=>lhs;whnf) ?_)
        refine ev_nil (hK9 _ ?_); clear hK9
        refine good_condT rfl ?_
        refine good_seq fun K35 hK35 => ?_
        refine gr rfl ?_
        refine ea rfl (by conv=>lhs;whnf) ?_
        refine ev_nil (hK35 _ ?_); clear hK35
        refine good_ret ?_
        repeat first|refine thenQ_ret ?_|refine blockQ_ret ?_
        refine ret_tmp (st := _) rfl (by conv=>lhs;whnf) rfl ?_
        clear hK4 hK8
        first | exact fT ⟨⟨⟨by omega, by omega⟩, by assumption, by omega⟩, all_finS (Q := fun j p => piAt ns ps j p) hJ (by omega)⟩ | exact fF (fun h => by have h1 := h.1; first | omega | (have := h1.2.1 _ _ hpk; omega)) | exact fF (net_no hpp (fun ⟨h1, h2⟩ => by first | exact absurd h1 (by assumption) | exact hE (h2 q (by omega) (by rw [← hq]; congr 1; omega))))
    · replace hb7 := dT hb7
      obtain ⟨pk, hpk⟩ := getL (xs := ns) (n := (k : Int)) (by omega) (by omega)
      replace hpk : ns[k]? = some pk := hpk
      refine ev_nil (hK5 _ ?_); clear hK5
      refine good_condT rfl ?_
      refine good_skip (hK4 _ ?_); clear hK4
      refine good_seq fun K36 hK36 => ?_
      refine good_block ?_
      refine good_seq fun K37 hK37 => ?_
      refine gr rfl ?_
      refine em rfl (by conv=>lhs;whnf) ?_
      refine ev_q rfl (q_nilCheck (by conv=>lhs;whnf) rfl ?_)
      refine ev_q rfl (q_fieldAddr fO31_0 rfl rfl ?_)
      refine ev_q rfl (q_load tA22 rfl ?_)
      refine em rfl (by conv=>lhs;whnf) ?_
      refine ev_q rfl (q_idx tE22 rfl rfl (by exact Int.natCast_nonneg _) (by exact map_get hpk) rfl ?_)
      refine ev_q rfl (q_load tA2 rfl ?_)
      refine ev_q rfl (q_callB rfl rfl (rfl) (D_spec_l00In ..) ?_)
      intro b38 hb38; cases b38
      · first | replace hb38 := dF hb38 | skip
        refine ev_q rfl (q_not rfl rfl ?_)
        refine ev_nil (hK37 _ ?_); clear hK37
        refine good_condT rfl ?_
        refine good_seq fun K39 hK39 => ?_
        refine gr rfl ?_
        refine ea rfl (by conv=>lhs;whnf) ?_
        refine ev_nil (hK39 _ ?_); clear hK39
        refine good_ret ?_
        repeat first|refine thenQ_ret ?_|refine blockQ_ret ?_
        refine ret_tmp (st := _) rfl (by conv=>lhs;whnf) rfl ?_
        clear hK2 hK36
        first | exact fT ⟨⟨⟨by omega, by omega⟩, by assumption, by omega⟩, all_finS (Q := fun j p => piAt ns ps j p) hJ (by omega)⟩ | exact fF (fun h => by have h1 := h.1; first | omega | (have := h1.2.1 _ _ hpk; omega)) | exact fF (net_no hpp (fun ⟨h1, h2⟩ => by first | exact absurd h1 (by assumption) | exact hE (h2 q (by omega) (by rw [← hq]; congr 1; omega))))
      · first | replace hb38 := dT hb38 | skip
        refine ev_q rfl (q_not rfl rfl ?_)
        refine ev_nil (hK37 _ ?_); clear hK37
        refine good_condF rfl ?_
        refine good_skip (hK36 _ ?_); clear hK36
        refine gr rfl ?_
        refine em rfl (by conv=>lhs;whnf) ?_
        refine ei rfl rfl rfl ?_
        intro n40 hn40
        replace hn40 := in64 hn40 (by omega) (by omega)
        refine ea rfl (by conv=>lhs;whnf) ?_
        refine ev_nil ?_
        clear hK2
        refine ⟨k + 1, ?_, ?_, ?_⟩
        · exact ⟨by omega, all_extI (Q := fun _ q => (-100000) ≤ q ∧ q ≤ 100000) hJk hpk (by omega)⟩
        · first | omega | (simp only []; omega) | (dsimp only; omega)
        · refine sub_weak ?_ ?_
          · exact weakH_none _
          · refine weakE_upd ?e3 ?r3 (weakE_upd ?e0 ?r0 (weakE_junk _ _))
            case e0 => first | rfl | exact fI (by omega) | (simp_all)
            case r0 => intro h hh; cases hh
            case e3 => first | rfl | exact fI (by omega) | (simp_all)
            case r3 => intro h hh; cases hh

-- spec.l04Tree
theorem D_spec_l04Tree (ns : List Int) (ps : List Pi) (hn : ns.length ≤ 17592186044416) (hp : ps.length ≤ 2513169434843) (hz : idSz ps) (ok : netOk ns ps) : DenX Tryz.prog 70 [] [.rp [.lst 1 (ns.map ci), .lst 6 (ps.map piA)]] [(900001, .row 2 1 ((trO ps ps.length).map ci))] (.own 900001 (trO ps ps.length).length) := by
  have h16 := ok.1.1
  have h20 := ok.1.2.2
  refine denX_of_good Tryz.func70 (by decide) rfl (Nat.le_of_ble_eq_true rfl) (Nat.le_of_ble_eq_true rfl) rfl ?_
  refine good_seq fun K1 hK1 => ?_
  refine gr rfl ?_
  refine ea rfl (by conv=>lhs;whnf) ?_
  refine ev_nil (hK1 _ ?_); clear hK1
  refine good_seq fun K2 hK2 => ?_
  refine gr rfl ?_
  refine ev_k rfl (k_lit tE22 zA2 rfl rfl (by decide) (by decide) rfl rfl rfl ?_)
  refine ea rfl (by conv=>lhs;whnf) ?_
  refine ev_nil (hK2 _ ?_); clear hK2
  refine good_seq fun K3 hK3 => ?_
  refine gr rfl ?_
  refine ev_k rfl (k_lit tE22 zA2 rfl rfl (by decide) (by decide) rfl rfl rfl ?_)
  refine ea rfl (by conv=>lhs;whnf) ?_
  refine ev_nil (hK3 _ ?_); clear hK3
  refine good_seq fun K4 hK4 => ?_
  refine good_seq fun K5 hK5 => ?_
  refine gr rfl ?_
  refine ea rfl (by conv=>lhs;whnf) ?_
  refine ev_nil (hK5 _ ?_); clear hK5
  refine good_block ?_
  refine good_loop (α := Nat) (fun j => { env := upd (upd (upd (upd ((fun _ => .junk)) 0 (.rp [.lst 1 (ns.map ci), .lst 6 (ps.map piA)])) 3 (.own 10 0)) 4 (.own 24 j)) 5 (.s (.int .i64 ((j : Int)))), H := upd (upd ((fun _ => none)) 24 (some (.row 2 1 (lbR id j)))) 10 (some (.row 2 1 ([]))) }) (fun j => j ≤ ns.length) (fun j => ns.length - j) 0 ?_ ?_ ?_
  · exact Nat.zero_le _
  · refine Sub.trans (sub_move 4 11 24 rfl rfl rfl (by decide)) ?_
    refine sub_weak ?_ ?_
    · exact weakH_row (rowEq (rfl)) (weakH_row (rowEq (rfl)) (weakH_none _))
    · refine weakE_upd ?e5 ?r5 (weakE_upd ?e4 ?r4 (weakE_upd ?e3 ?r3 (weakE_upd ?e0 ?r0 (weakE_junk _ _))))
      case e0 => first | rfl | exact fI (by omega) | (simp_all)
      case r0 => intro h hh; cases hh
      case e3 => first | rfl | exact fI (by omega) | (simp_all)
      case r3 => intro h hh; simp [refs] at hh; subst hh; rfl
      case e4 => first | rfl | exact fI (by omega) | (first | rfl | exact ownEq (by simp [lbR]))
      case r4 => intro h hh; simp [refs] at hh; subst hh; rfl
      case e5 => first | rfl | exact fI (by omega) | (simp_all)
      case r5 => intro h hh; cases hh
  · rintro j hj
    refine good_seq fun K6 hK6 => ?_
    refine good_seq fun K7 hK7 => ?_
    refine gr rfl ?_
    refine em rfl (by conv=>lhs;whnf) ?_
    refine em rfl (by conv=>lhs;whnf) ?_
    refine ev_q rfl (q_nilCheck (by conv=>lhs;whnf) rfl ?_)
    refine ev_q rfl (q_fieldAddr fO31_0 rfl rfl ?_)
    refine ev_q rfl (q_load tA22 rfl ?_)
    refine ev_q rfl (q_len tEs22 rfl ?_)
    intro n8 hn8
    try simp only [List.length_map] at hn8
    refine ei rfl rfl rfl ?_
    intro b9 hb9; cases b9
    · replace hb9 := dF hb9
      refine ev_nil (hK7 _ ?_); clear hK7
      refine good_condF rfl ?_
      refine good_exit ?_
      repeat first|refine thenQ_exit ?_|refine blockQ_pass rfl ?_
      refine blockQ_exit (hK4 _ ?_); clear hK4
      refine good_seq fun K10 hK10 => ?_
      refine good_seq fun K11 hK11 => ?_
      refine gr rfl ?_
      refine ea rfl (by conv=>lhs;whnf) ?_
      refine ev_nil (hK11 _ ?_); clear hK11
      refine good_block ?_
      refine good_loop (α := Nat) (fun i => { env := upd (upd (upd (upd ((fun _ => .junk)) 0 (.rp [.lst 1 (ns.map ci), .lst 6 (ps.map piA)])) 3 (.own 62 (trO ps i).length)) 4 (.own 24 ns.length)) 6 (.s (.int .i64 ((i : Int)))), H := upd (upd ((fun _ => none)) 24 (some (.row 2 1 (lbR (trL (esL ps i)) ns.length)))) 62 (some (.row 2 1 ((trO ps i).map ci))) }) (fun i => i ≤ ps.length) (fun i => ps.length - i) 0 ?_ ?_ ?_
      · exact Nat.zero_le _
      · refine Sub.trans (sub_move 3 10 62 rfl rfl rfl (by decide)) ?_
        refine sub_weak ?_ ?_
        · exact weakH_row (rowEq (rfl)) (weakH_row (rowEq (by rw [show ns.length = j by omega]; rfl)) (weakH_none _))
        · refine weakE_upd ?e6 ?r6 (weakE_upd ?e4 ?r4 (weakE_upd ?e3 ?r3 (weakE_upd ?e0 ?r0 (weakE_junk _ _))))
          case e0 => first | rfl | exact fI (by omega) | (simp_all)
          case r0 => intro h hh; cases hh
          case e3 => first | rfl | exact fI (by omega) | (first | rfl | (rw [hto]; done) | (rw [hto]; exact ownEq (by simp)))
          case r3 => intro h hh; simp [refs] at hh; subst hh; rfl
          case e4 => first | rfl | exact fI (by omega) | (first | rfl | exact ownEq (by omega))
          case r4 => intro h hh; simp [refs] at hh; subst hh; rfl
          case e6 => first | rfl | exact fI (by omega) | (simp_all)
          case r6 => intro h hh; cases hh
      · rintro i hI
        refine good_seq fun K12 hK12 => ?_
        refine good_seq fun K13 hK13 => ?_
        refine gr rfl ?_
        refine em rfl (by conv=>lhs;whnf) ?_
        refine em rfl (by conv=>lhs;whnf) ?_
        refine ev_q rfl (q_nilCheck (by conv=>lhs;whnf) rfl ?_)
        refine ev_q rfl (q_fieldAddr fO31_1 rfl rfl ?_)
        refine ev_q rfl (q_load tA29 rfl ?_)
        refine ev_q rfl (q_len tEs29 rfl ?_)
        intro n14 hn14
        try simp only [List.length_map] at hn14
        refine ei rfl rfl rfl ?_
        intro b15 hb15; cases b15
        · replace hb15 := dF hb15
          refine ev_nil (hK13 _ ?_); clear hK13
          refine good_condF rfl ?_
          refine good_exit ?_
          repeat first|refine thenQ_exit ?_|refine blockQ_pass rfl ?_
          refine blockQ_exit (hK10 _ ?_); clear hK10
          refine good_seq fun K16 hK16 => ?_
          refine gr rfl ?_
          refine em rfl (by conv=>lhs;whnf) ?_
          refine ea rfl (by conv=>lhs;whnf) ?_
          refine ev_nil (hK16 _ ?_); clear hK16
          refine good_weak (sub_move 2 62 900001 rfl rfl rfl (by decide)) ?_
          refine good_ret ?_
          repeat first|refine thenQ_ret ?_|refine blockQ_ret ?_
          refine fx_tmp rfl (by conv=>lhs;whnf) ?_
          clear hK6 hK12
          have e : trO ps ps.length = trO ps i := by rw [show ps.length = i by omega]
          exact ⟨_, conv_eq (by first | rfl | (rw [e]; done) | (rw [e]; rfl) | exact ownEq (by first | omega | simp_all)), weakH_row (rowEq (by first | (rw [e]; done) | (rw [e]; rfl))) (weakH_none _), refsIn_ok rfl⟩
        · replace hb15 := dT hb15
          obtain ⟨p, hpp⟩ := getL (xs := ps) (n := (i : Int)) (by omega) (by omega)
          replace hpp : ps[i]? = some p := hpp
          have hpo := (ok.2 i p hpp).1
          have hp1 := hpo.1.2.1
          have hp2 := hpo.1.2.2.1
          have hcl := trC_le (ps := ps) i
          have hol := trO_len (ps := ps) i (by omega)
          refine ev_nil (hK13 _ ?_); clear hK13
          refine good_condT rfl ?_
          refine good_skip (hK12 _ ?_); clear hK12
          refine good_seq fun K17 hK17 => ?_
          refine good_block ?_
          refine good_seq fun K18 hK18 => ?_
          refine gr rfl ?_
          refine em rfl (by conv=>lhs;whnf) ?_
          refine em rfl (by conv=>lhs;whnf) ?_
          refine ev_q rfl (q_nilCheck (by conv=>lhs;whnf) rfl ?_)
          refine ev_q rfl (q_fieldAddr fO31_1 rfl rfl ?_)
          refine ev_q rfl (q_load tA29 rfl ?_)
          refine em rfl (by conv=>lhs;whnf) ?_
          refine ev_q rfl (q_idx tE29 rfl rfl (by omega) (by exact map_get hpp) rfl ?_)
          refine ev_q rfl (q_fieldAddr fO95_1 rfl rfl ?_)
          refine ev_q rfl (q_load tA2 rfl ?_)
          refine ev_q rfl (q_idxO tE22 rfl rfl rfl (by omega) (by omega) rfl ?_)
          refine ev_q rfl (q_loadE tA2 rfl rfl (by exact lbR_get (by omega) (by omega)) rfl ?_)
          refine ea rfl (by conv=>lhs;whnf) ?_
          refine ev_nil (hK18 _ ?_); clear hK18
          refine good_seq fun K19 hK19 => ?_
          refine gr rfl ?_
          refine em rfl (by conv=>lhs;whnf) ?_
          refine em rfl (by conv=>lhs;whnf) ?_
          refine ev_q rfl (q_nilCheck (by conv=>lhs;whnf) rfl ?_)
          refine ev_q rfl (q_fieldAddr fO31_1 rfl rfl ?_)
          refine ev_q rfl (q_load tA29 rfl ?_)
          refine em rfl (by conv=>lhs;whnf) ?_
          refine ev_q rfl (q_idx tE29 rfl rfl (by omega) (by exact map_get hpp) rfl ?_)
          refine ev_q rfl (q_fieldAddr fO95_2 rfl rfl ?_)
          refine ev_q rfl (q_load tA2 rfl ?_)
          refine ev_q rfl (q_idxO tE22 rfl rfl rfl (by omega) (by omega) rfl ?_)
          refine ev_q rfl (q_loadE tA2 rfl rfl (by exact lbR_get (by omega) (by omega)) rfl ?_)
          refine ea rfl (by conv=>lhs;whnf) ?_
          refine ev_nil (hK19 _ ?_); clear hK19
          refine good_seq fun K20 hK20 => ?_
          refine good_seq fun K21 hK21 => ?_
          refine gr rfl ?_
          refine em rfl (by conv=>lhs;whnf) ?_
          refine em rfl (by conv=>lhs;whnf) ?_
          refine ei rfl rfl rfl ?_
          intro b22 hb22; cases b22
          · replace hb22 := eqF hb22
            have hts := trL_s hpp (n := ns.length) (by omega)
            have hto := trO_F hpp (by omega)
            refine ev_nil (hK21 _ ?_); clear hK21
            refine good_condF rfl ?_
            refine good_skip (hK20 _ ?_); clear hK20
            refine good_seq fun K23 hK23 => ?_
            refine gr rfl ?_
            refine em rfl (by conv=>lhs;whnf) ?_
            refine em rfl (by conv=>lhs;whnf) ?_
            refine ev_k rfl (k_lit tE22 zA2 rfl rfl (by decide) (by decide) rfl rfl rfl ?_)
            refine ev_k rfl (k_app tApp22 rfl rfl (by first | (simp; done) | (simp [lbR_len]; done)) rfl (.inr rfl) (by first | (simp [maxLen]; omega) | (simp [maxLen, lbR_len]; omega)) (by first | (simp; omega) | (simp [lbR_len]; omega)) ?_)
            refine ea rfl (by conv=>lhs;whnf) ?_
            refine ev_nil (hK23 _ ?_); clear hK23
            refine good_seq fun K24 hK24 => ?_
            refine gr rfl ?_
            refine ea rfl (by conv=>lhs;whnf) ?_
            refine ev_nil (hK24 _ ?_); clear hK24
            refine good_block ?_
            refine good_loop (α := Nat) (fun m => { env := upd (upd (upd (upd (upd (upd (upd ((fun _ => .junk)) 0 (.rp [.lst 1 (ns.map ci), .lst 6 (ps.map piA)])) 3 (.own 62 ((trO ps i).length + 1))) 4 (.own 24 ns.length)) 6 (.s (.int .i64 ((i : Int))))) 7 (.s (.int .i64 ((((trL (esL ps i)) p.fm.toNat : Nat) : Int))))) 8 (.s (.int .i64 ((((trL (esL ps i)) p.tt.toNat : Nat) : Int))))) 9 (.s (.int .i64 ((m : Int)))), H := upd (upd ((fun _ => none)) 24 (some (.row 2 1 (lbR (mgL (trL (esL ps i)) ((trL (esL ps i)) p.fm.toNat) ((trL (esL ps i)) p.tt.toNat) m) ns.length)))) 62 (some (.row 2 1 (((trO ps i) ++ [(i : Int)]).map ci))) }) (fun m => m ≤ ns.length) (fun m => ns.length - m) 0 ?_ ?_ ?_
            · exact Nat.zero_le _
            · refine sub_weak ?_ ?_
              · exact weakH_row (rowEq (by first | rfl | (rw [List.map_append]; rfl))) (weakH_row (rowEq (by rw [mgL_0])) (weakH_none _))
              · refine weakE_upd ?e9 ?r9 (weakE_upd ?e8 ?r8 (weakE_upd ?e7 ?r7 (weakE_upd ?e6 ?r6 (weakE_upd ?e4 ?r4 (weakE_upd ?e3 ?r3 (weakE_upd ?e0 ?r0 (weakE_junk _ _)))))))
                case e0 => first | rfl | exact fI (by omega) | (simp_all)
                case r0 => intro h hh; cases hh
                case e3 => first | rfl | exact fI (by omega) | (first | rfl | exact ownEq (by simp))
                case r3 => intro h hh; simp [refs] at hh; subst hh; rfl
                case e4 => first | rfl | exact fI (by omega) | (simp_all)
                case r4 => intro h hh; simp [refs] at hh; subst hh; rfl
                case e6 => first | rfl | exact fI (by omega) | (simp_all)
                case r6 => intro h hh; cases hh
                case e7 => first | rfl | exact fI (by omega) | (simp_all)
                case r7 => intro h hh; cases hh
                case e8 => first | rfl | exact fI (by omega) | (simp_all)
                case r8 => intro h hh; cases hh
                case e9 => first | rfl | exact fI (by omega) | (simp_all)
                case r9 => intro h hh; cases hh
            · rintro m hm
              refine good_seq fun K25 hK25 => ?_
              refine good_seq fun K26 hK26 => ?_
              refine gr rfl ?_
              refine em rfl (by conv=>lhs;whnf) ?_
              refine em rfl (by conv=>lhs;whnf) ?_
              refine ev_q rfl (q_len tEs22 rfl ?_)
              intro n27 hn27
              try simp only [List.length_map] at hn27
              refine ei rfl rfl rfl ?_
              intro b28 hb28; cases b28
              · replace hb28 := dF hb28
                refine ev_nil (hK26 _ ?_); clear hK26
                refine good_condF rfl ?_
                refine good_exit ?_
                repeat first|refine thenQ_exit ?_|refine blockQ_pass rfl ?_
                refine blockQ_exit (hK17 _ ?_); clear hK17
                refine gr rfl ?_
                refine em rfl (by conv=>lhs;whnf) ?_
                refine ei rfl rfl rfl ?_
                intro n29 hn29
                replace hn29 := in64 hn29 (by omega) (by omega)
                refine ea rfl (by conv=>lhs;whnf) ?_
                refine ev_nil ?_
                clear hK6 hK10 hK25
                refine ⟨i + 1, ?_, ?_, ?_⟩
                · show _ ≤ _; omega
                · first | omega | (simp only []; omega) | (dsimp only; omega)
                · refine sub_weak ?_ ?_
                  · exact weakH_row (rowEq (by first | (rw [hto]; done) | (rw [hto, List.map_append]; rfl))) (weakH_row (rowEq (by first | (rw [hte.1]; done) | (rw [show m = ns.length by omega]; exact mgL_end.trans hts.1))) (weakH_none _))
                  · refine weakE_upd ?e6 ?r6 (weakE_upd ?e4 ?r4 (weakE_upd ?e3 ?r3 (weakE_upd ?e0 ?r0 (weakE_junk _ _))))
                    case e0 => first | rfl | exact fI (by omega) | (simp_all)
                    case r0 => intro h hh; cases hh
                    case e3 => first | rfl | exact fI (by omega) | (first | rfl | (rw [hto]; done) | (rw [hto]; exact ownEq (by simp)))
                    case r3 => intro h hh; simp [refs] at hh; subst hh; rfl
                    case e4 => first | rfl | exact fI (by omega) | (first | rfl | exact ownEq (by omega))
                    case r4 => intro h hh; simp [refs] at hh; subst hh; rfl
                    case e6 => first | rfl | exact fI (by omega) | (simp_all)
                    case r6 => intro h hh; cases hh
              · replace hb28 := dT hb28
                refine ev_nil (hK26 _ ?_); clear hK26
                refine good_condT rfl ?_
                refine good_skip (hK25 _ ?_); clear hK25
                refine good_seq fun K30 hK30 => ?_
                refine good_block ?_
                refine good_seq fun K31 hK31 => ?_
                refine gr rfl ?_
                refine em rfl (by conv=>lhs;whnf) ?_
                refine em rfl (by conv=>lhs;whnf) ?_
                refine ev_q rfl (q_idxO tE22 rfl rfl rfl (by omega) (by omega) rfl ?_)
                refine ev_q rfl (q_loadE tA2 rfl rfl (by exact lbR_gm (m := m) (by omega)) rfl ?_)
                refine em rfl (by conv=>lhs;whnf) ?_
                refine ei rfl rfl rfl ?_
                intro b32 hb32; cases b32
                · replace hb32 := eqF hb32
                  refine ev_nil (hK31 _ ?_); clear hK31
                  refine good_condF rfl ?_
                  refine good_skip (hK30 _ ?_); clear hK30
                  refine gr rfl ?_
                  refine em rfl (by conv=>lhs;whnf) ?_
                  refine ei rfl rfl rfl ?_
                  intro n33 hn33
                  replace hn33 := in64 hn33 (by omega) (by omega)
                  refine ea rfl (by conv=>lhs;whnf) ?_
                  refine ev_nil ?_
                  clear hK6 hK10 hK17
                  refine ⟨m + 1, ?_, ?_, ?_⟩
                  · show _ ≤ _; omega
                  · first | omega | (simp only []; omega) | (dsimp only; omega)
                  · refine sub_weak ?_ ?_
                    · exact weakH_row (rowEq (rfl)) (weakH_row (rowEq (by first | (rw [mgL_F (by omega)]; done) | exact mgL_T (by omega) (by omega))) (weakH_none _))
                    · refine weakE_upd ?e9 ?r9 (weakE_upd ?e8 ?r8 (weakE_upd ?e7 ?r7 (weakE_upd ?e6 ?r6 (weakE_upd ?e4 ?r4 (weakE_upd ?e3 ?r3 (weakE_upd ?e0 ?r0 (weakE_junk _ _)))))))
                      case e0 => first | rfl | exact fI (by omega) | (simp_all)
                      case r0 => intro h hh; cases hh
                      case e3 => first | rfl | exact fI (by omega) | (first | rfl | exact ownEq (by simp))
                      case r3 => intro h hh; simp [refs] at hh; subst hh; rfl
                      case e4 => first | rfl | exact fI (by omega) | (simp_all)
                      case r4 => intro h hh; simp [refs] at hh; subst hh; rfl
                      case e6 => first | rfl | exact fI (by omega) | (simp_all)
                      case r6 => intro h hh; cases hh
                      case e7 => first | rfl | exact fI (by omega) | (simp_all)
                      case r7 => intro h hh; cases hh
                      case e8 => first | rfl | exact fI (by omega) | (simp_all)
                      case r8 => intro h hh; cases hh
                      case e9 => first | rfl | exact fI (by omega) | (simp_all)
                      case r9 => intro h hh; cases hh
                · replace hb32 := eqT hb32
                  refine ev_nil (hK31 _ ?_); clear hK31
                  refine good_condT rfl ?_
                  refine gr rfl ?_
                  refine em rfl (by conv=>lhs;whnf) ?_
                  refine em rfl (by conv=>lhs;whnf) ?_
                  refine em rfl (by conv=>lhs;whnf) ?_
                  refine ev_q rfl (q_idxO tE22 rfl rfl rfl (by omega) (by omega) rfl ?_)
                  refine ev_k rfl (k_storeE sz2 rfl (by conv=>lhs;whnf) rfl rfl rfl (Nat.le_of_ble_eq_true rfl) rfl (by exact lbR_get (by omega) (by omega)) (Nat.le_of_ble_eq_true rfl) rfl ?_)
                  refine ev_nil (hK30 _ ?_); clear hK30
                  refine gr rfl ?_
                  refine em rfl (by conv=>lhs;whnf) ?_
                  refine ei rfl rfl rfl ?_
                  intro n34 hn34
                  replace hn34 := in64 hn34 (by omega) (by omega)
                  refine ea rfl (by conv=>lhs;whnf) ?_
                  refine ev_nil ?_
                  clear hK6 hK10 hK17
                  refine ⟨m + 1, ?_, ?_, ?_⟩
                  · show _ ≤ _; omega
                  · first | omega | (simp only []; omega) | (dsimp only; omega)
                  · refine sub_weak ?_ ?_
                    · exact weakH_row (rowEq (rfl)) (weakH_row (rowEq (by first | (rw [mgL_F (by omega)]; done) | exact mgL_T (by omega) (by omega))) (weakH_none _))
                    · refine weakE_upd ?e9 ?r9 (weakE_upd ?e8 ?r8 (weakE_upd ?e7 ?r7 (weakE_upd ?e6 ?r6 (weakE_upd ?e4 ?r4 (weakE_upd ?e3 ?r3 (weakE_upd ?e0 ?r0 (weakE_junk _ _)))))))
                      case e0 => first | rfl | exact fI (by omega) | (simp_all)
                      case r0 => intro h hh; cases hh
                      case e3 => first | rfl | exact fI (by omega) | (first | rfl | exact ownEq (by simp))
                      case r3 => intro h hh; simp [refs] at hh; subst hh; rfl
                      case e4 => first | rfl | exact fI (by omega) | (simp_all)
                      case r4 => intro h hh; simp [refs] at hh; subst hh; rfl
                      case e6 => first | rfl | exact fI (by omega) | (simp_all)
                      case r6 => intro h hh; cases hh
                      case e7 => first | rfl | exact fI (by omega) | (simp_all)
                      case r7 => intro h hh; cases hh
                      case e8 => first | rfl | exact fI (by omega) | (simp_all)
                      case r8 => intro h hh; cases hh
                      case e9 => first | rfl | exact fI (by omega) | (simp_all)
                      case r9 => intro h hh; cases hh
          · replace hb22 := eqT hb22
            have hte := trL_e hpp (by omega)
            have hto := trO_T hpp (by omega)
            refine ev_nil (hK21 _ ?_); clear hK21
            refine good_condT rfl ?_
            refine good_exit ?_
            repeat first|refine thenQ_exit ?_|refine blockQ_pass rfl ?_
            refine blockQ_exit (hK17 _ ?_); clear hK17
            refine gr rfl ?_
            refine em rfl (by conv=>lhs;whnf) ?_
            refine ei rfl rfl rfl ?_
            intro n35 hn35
            replace hn35 := in64 hn35 (by omega) (by omega)
            refine ea rfl (by conv=>lhs;whnf) ?_
            refine ev_nil ?_
            clear hK6 hK10 hK20
            refine ⟨i + 1, ?_, ?_, ?_⟩
            · show _ ≤ _; omega
            · first | omega | (simp only []; omega) | (dsimp only; omega)
            · refine sub_weak ?_ ?_
              · exact weakH_row (rowEq (by first | (rw [hto]; done) | (rw [hto, List.map_append]; rfl))) (weakH_row (rowEq (by first | (rw [hte.1]; done) | (rw [show m = ns.length by omega]; exact mgL_end.trans hts.1))) (weakH_none _))
              · refine weakE_upd ?e6 ?r6 (weakE_upd ?e4 ?r4 (weakE_upd ?e3 ?r3 (weakE_upd ?e0 ?r0 (weakE_junk _ _))))
                case e0 => first | rfl | exact fI (by omega) | (simp_all)
                case r0 => intro h hh; cases hh
                case e3 => first | rfl | exact fI (by omega) | (first | rfl | (rw [hto]; done) | (rw [hto]; exact ownEq (by simp)))
                case r3 => intro h hh; simp [refs] at hh; subst hh; rfl
                case e4 => first | rfl | exact fI (by omega) | (first | rfl | exact ownEq (by omega))
                case r4 => intro h hh; simp [refs] at hh; subst hh; rfl
                case e6 => first | rfl | exact fI (by omega) | (simp_all)
                case r6 => intro h hh; cases hh
    · replace hb9 := dT hb9
      refine ev_nil (hK7 _ ?_); clear hK7
      refine good_condT rfl ?_
      refine good_skip (hK6 _ ?_); clear hK6
      refine good_seq fun K36 hK36 => ?_
      refine good_block ?_
      refine gr rfl ?_
      refine em rfl (by conv=>lhs;whnf) ?_
      refine em rfl (by conv=>lhs;whnf) ?_
      refine ev_k rfl (k_lit tE22 zA2 rfl rfl (by decide) (by decide) rfl rfl rfl ?_)
      refine ev_k rfl (k_app tApp22 rfl rfl (by first | (simp; done) | (simp [lbR_len]; done)) rfl (.inr rfl) (by first | (simp [maxLen]; omega) | (simp [maxLen, lbR_len]; omega)) (by first | (simp; omega) | (simp [lbR_len]; omega)) ?_)
      refine ea rfl (by conv=>lhs;whnf) ?_
      refine ev_nil (hK36 _ ?_); clear hK36
      refine gr rfl ?_
      refine em rfl (by conv=>lhs;whnf) ?_
      refine ei rfl rfl rfl ?_
      intro n37 hn37
      replace hn37 := in64 hn37 (by omega) (by omega)
      refine ea rfl (by conv=>lhs;whnf) ?_
      refine ev_nil ?_
      clear hK4
      refine ⟨j + 1, ?_, ?_, ?_⟩
      · show _ ≤ _; omega
      · first | omega | (simp only []; omega) | (dsimp only; omega)
      · refine sub_weak ?_ ?_
        · exact weakH_row (rowEq (rfl)) (weakH_row (rowEq (lbR_s)) (weakH_none _))
        · refine weakE_upd ?e5 ?r5 (weakE_upd ?e4 ?r4 (weakE_upd ?e3 ?r3 (weakE_upd ?e0 ?r0 (weakE_junk _ _))))
          case e0 => first | rfl | exact fI (by omega) | (simp_all)
          case r0 => intro h hh; cases hh
          case e3 => first | rfl | exact fI (by omega) | (simp_all)
          case r3 => intro h hh; simp [refs] at hh; subst hh; rfl
          case e4 => first | rfl | exact fI (by omega) | (first | rfl | exact ownEq (by simp [lbR]))
          case r4 => intro h hh; simp [refs] at hh; subst hh; rfl
          case e5 => first | rfl | exact fI (by omega) | (simp_all)
          case r5 => intro h hh; cases hh

theorem D_sort_X (xs : List Int) (hx : xs.length ≤ 1000000) : DenX Tryz.prog 110 [(1000000, .row 2 1 (xs.map ci))] [.own 1000000 xs.length] [(1000000, .row 2 1 ((srtI xs).map ci))] (.tup []) :=
  denX_sort ⟨_, Tryz.func110, rfl, rfl⟩ (fun blk cap zs w hH hb hs => AnyM.slices_Sort_int Tryz.sortI blk 0 cap zs w hH hb hs) (fun p cap w => AnyM.slices_Sort_int_none Tryz.sortI p cap w) (by omega)

-- slices.Index[[]int64,int64]
theorem D_slices_Index_int64_int64 (x : Int) (xs : List Int) (hx : xs.length ≤ 17592186044416) : Den Tryz.prog 116 [.lst 1 (xs.map ci), .s (.int .i64 x)] (.s (.int .i64 (fiM (fun y => decide (x = y)) xs))) := by
  refine den_of_good Tryz.func116 (by decide) rfl (Nat.le_of_ble_eq_true rfl) (Nat.le_of_ble_eq_true rfl) ?_
  refine good_seq fun K1 hK1 => ?_
  refine gr rfl ?_
  refine ea rfl (by conv=>lhs;whnf) ?_
  refine ev_nil (hK1 _ ?_); clear hK1
  refine good_seq fun K2 hK2 => ?_
  refine good_seq fun K3 hK3 => ?_
  refine gr rfl ?_
  refine em rfl (by conv=>lhs;whnf) ?_
  refine ev_q rfl (q_len tEs22 rfl ?_)
  intro n4 hn4
  try simp only [List.length_map] at hn4
  refine em rfl (by conv=>lhs;whnf) ?_
  refine ev_nil (hK3 _ ?_); clear hK3
  refine good_block ?_
  refine good_loop (α := Nat) (fun i => { env := upd (upd (upd (upd ((fun _ => .junk)) 0 (.lst 1 (xs.map ci))) 1 (.s (.int .i64 x))) 7 (.s (.int .i64 ((xs.length : Int))))) 8 (.s (.int .i64 i)), H := fun _ => none }) (fun i => i ≤ xs.length ∧ ∀ j q, j < i → xs[j]? = some q → ¬ x = q) (fun i => xs.length - i) 0 ?_ ?_ ?_
  · exact ⟨by omega, fun j u hj => by omega⟩
  · refine sub_weak ?_ ?_
    · exact weakH_none _
    · refine weakE_upd ?e8 ?r8 (weakE_upd ?e7 ?r7 (weakE_upd ?e1 ?r1 (weakE_upd ?e0 ?r0 (weakE_junk _ _))))
      case e0 => first | rfl | exact fI (by omega) | (simp_all)
      case r0 => intro h hh; cases hh
      case e1 => first | rfl | exact fI (by omega) | (simp_all)
      case r1 => intro h hh; cases hh
      case e7 => first | rfl | exact fI (by omega) | (simp_all)
      case r7 => intro h hh; cases hh
      case e8 => first | rfl | exact fI (by omega) | (simp_all)
      case r8 => intro h hh; cases hh
  · rintro i ⟨hI, hJ⟩
    refine good_seq fun K5 hK5 => ?_
    refine gr rfl ?_
    refine ei rfl rfl rfl ?_
    intro b6 hb6; cases b6
    · replace hb6 := dF hb6
      refine ev_nil (hK5 _ ?_); clear hK5
      refine good_seq fun K7 hK7 => ?_
      refine good_condF rfl ?_
      refine good_exit ?_
      repeat first|refine thenQ_exit ?_|refine blockQ_pass rfl ?_
      refine blockQ_exit (hK2 _ ?_); clear hK2
      refine good_seq fun K8 hK8 => ?_
      refine gr rfl ?_
      refine ea rfl (by conv=>lhs;whnf) ?_
      refine ev_nil (hK8 _ ?_); clear hK8
      refine good_ret ?_
      repeat first|refine thenQ_ret ?_|refine blockQ_ret ?_
      refine ret_tmp (st := _) rfl (by conv=>lhs;whnf) rfl ?_
      clear hK7
      first | exact fI (by have e := fi_some (p := fun y => x = y) (i := i) hq hJ (by omega); simp only [fiM, e]) | exact fI (by have e := fi_none (p := fun y => x = y) (all_finI (Q := fun _ q => ¬ x = q) hJ (by omega)); simp only [fiM, e])
    · replace hb6 := dT hb6
      obtain ⟨q, hq⟩ := getL (xs := xs) (n := (i : Int)) (by omega) (by omega)
      replace hq : xs[i]? = some q := hq
      refine ev_nil (hK5 _ ?_); clear hK5
      refine good_seq fun K9 hK9 => ?_
      refine good_condT rfl ?_
      refine good_skip (hK9 _ ?_); clear hK9
      refine good_seq fun K10 hK10 => ?_
      refine good_block ?_
      refine good_seq fun K11 hK11 => ?_
      refine gr rfl ?_
      refine em rfl (by conv=>lhs;whnf) ?_
      refine ea rfl (by conv=>lhs;whnf) ?_
      refine ev_nil (hK11 _ ?_); clear hK11
      refine good_seq fun K12 hK12 => ?_
      refine gr rfl ?_
      refine em rfl (by conv=>lhs;whnf) ?_
      refine em rfl (by conv=>lhs;whnf) ?_
      refine em rfl (by conv=>lhs;whnf) ?_
      refine ev_q rfl (q_idx tE22 rfl rfl (by exact Int.natCast_nonneg _) (by exact map_get hq) rfl ?_)
      refine ev_q rfl (q_load tA2 rfl ?_)
      refine ei rfl rfl rfl ?_
      intro b13 hb13; cases b13
      · replace hb13 := eqF hb13
        refine ev_nil (hK12 _ ?_); clear hK12
        refine good_condF rfl ?_
        refine good_skip (hK10 _ ?_); clear hK10
        refine gr rfl ?_
        refine ei rfl rfl rfl ?_
        intro n14 hn14
        replace hn14 := in64 hn14 (by omega) (by omega)
        refine em rfl (by conv=>lhs;whnf) ?_
        refine ev_nil ?_
        clear hK2
        refine ⟨i + 1, ?_, ?_, ?_⟩
        · exact ⟨by omega, all_extI (Q := fun _ q => ¬ x = q) hJ hq (by omega)⟩
        · first | omega | (simp only []; omega) | (dsimp only; omega)
        · refine sub_weak ?_ ?_
          · exact weakH_none _
          · refine weakE_upd ?e8 ?r8 (weakE_upd ?e7 ?r7 (weakE_upd ?e1 ?r1 (weakE_upd ?e0 ?r0 (weakE_junk _ _))))
            case e0 => first | rfl | exact fI (by omega) | (simp_all)
            case r0 => intro h hh; cases hh
            case e1 => first | rfl | exact fI (by omega) | (simp_all)
            case r1 => intro h hh; cases hh
            case e7 => first | rfl | exact fI (by omega) | (simp_all)
            case r7 => intro h hh; cases hh
            case e8 => first | rfl | exact fI (by omega) | (simp_all)
            case r8 => intro h hh; cases hh
      · replace hb13 := eqT hb13
        refine ev_nil (hK12 _ ?_); clear hK12
        refine good_condT rfl ?_
        refine good_seq fun K15 hK15 => ?_
        refine gr rfl ?_
        refine em rfl (by conv=>lhs;whnf) ?_
        refine ea rfl (by conv=>lhs;whnf) ?_
        refine ev_nil (hK15 _ ?_); clear hK15
        refine good_ret ?_
        repeat first|refine thenQ_ret ?_|refine blockQ_ret ?_
        refine ret_tmp (st := _) rfl (by conv=>lhs;whnf) rfl ?_
        clear hK2 hK10
        first | exact fI (by have e := fi_some (p := fun y => x = y) (i := i) hq hJ (by omega); simp only [fiM, e]) | exact fI (by have e := fi_none (p := fun y => x = y) (all_finI (Q := fun _ q => ¬ x = q) hJ (by omega)); simp only [fiM, e])

-- slices.Index[[]int64,int64]
theorem D_slices_Index_N (x : Int)  : Den Tryz.prog 116 [.nil, .s (.int .i64 x)] (.s (.int .i64 (-1))) := by
  refine den_of_good Tryz.func116 (by decide) rfl (Nat.le_of_ble_eq_true rfl) (Nat.le_of_ble_eq_true rfl) ?_
  refine good_seq fun K1 hK1 => ?_
  refine gr rfl ?_
  refine ea rfl (by conv=>lhs;whnf) ?_
  refine ev_nil (hK1 _ ?_); clear hK1
  refine good_seq fun K2 hK2 => ?_
  refine good_seq fun K3 hK3 => ?_
  refine gr rfl ?_
  refine em rfl (by conv=>lhs;whnf) ?_
  refine ev_q rfl (q_len tEs22 rfl ?_)
  intro n4 hn4
  try simp only [List.length_map] at hn4
  refine em rfl (by conv=>lhs;whnf) ?_
  refine ev_nil (hK3 _ ?_); clear hK3
  refine good_block ?_
  refine good_loop (α := Nat) (fun i => { env := upd (upd (upd (upd ((fun _ => .junk)) 0 (.nil)) 1 (.s (.int .i64 x))) 7 (.s (.int .i64 0))) 8 (.s (.int .i64 ((i : Int)))), H := fun _ => none }) (fun i => i = 0) (fun i => 0) 0 ?_ ?_ ?_
  · rfl
  · refine sub_weak ?_ ?_
    · exact weakH_none _
    · refine weakE_upd ?e8 ?r8 (weakE_upd ?e7 ?r7 (weakE_upd ?e1 ?r1 (weakE_upd ?e0 ?r0 (weakE_junk _ _))))
      case e0 => first | rfl | exact fI (by omega) | (simp_all)
      case r0 => intro h hh; cases hh
      case e1 => first | rfl | exact fI (by omega) | (simp_all)
      case r1 => intro h hh; cases hh
      case e7 => first | rfl | exact fI (by omega) | (simp_all)
      case r7 => intro h hh; cases hh
      case e8 => first | rfl | exact fI (by omega) | (simp_all)
      case r8 => intro h hh; cases hh
  · rintro i hI
    refine good_seq fun K5 hK5 => ?_
    refine gr rfl ?_
    refine ei rfl rfl rfl ?_
    intro b6 hb6; cases b6
    rotate_left
    · replace hb6 := dT hb6
      exfalso; omega
    replace hb6 := dF hb6
    refine ev_nil (hK5 _ ?_); clear hK5
    refine good_seq fun K7 hK7 => ?_
    refine good_condF rfl ?_
    refine good_exit ?_
    repeat first|refine thenQ_exit ?_|refine blockQ_pass rfl ?_
    refine blockQ_exit (hK2 _ ?_); clear hK2
    refine good_seq fun K8 hK8 => ?_
    refine gr rfl ?_
    refine ea rfl (by conv=>lhs;whnf) ?_
    refine ev_nil (hK8 _ ?_); clear hK8
    refine good_ret ?_
    repeat first|refine thenQ_ret ?_|refine blockQ_ret ?_
    refine ret_tmp (st := _) rfl (by conv=>lhs;whnf) rfl ?_
    clear hK7
    first | rfl | (exfalso; omega)

-- slices.Contains[[]int64,int64]
theorem D_slices_Contains_int64_int64 (x : Int) (xs : List Int) (hx : xs.length ≤ 17592186044416) : Den Tryz.prog 109 [.lst 1 (xs.map ci), .s (.int .i64 x)] (.s (.bool (decide (x ∈ xs)))) := by
  refine den_of_good Tryz.func109 (by decide) rfl (Nat.le_of_ble_eq_true rfl) (Nat.le_of_ble_eq_true rfl) ?_
  refine good_seq fun K1 hK1 => ?_
  refine gr rfl ?_
  refine ea rfl (by conv=>lhs;whnf) ?_
  refine ev_nil (hK1 _ ?_); clear hK1
  refine good_seq fun K2 hK2 => ?_
  refine gr rfl ?_
  refine em rfl (by conv=>lhs;whnf) ?_
  refine em rfl (by conv=>lhs;whnf) ?_
  refine ev_q rfl (q_callI rfl rfl (rfl) (D_slices_Index_int64_int64 x xs hx) ?_)
  intro n3 hn3
  refine ei rfl rfl rfl ?_
  intro b4 hb4; cases b4
  · replace hb4 := dF hb4
    refine ea rfl (by conv=>lhs;whnf) ?_
    refine ev_nil (hK2 _ ?_); clear hK2
    refine good_ret ?_
    repeat first|refine thenQ_ret ?_|refine blockQ_ret ?_
    refine ret_tmp (st := _) rfl (by conv=>lhs;whnf) rfl ?_
    first | exact fT (has_iff.1 (by omega)) | exact fF (fun h => absurd (has_iff.2 h) (by omega))
  · replace hb4 := dT hb4
    refine ea rfl (by conv=>lhs;whnf) ?_
    refine ev_nil (hK2 _ ?_); clear hK2
    refine good_ret ?_
    repeat first|refine thenQ_ret ?_|refine blockQ_ret ?_
    refine ret_tmp (st := _) rfl (by conv=>lhs;whnf) rfl ?_
    first | exact fT (has_iff.1 (by omega)) | exact fF (fun h => absurd (has_iff.2 h) (by omega))

-- slices.Contains[[]int64,int64]
theorem D_slices_Contains_N (x : Int)  : Den Tryz.prog 109 [.nil, .s (.int .i64 x)] (.s (.bool false)) := by
  refine den_of_good Tryz.func109 (by decide) rfl (Nat.le_of_ble_eq_true rfl) (Nat.le_of_ble_eq_true rfl) ?_
  refine good_seq fun K1 hK1 => ?_
  refine gr rfl ?_
  refine ea rfl (by conv=>lhs;whnf) ?_
  refine ev_nil (hK1 _ ?_); clear hK1
  refine good_seq fun K2 hK2 => ?_
  refine gr rfl ?_
  refine em rfl (by conv=>lhs;whnf) ?_
  refine em rfl (by conv=>lhs;whnf) ?_
  refine ev_q rfl (q_callI rfl rfl (rfl) (D_slices_Index_N x) ?_)
  intro n3 hn3
  refine ei rfl rfl rfl ?_
  intro b4 hb4; cases b4
  · replace hb4 := dF hb4
    refine ea rfl (by conv=>lhs;whnf) ?_
    refine ev_nil (hK2 _ ?_); clear hK2
    refine good_ret ?_
    repeat first|refine thenQ_ret ?_|refine blockQ_ret ?_
    refine ret_tmp (st := _) rfl (by conv=>lhs;whnf) rfl ?_
    first | rfl | (exfalso; omega)
  · replace hb4 := dT hb4
    refine ea rfl (by conv=>lhs;whnf) ?_
    refine ev_nil (hK2 _ ?_); clear hK2
    refine good_ret ?_
    repeat first|refine thenQ_ret ?_|refine blockQ_ret ?_
    refine ret_tmp (st := _) rfl (by conv=>lhs;whnf) rfl ?_
    first | rfl | (exfalso; omega)

-- (impl.Pipe).other
theorem D_impl_Pipe_other (s : ByteArray) (fm tt le di lo k : Int)  : Den Tryz.prog 108 [.agg [.s (.string s), .s (.int .i64 fm), .s (.int .i64 tt), .s (.int .i64 le), .s (.int .i64 di), .s (.int .i64 lo)], .s (.int .i64 k)] (.tup [.s (.int .i64 (oth fm tt k)), .s (.bool (decide (k = fm ∨ k = tt)))]) := by
  refine den_of_good Tryz.func108 (by decide) rfl (Nat.le_of_ble_eq_true rfl) (Nat.le_of_ble_eq_true rfl) ?_
  refine good_seq fun K1 hK1 => ?_
  refine gr rfl ?_
  refine ev_k rfl (k_box (by conv=>lhs;whnf) rfl rfl rfl ?_)
  refine ea rfl (by conv=>lhs;whnf) ?_
  refine ea rfl (by conv=>lhs;whnf) ?_
  refine ev_nil (hK1 _ ?_); clear hK1
  refine good_seq fun K2 hK2 => ?_
  refine good_seq fun K3 hK3 => ?_
  refine gr rfl ?_
  refine em rfl (by conv=>lhs;whnf) ?_
  refine ev_nil (hK3 _ ?_); clear hK3
  refine good_block ?_
  refine good_seq fun K4 hK4 => ?_
  refine gr rfl ?_
  refine ev_q rfl (q_fieldAddrP fO95_1 rfl rfl ?_)
  refine ev_q rfl (q_load tA2 rfl ?_)
  refine ei rfl rfl rfl ?_
  intro b5 hb5; cases b5
  · replace hb5 := eqF hb5
    refine ea rfl (by conv=>lhs;whnf) ?_
    refine ev_nil (hK4 _ ?_); clear hK4
    refine good_condF rfl ?_
    refine good_seq fun K6 hK6 => ?_
    refine gr rfl ?_
    refine ev_q rfl (q_fieldAddrP fO95_2 rfl rfl ?_)
    refine ev_q rfl (q_load tA2 rfl ?_)
    refine ei rfl rfl rfl ?_
    intro b7 hb7; cases b7
    · replace hb7 := eqF hb7
      refine ea rfl (by conv=>lhs;whnf) ?_
      refine ev_nil (hK6 _ ?_); clear hK6
      refine good_condF rfl ?_
      refine good_skip (hK2 _ ?_); clear hK2
      refine good_seq fun K8 hK8 => ?_
      refine gr rfl ?_
      refine ea rfl (by conv=>lhs;whnf) ?_
      refine ea rfl (by conv=>lhs;whnf) ?_
      refine ev_nil (hK8 _ ?_); clear hK8
      refine good_ret ?_
      repeat first|refine thenQ_ret ?_|refine blockQ_ret ?_
      refine ret_many rfl ?_
      refine res_tmp (by conv=>lhs;whnf) rfl ?_
      refine res_tmp (by conv=>lhs;whnf) rfl ?_
      refine res_nil ?_
      first | exact fTup1 (fI (by unfold oth; grind)) (fTup1 (fT (by omega)) rfl) | exact fTup1 (fI (by unfold oth; grind)) (fTup1 (fF (by omega)) rfl)
    · replace hb7 := eqT hb7
      refine ea rfl (by conv=>lhs;whnf) ?_
      refine ev_nil (hK6 _ ?_); clear hK6
      refine good_condT rfl ?_
      refine good_seq fun K9 hK9 => ?_
      refine gr rfl ?_
      refine ev_q rfl (q_fieldAddrP fO95_1 rfl rfl ?_)
      refine ev_q rfl (q_load tA2 rfl ?_)
      refine ea rfl (by conv=>lhs;whnf) ?_
      refine ea rfl (by conv=>lhs;whnf) ?_
      refine ev_nil (hK9 _ ?_); clear hK9
      refine good_ret ?_
      repeat first|refine thenQ_ret ?_|refine blockQ_ret ?_
      refine ret_many rfl ?_
      refine res_tmp (by conv=>lhs;whnf) rfl ?_
      refine res_tmp (by conv=>lhs;whnf) rfl ?_
      refine res_nil ?_
      clear hK2
      first | exact fTup1 (fI (by unfold oth; grind)) (fTup1 (fT (by omega)) rfl) | exact fTup1 (fI (by unfold oth; grind)) (fTup1 (fF (by omega)) rfl)
  · replace hb5 := eqT hb5
    refine ea rfl (by conv=>lhs;whnf) ?_
    refine ev_nil (hK4 _ ?_); clear hK4
    refine good_condT rfl ?_
    refine good_seq fun K10 hK10 => ?_
    refine gr rfl ?_
    refine ev_q rfl (q_fieldAddrP fO95_2 rfl rfl ?_)
    refine ev_q rfl (q_load tA2 rfl ?_)
    refine ea rfl (by conv=>lhs;whnf) ?_
    refine ea rfl (by conv=>lhs;whnf) ?_
    refine ev_nil (hK10 _ ?_); clear hK10
    refine good_ret ?_
    repeat first|refine thenQ_ret ?_|refine blockQ_ret ?_
    refine ret_many rfl ?_
    refine res_tmp (by conv=>lhs;whnf) rfl ?_
    refine res_tmp (by conv=>lhs;whnf) rfl ?_
    refine res_nil ?_
    clear hK2
    first | exact fTup1 (fI (by unfold oth; grind)) (fTup1 (fT (by omega)) rfl) | exact fTup1 (fI (by unfold oth; grind)) (fTup1 (fF (by omega)) rfl)

-- (impl.Network).reached
theorem D_impl_Network_reached (ns : List Int) (ps : List Pi) (s : Int) (hn : ns.length ≤ 17592186044416) (hp : ps.length ≤ 2513169434843) (hz : idSz ps) (ok : netOk ns ps) (hs : 0 ≤ s ∧ s < ns.length) : DenX Tryz.prog 83 [] [.agg [.lst 1 (ns.map ci), .lst 6 (ps.map piA)], .s (.int .i64 s), .nil] [(900001, .row 2 1 ((srtI (toI (found (ps.map pe) ns.length s.toNat))).map ci))] (.own 900001 (toI (found (ps.map pe) ns.length s.toNat)).length) := by
  have h16 := ok.1.1
  have h20 := ok.1.2.2
  have hlt := esF_lt ok
  refine denX_of_good Tryz.func83 (by decide) rfl (Nat.le_of_ble_eq_true rfl) (Nat.le_of_ble_eq_true rfl) rfl ?_
  refine good_seq fun K1 hK1 => ?_
  refine gr rfl ?_
  refine ev_k rfl (k_box (by conv=>lhs;whnf) rfl rfl rfl ?_)
  refine ea rfl (by conv=>lhs;whnf) ?_
  refine ev_nil (hK1 _ ?_); clear hK1
  refine good_seq fun K2 hK2 => ?_
  refine gr rfl ?_
  refine em rfl (by conv=>lhs;whnf) ?_
  refine ev_k rfl (k_lit tE22 zA2 rfl rfl (by decide) (by decide) rfl rfl rfl ?_)
  refine ea rfl (by conv=>lhs;whnf) ?_
  refine ev_nil (hK2 _ ?_); clear hK2
  refine good_seq fun K3 hK3 => ?_
  refine good_seq fun K4 hK4 => ?_
  refine gr rfl ?_
  refine ea rfl (by conv=>lhs;whnf) ?_
  refine ev_nil (hK4 _ ?_); clear hK4
  refine good_block ?_
  refine good_loop (α := Nat × List Nat) (fun (k, w) => { env := upd (upd (upd (upd ((fun _ => .junk)) 2 (.nil)) 3 (.ptr 3 0)) 7 (.own 54 (toI w).length)) 8 (.s (.int .i64 ((k : Int)))), H := upd (upd ((fun _ => none)) 54 (some (.row 2 1 ((toI w).map ci)))) 3 (some (.box 31 [.lst 1 (ns.map ci), .lst 6 (ps.map piA)])) }) (fun (k, w) => k ≤ w.length ∧ Inv (ps.map pe) ns.length s.toNat w ∧ bfO (ps.map pe) (ns.length - k) k w = found (ps.map pe) ns.length s.toNat) (fun (k, w) => ns.length - k) (0, [s.toNat]) ?_ ?_ ?_
  · exact ⟨by simp, ⟨by simp, fun v hv => by have e : v = s.toNat := (by simpa using hv); rw [e]; omega, fun v hv => by have e : v = s.toNat := (by simpa using hv); rw [e]; exact .rfl _, by simp⟩, rfl⟩
  · refine Sub.trans (sub_move 7 14 54 rfl rfl rfl (by decide)) ?_
    refine sub_weak ?_ ?_
    · exact weakH_box (boxEq (rfl)) rfl (weakH_row (rowEq (by show [ci s] = [ci ((s.toNat : Nat) : Int)]; rw [show ((s.toNat : Nat) : Int) = s by omega])) (weakH_none _))
    · refine weakE_upd ?e8 ?r8 (weakE_upd ?e7 ?r7 (weakE_upd ?e3 ?r3 (weakE_upd ?e2 ?r2 (weakE_junk _ _))))
      case e2 => first | rfl | exact fI (by omega) | (simp_all)
      case r2 => intro h hh; cases hh
      case e3 => first | rfl | exact fI (by omega) | (simp_all)
      case r3 => intro h hh; simp [refs] at hh; subst hh; rfl
      case e7 => first | rfl | exact fI (by omega) | (simp_all)
      case r7 => intro h hh; simp [refs] at hh; subst hh; rfl
      case e8 => first | rfl | exact fI (by omega) | (simp_all)
      case r8 => intro h hh; cases hh
  · rintro ⟨k, w⟩ ⟨hK, hV, hF⟩
    refine good_seq fun K5 hK5 => ?_
    refine good_seq fun K6 hK6 => ?_
    refine gr rfl ?_
    refine em rfl (by conv=>lhs;whnf) ?_
    refine em rfl (by conv=>lhs;whnf) ?_
    refine ev_q rfl (q_len tEs22 rfl ?_)
    intro n7 hn7
    try simp only [List.length_map] at hn7
    refine ei rfl rfl rfl ?_
    intro b8 hb8; cases b8
    · replace hb8 := dF hb8
      have hkl : w.length ≤ k := by rw [toI_len] at *; omega
      have hln := len_le w hV.nd hV.lt
      refine ev_nil (hK6 _ ?_); clear hK6
      refine good_condF rfl ?_
      refine good_exit ?_
      repeat first|refine thenQ_exit ?_|refine blockQ_pass rfl ?_
      refine blockQ_exit (hK3 _ ?_); clear hK3
      refine good_seq fun K9 hK9 => ?_
      refine gr rfl ?_
      refine em rfl (by conv=>lhs;whnf) ?_
      refine ev_k rfl (k_callX [(1000000, 54)] (D_sort_X (toI w) (by rw [toI_len]; omega)) rfl (rfl) (rfl) ⟨rfl, trivial⟩ ⟨rfl, ⟨rfl, rfl, by first | (simp only [List.length_map, srtI_len]; done) | (simp only [List.length_map, srtI_len]; exact Nat.le_refl _)⟩, trivial⟩ rfl rfl rfl ?_)
      refine ev_nil (hK9 _ ?_); clear hK9
      refine good_seq fun K10 hK10 => ?_
      refine gr rfl ?_
      refine em rfl (by conv=>lhs;whnf) ?_
      refine ea rfl (by conv=>lhs;whnf) ?_
      refine ev_nil (hK10 _ ?_); clear hK10
      refine good_weak (sub_move 6 54 900001 rfl rfl rfl (by decide)) ?_
      refine good_ret ?_
      repeat first|refine thenQ_ret ?_|refine blockQ_ret ?_
      refine fx_tmp rfl (by conv=>lhs;whnf) ?_
      clear hK5
      have e : found (ps.map pe) ns.length s.toNat = w := by rw [← hF]; exact bfO_e hkl
      exact ⟨_, conv_eq (by first | rfl | (rw [e]; done) | (rw [e]; rfl) | exact ownEq (by first | omega | simp_all)), weakH_row (rowEq (by first | (rw [e]; done) | (rw [e]; rfl))) (weakH_none _), refsIn_ok rfl⟩
    · replace hb8 := dT hb8
      have hkl : k < w.length := by rw [toI_len] at *; omega
      obtain ⟨u, hu⟩ : ∃ u, w[k]? = some u := ⟨_, List.getElem?_eq_getElem hkl⟩
      have hln := len_le w hV.nd hV.lt
      refine ev_nil (hK6 _ ?_); clear hK6
      refine good_condT rfl ?_
      refine good_skip (hK5 _ ?_); clear hK5
      refine good_seq fun K11 hK11 => ?_
      refine good_block ?_
      refine good_seq fun K12 hK12 => ?_
      refine gr rfl ?_
      refine ev_q rfl (q_fieldAddrP fO31_1 rfl rfl ?_)
      refine ev_q rfl (q_load tA29 rfl ?_)
      refine ev_q rfl (q_len tEs29 rfl ?_)
      intro n13 hn13
      try simp only [List.length_map] at hn13
      refine em rfl (by conv=>lhs;whnf) ?_
      refine ev_nil (hK12 _ ?_); clear hK12
      refine good_block ?_
      refine good_loop (α := Nat × List Nat) (fun (i, v) => { env := upd (upd (upd (upd (upd (upd (upd ((fun _ => .junk)) 2 (.nil)) 3 (.ptr 3 0)) 7 (.own 54 (toI v).length)) 8 (.s (.int .i64 ((k : Int))))) 22 (.lst 6 (ps.map piA))) 23 (.s (.int .i64 ((ps.length : Int))))) 24 (.s (.int .i64 ((i : Int)))), H := upd (upd ((fun _ => none)) 54 (some (.row 2 1 ((toI v).map ci)))) 3 (some (.box 31 [.lst 1 (ns.map ci), .lst 6 (ps.map piA)])) }) (fun (i, v) => i ≤ ps.length ∧ Inv (ps.map pe) ns.length s.toNat v ∧ (∃ t, v = w ++ t) ∧ bfI ((ps.map pe).drop i) u v = bfI (ps.map pe) u w) (fun (i, v) => ps.length - i) (0, w) ?_ ?_ ?_
      · exact ⟨Nat.zero_le _, hV, ⟨[], by simp⟩, rfl⟩
      · refine sub_weak ?_ ?_
        · exact weakH_box (boxEq (rfl)) rfl (weakH_row (rowEq (rfl)) (weakH_none _))
        · refine weakE_upd ?e24 ?r24 (weakE_upd ?e23 ?r23 (weakE_upd ?e22 ?r22 (weakE_upd ?e8 ?r8 (weakE_upd ?e7 ?r7 (weakE_upd ?e3 ?r3 (weakE_upd ?e2 ?r2 (weakE_junk _ _)))))))
          case e2 => first | rfl | exact fI (by omega) | (simp_all)
          case r2 => intro h hh; cases hh
          case e3 => first | rfl | exact fI (by omega) | (simp_all)
          case r3 => intro h hh; simp [refs] at hh; subst hh; rfl
          case e7 => first | rfl | exact fI (by omega) | (first | rfl | exact ownEq (by simp [toI_len]))
          case r7 => intro h hh; simp [refs] at hh; subst hh; rfl
          case e8 => first | rfl | exact fI (by omega) | (simp_all)
          case r8 => intro h hh; cases hh
          case e22 => first | rfl | exact fI (by omega) | (simp_all)
          case r22 => intro h hh; cases hh
          case e23 => first | rfl | exact fI (by omega) | (simp_all)
          case r23 => intro h hh; cases hh
          case e24 => first | rfl | exact fI (by omega) | (simp_all)
          case r24 => intro h hh; cases hh
      · rintro ⟨i, v⟩ ⟨hI, hW, hP, hB⟩
        refine good_seq fun K14 hK14 => ?_
        refine gr rfl ?_
        refine ei rfl rfl rfl ?_
        intro b15 hb15; cases b15
        · replace hb15 := dF hb15
          refine ev_nil (hK14 _ ?_); clear hK14
          refine good_seq fun K16 hK16 => ?_
          refine good_condF rfl ?_
          refine good_exit ?_
          repeat first|refine thenQ_exit ?_|refine blockQ_pass rfl ?_
          refine blockQ_exit (hK11 _ ?_); clear hK11
          refine gr rfl ?_
          refine em rfl (by conv=>lhs;whnf) ?_
          refine ei rfl rfl rfl ?_
          intro n17 hn17
          replace hn17 := in64 hn17 (by omega) (by omega)
          refine ea rfl (by conv=>lhs;whnf) ?_
          refine ev_nil ?_
          clear hK3 hK16
          refine ⟨(k + 1, v), ?_, ?_, ?_⟩
          · refine ⟨?_, hW, ?_⟩
            · obtain ⟨t, ht⟩ := hP
              have := congrArg List.length ht
              rw [List.length_append] at this
              show k + 1 ≤ v.length; omega
            · show bfO _ _ (k + 1) v = _
              rw [bfI_end (by omega)] at hB
              rw [← hF, bfO_s hu (by omega), hB]
          · first | omega | (dsimp only; omega)
          · refine sub_weak ?_ ?_
            · exact weakH_box (boxEq (rfl)) rfl (weakH_row (rowEq (rfl)) (weakH_none _))
            · refine weakE_upd ?e8 ?r8 (weakE_upd ?e7 ?r7 (weakE_upd ?e3 ?r3 (weakE_upd ?e2 ?r2 (weakE_junk _ _))))
              case e2 => first | rfl | exact fI (by omega) | (simp_all)
              case r2 => intro h hh; cases hh
              case e3 => first | rfl | exact fI (by omega) | (simp_all)
              case r3 => intro h hh; simp [refs] at hh; subst hh; rfl
              case e7 => first | rfl | exact fI (by omega) | (simp_all)
              case r7 => intro h hh; simp [refs] at hh; subst hh; rfl
              case e8 => first | rfl | exact fI (by omega) | (simp_all)
              case r8 => intro h hh; cases hh
        · replace hb15 := dT hb15
          obtain ⟨p, hpp⟩ := getL (xs := ps) (n := (i : Int)) (by omega) (by omega)
          replace hpp : ps[i]? = some p := hpp
          have hpo := (ok.2 i p hpp).1
          have hp1 := hpo.1.2.1
          have hp2 := hpo.1.2.2.1
          have hlv := len_le v hW.nd hW.lt
          have hP0 := hP
          obtain ⟨t, ht⟩ := hP
          have hv : v[k]? = some u := by rw [ht, List.getElem?_append_left hkl]; exact hu
          have hbd := bfI_d (u := u) (v := v) hpp
          refine ev_nil (hK14 _ ?_); clear hK14
          refine good_seq fun K18 hK18 => ?_
          refine good_condT rfl ?_
          refine good_skip (hK18 _ ?_); clear hK18
          refine good_seq fun K19 hK19 => ?_
          refine good_block ?_
          refine good_seq fun K20 hK20 => ?_
          refine gr rfl ?_
          refine em rfl (by conv=>lhs;whnf) ?_
          refine ev_q rfl (q_idx tE29 rfl rfl (by exact Int.natCast_nonneg _) (by exact map_get hpp) rfl ?_)
          refine ev_q rfl (q_loadA tA95 rfl rfl rfl ?_)
          refine ev_k rfl (k_alloc zA95 rfl ?_)
          refine ea rfl (by conv=>lhs;whnf) ?_
          refine ev_k rfl (k_store sz95 rfl (by conv=>lhs;whnf) rfl rfl rfl (Nat.le_of_ble_eq_true rfl) rfl ?_)
          refine ev_nil (hK20 _ ?_); clear hK20
          refine good_seq fun K21 hK21 => ?_
          refine good_draw 11 hmix (by kernel_rfl) rfl ?_
          refine qo_q rfl (q_loadA tA95 rfl rfl rfl ?_)
          refine qm rfl (by conv=>lhs;whnf) ?_
          refine qm rfl (by conv=>lhs;whnf) ?_
          refine qo_q rfl (q_idxO tE22 rfl rfl rfl (by exact Int.natCast_nonneg _) (by rw [toI_len]; have := congrArg List.length ht; rw [List.length_append] at this; omega) rfl ?_)
          refine qo_q rfl (q_loadE tA2 rfl rfl (by exact toI_get hv) rfl ?_)
          refine qo_q rfl (q_call rfl rfl (rfl) (D_impl_Pipe_other ..) rfl ?_)
          refine qm rfl (by conv=>lhs;whnf) ?_
          refine qo_q rfl (q_extractI rfl rfl ?_)
          intro n22 hn22
          refine qo_q rfl (q_extractB rfl rfl ?_)
          intro b23 hb23; cases b23
          · first | replace hb23 := dF hb23 | skip
            refine qa rfl (by conv=>lhs;whnf) ?_
            refine qa rfl (by conv=>lhs;whnf) ?_
            refine qo_nil ?_
            refine ev_nil (hK21 _ ?_); clear hK21
            refine good_seq fun K24 hK24 => ?_
            refine gr rfl ?_
            refine em rfl (by conv=>lhs;whnf) ?_
            refine em rfl (by conv=>lhs;whnf) ?_
            refine ev_skip rfl ?_
            refine ev_skip rfl ?_
            refine ev_skip rfl ?_
            refine ev_skip rfl ?_
            refine ev_q rfl (q_pickF rfl (by conv=>lhs;whnf) ?_)
            refine em rfl (by conv=>lhs;whnf) ?_
            refine ev_skip rfl ?_
            refine ev_skip rfl ?_
            refine ev_skip rfl ?_
            refine ev_skip rfl ?_
            refine ev_q rfl (q_pickF rfl (by conv=>lhs;whnf) ?_)
            refine ev_nil (hK24 _ ?_); clear hK24
            refine good_condF rfl ?_
            refine good_skip (hK19 _ ?_); clear hK19
            refine gr rfl ?_
            refine ei rfl rfl rfl ?_
            intro n25 hn25
            replace hn25 := in64 hn25 (by omega) (by omega)
            refine em rfl (by conv=>lhs;whnf) ?_
            refine ev_nil ?_
            clear hK3 hK11
            refine ⟨(i + 1, v), ?_, ?_, ?_⟩
            · refine ⟨by first | omega | (dsimp only; omega), hW, hP0, ?_⟩
              show bfI _ u v = _
              first | (have hE := bfE_F (v := v) (oth_n (p := p) (u := u) (by omega) (by omega) (by assumption)); rw [hE] at hbd; exact hbd.symm.trans hB) | (have hox := oth_y (p := p) (u := u) (by omega) (by omega) (by assumption); rw [← hn22] at hox; have hE := bfE_M hox.1 ((toI_mem hox.2).1 (by assumption)); rw [hE] at hbd; exact hbd.symm.trans hB) | (exfalso; contradiction) | (exfalso; simp_all; done)
            · first | omega | (dsimp only; omega)
            · refine sub_weak ?_ ?_
              · exact weakH_box (boxEq (rfl)) rfl (weakH_row (rowEq (by first | rfl | exact toI_app hox.2)) (weakH_none _))
              · refine weakE_upd ?e24 ?r24 (weakE_upd ?e23 ?r23 (weakE_upd ?e22 ?r22 (weakE_upd ?e8 ?r8 (weakE_upd ?e7 ?r7 (weakE_upd ?e3 ?r3 (weakE_upd ?e2 ?r2 (weakE_junk _ _)))))))
                case e2 => first | rfl | exact fI (by omega) | (simp_all)
                case r2 => intro h hh; cases hh
                case e3 => first | rfl | exact fI (by omega) | (simp_all)
                case r3 => intro h hh; simp [refs] at hh; subst hh; rfl
                case e7 => first | rfl | exact fI (by omega) | (first | rfl | exact ownEq (by simp [toI_len]))
                case r7 => intro h hh; simp [refs] at hh; subst hh; rfl
                case e8 => first | rfl | exact fI (by omega) | (simp_all)
                case r8 => intro h hh; cases hh
                case e22 => first | rfl | exact fI (by omega) | (simp_all)
                case r22 => intro h hh; cases hh
                case e23 => first | rfl | exact fI (by omega) | (simp_all)
                case r23 => intro h hh; cases hh
                case e24 => first | rfl | exact fI (by omega) | (simp_all)
                case r24 => intro h hh; cases hh
          · first | replace hb23 := dT hb23 | skip
            refine qa rfl (by conv=>lhs;whnf) ?_
            refine qa rfl (by conv=>lhs;whnf) ?_
            refine qo_nil ?_
            refine ev_nil (hK21 _ ?_); clear hK21
            refine good_seq fun K26 hK26 => ?_
            refine gr rfl ?_
            refine em rfl (by conv=>lhs;whnf) ?_
            refine em rfl (by conv=>lhs;whnf) ?_
            refine em rfl (by conv=>lhs;whnf) ?_
            refine em rfl (by conv=>lhs;whnf) ?_
            refine ev_q rfl (q_callB rfl rfl (rfl) (D_slices_Contains_N _) ?_)
            intro b27 hb27; cases b27
            · first | replace hb27 := dF hb27 | skip
              refine ev_q rfl (q_not rfl rfl ?_)
              refine ev_q rfl (q_pickT rfl (by conv=>lhs;whnf) ?_)
              refine em rfl (by conv=>lhs;whnf) ?_
              refine em rfl (by conv=>lhs;whnf) ?_
              refine em rfl (by conv=>lhs;whnf) ?_
              refine ev_q rfl (q_callB rfl rfl (by change ([.lst 1 (List.take (toI v).length ((toI v).map ci)), .s (.int .i64 (n22))] : List AV) = _; rw [takeMap]) (D_slices_Contains_int64_int64 _ (toI v) (by rw [toI_len]; omega)) ?_)
              intro b28 hb28; cases b28
              · first | replace hb28 := dF hb28 | skip
                refine ev_q rfl (q_not rfl rfl ?_)
                refine ev_q rfl (q_pickT rfl (by conv=>lhs;whnf) ?_)
                refine ev_nil (hK26 _ ?_); clear hK26
                refine good_condT rfl ?_
                refine gr rfl ?_
                refine em rfl (by conv=>lhs;whnf) ?_
                refine em rfl (by conv=>lhs;whnf) ?_
                have hox := oth_y (p := p) (u := u) (by omega) (by omega) (by assumption)
                rw [← hn22] at hox
                have hnm : ¬ n22.toNat ∈ v := fun h => absurd ((toI_mem hox.2).2 h) (by assumption)
                have hE := bfE_T hox.1 hnm
                have hiN := bfE_inv (hlt (pe p) (List.mem_map_of_mem (List.mem_of_getElem? hpp))) (List.mem_map_of_mem (List.mem_of_getElem? hpp)) (List.mem_of_getElem? hv) hW
                rw [hE] at hiN hbd
                have hpN : ∃ t, v ++ [n22.toNat] = w ++ t := ⟨t ++ [n22.toNat], by rw [ht, List.append_assoc]⟩
                have hbN := hbd.symm.trans hB
                refine ev_k rfl (k_lit tE22 zA2 rfl rfl (by decide) (by decide) rfl rfl rfl ?_)
                refine ev_k rfl (k_app tApp22 rfl rfl (by first | (simp; done) | (simp [toI_len]; done)) rfl (.inr rfl) (by first | (simp [maxLen]; omega) | (simp [maxLen, toI_len]; omega)) (by first | (simp; omega) | (simp [toI_len]; omega)) ?_)
                refine ea rfl (by conv=>lhs;whnf) ?_
                refine ev_nil (hK19 _ ?_); clear hK19
                refine gr rfl ?_
                refine ei rfl rfl rfl ?_
                intro n29 hn29
                replace hn29 := in64 hn29 (by omega) (by omega)
                refine em rfl (by conv=>lhs;whnf) ?_
                refine ev_nil ?_
                clear hK3 hK11
                refine ⟨(i + 1, v ++ [n22.toNat]), ?_, ?_, ?_⟩
                · exact ⟨by first | omega | (dsimp only; omega), hiN, hpN, hbN⟩
                · first | omega | (dsimp only; omega)
                · refine sub_weak ?_ ?_
                  · exact weakH_box (boxEq (rfl)) rfl (weakH_row (rowEq (by first | rfl | exact toI_app hox.2)) (weakH_none _))
                  · refine weakE_upd ?e24 ?r24 (weakE_upd ?e23 ?r23 (weakE_upd ?e22 ?r22 (weakE_upd ?e8 ?r8 (weakE_upd ?e7 ?r7 (weakE_upd ?e3 ?r3 (weakE_upd ?e2 ?r2 (weakE_junk _ _)))))))
                    case e2 => first | rfl | exact fI (by omega) | (simp_all)
                    case r2 => intro h hh; cases hh
                    case e3 => first | rfl | exact fI (by omega) | (simp_all)
                    case r3 => intro h hh; simp [refs] at hh; subst hh; rfl
                    case e7 => first | rfl | exact fI (by omega) | (first | rfl | exact ownEq (by simp [toI_len]))
                    case r7 => intro h hh; simp [refs] at hh; subst hh; rfl
                    case e8 => first | rfl | exact fI (by omega) | (simp_all)
                    case r8 => intro h hh; cases hh
                    case e22 => first | rfl | exact fI (by omega) | (simp_all)
                    case r22 => intro h hh; cases hh
                    case e23 => first | rfl | exact fI (by omega) | (simp_all)
                    case r23 => intro h hh; cases hh
                    case e24 => first | rfl | exact fI (by omega) | (simp_all)
                    case r24 => intro h hh; cases hh
              · first | replace hb28 := dT hb28 | skip
                refine ev_q rfl (q_not rfl rfl ?_)
                refine ev_q rfl (q_pickT rfl (by conv=>lhs;whnf) ?_)
                refine ev_nil (hK26 _ ?_); clear hK26
                refine good_condF rfl ?_
                refine good_skip (hK19 _ ?_); clear hK19
                refine gr rfl ?_
                refine ei rfl rfl rfl ?_
                intro n30 hn30
                replace hn30 := in64 hn30 (by omega) (by omega)
                refine em rfl (by conv=>lhs;whnf) ?_
                refine ev_nil ?_
                clear hK3 hK11
                refine ⟨(i + 1, v), ?_, ?_, ?_⟩
                · refine ⟨by first | omega | (dsimp only; omega), hW, hP0, ?_⟩
                  show bfI _ u v = _
                  first | (have hE := bfE_F (v := v) (oth_n (p := p) (u := u) (by omega) (by omega) (by assumption)); rw [hE] at hbd; exact hbd.symm.trans hB) | (have hox := oth_y (p := p) (u := u) (by omega) (by omega) (by assumption); rw [← hn22] at hox; have hE := bfE_M hox.1 ((toI_mem hox.2).1 (by assumption)); rw [hE] at hbd; exact hbd.symm.trans hB) | (exfalso; contradiction) | (exfalso; simp_all; done)
                · first | omega | (dsimp only; omega)
                · refine sub_weak ?_ ?_
                  · exact weakH_box (boxEq (rfl)) rfl (weakH_row (rowEq (by first | rfl | exact toI_app hox.2)) (weakH_none _))
                  · refine weakE_upd ?e24 ?r24 (weakE_upd ?e23 ?r23 (weakE_upd ?e22 ?r22 (weakE_upd ?e8 ?r8 (weakE_upd ?e7 ?r7 (weakE_upd ?e3 ?r3 (weakE_upd ?e2 ?r2 (weakE_junk _ _)))))))
                    case e2 => first | rfl | exact fI (by omega) | (simp_all)
                    case r2 => intro h hh; cases hh
                    case e3 => first | rfl | exact fI (by omega) | (simp_all)
                    case r3 => intro h hh; simp [refs] at hh; subst hh; rfl
                    case e7 => first | rfl | exact fI (by omega) | (first | rfl | exact ownEq (by simp [toI_len]))
                    case r7 => intro h hh; simp [refs] at hh; subst hh; rfl
                    case e8 => first | rfl | exact fI (by omega) | (simp_all)
                    case r8 => intro h hh; cases hh
                    case e22 => first | rfl | exact fI (by omega) | (simp_all)
                    case r22 => intro h hh; cases hh
                    case e23 => first | rfl | exact fI (by omega) | (simp_all)
                    case r23 => intro h hh; cases hh
                    case e24 => first | rfl | exact fI (by omega) | (simp_all)
                    case r24 => intro h hh; cases hh
            · first | replace hb27 := dT hb27 | skip
              refine ev_q rfl (q_not rfl rfl ?_)
              refine ev_q rfl (q_pickT rfl (by conv=>lhs;whnf) ?_)
              refine em rfl (by conv=>lhs;whnf) ?_
              refine ev_skip rfl ?_
              refine ev_skip rfl ?_
              refine ev_skip rfl ?_
              refine ev_skip rfl ?_
              refine ev_q rfl (q_pickF rfl (by conv=>lhs;whnf) ?_)
              refine ev_nil (hK26 _ ?_); clear hK26
              refine good_condF rfl ?_
              refine good_skip (hK19 _ ?_); clear hK19
              refine gr rfl ?_
              refine ei rfl rfl rfl ?_
              intro n31 hn31
              replace hn31 := in64 hn31 (by omega) (by omega)
              refine em rfl (by conv=>lhs;whnf) ?_
              refine ev_nil ?_
              clear hK3 hK11
              refine ⟨(i + 1, v), ?_, ?_, ?_⟩
              · refine ⟨by first | omega | (dsimp only; omega), hW, hP0, ?_⟩
                show bfI _ u v = _
                first | (have hE := bfE_F (v := v) (oth_n (p := p) (u := u) (by omega) (by omega) (by assumption)); rw [hE] at hbd; exact hbd.symm.trans hB) | (have hox := oth_y (p := p) (u := u) (by omega) (by omega) (by assumption); rw [← hn22] at hox; have hE := bfE_M hox.1 ((toI_mem hox.2).1 (by assumption)); rw [hE] at hbd; exact hbd.symm.trans hB) | (exfalso; contradiction) | (exfalso; simp_all; done)
              · first | omega | (dsimp only; omega)
              · refine sub_weak ?_ ?_
                · exact weakH_box (boxEq (rfl)) rfl (weakH_row (rowEq (by first | rfl | exact toI_app hox.2)) (weakH_none _))
                · refine weakE_upd ?e24 ?r24 (weakE_upd ?e23 ?r23 (weakE_upd ?e22 ?r22 (weakE_upd ?e8 ?r8 (weakE_upd ?e7 ?r7 (weakE_upd ?e3 ?r3 (weakE_upd ?e2 ?r2 (weakE_junk _ _)))))))
                  case e2 => first | rfl | exact fI (by omega) | (simp_all)
                  case r2 => intro h hh; cases hh
                  case e3 => first | rfl | exact fI (by omega) | (simp_all)
                  case r3 => intro h hh; simp [refs] at hh; subst hh; rfl
                  case e7 => first | rfl | exact fI (by omega) | (first | rfl | exact ownEq (by simp [toI_len]))
                  case r7 => intro h hh; simp [refs] at hh; subst hh; rfl
                  case e8 => first | rfl | exact fI (by omega) | (simp_all)
                  case r8 => intro h hh; cases hh
                  case e22 => first | rfl | exact fI (by omega) | (simp_all)
                  case r22 => intro h hh; cases hh
                  case e23 => first | rfl | exact fI (by omega) | (simp_all)
                  case r23 => intro h hh; cases hh
                  case e24 => first | rfl | exact fI (by omega) | (simp_all)
                  case r24 => intro h hh; cases hh

-- (impl.Network).isTree
theorem D_impl_Network_isTree (ns : List Int) (ps : List Pi) (hn : ns.length ≤ 17592186044416) (hp : ps.length ≤ 2513169434843) (hz : idSz ps) (ok : netOk ns ps) : Den Tryz.prog 43 [.agg [.lst 1 (ns.map ci), .lst 6 (ps.map piA)]] (.s (.bool (decide (treeP ns ps)))) := by
  have h16 := ok.1.1
  have hfl := found_len (s := (0 : Int).toNat) (esF_lt ok) (show (0 : Int).toNat < ns.length from (show 0 < ns.length by omega))
  have htl := toI_len (ks := found (ps.map pe) ns.length (0 : Int).toNat)
  refine den_of_good Tryz.func43 (by decide) rfl (Nat.le_of_ble_eq_true rfl) (Nat.le_of_ble_eq_true rfl) ?_
  refine good_seq fun K1 hK1 => ?_
  refine gr rfl ?_
  refine ev_k rfl (k_box (by conv=>lhs;whnf) rfl rfl rfl ?_)
  refine ea rfl (by conv=>lhs;whnf) ?_
  refine ev_nil (hK1 _ ?_); clear hK1
  refine good_seq fun K2 hK2 => ?_
  refine good_any 18 (listed := #[false, false, false, false, false, false, false, false, false, false, false, false, false, false, false, false, false, false]) rfl rfl hmix rfl ?_
  refine tn_first_q (i := 0) (listed' := #[true, false, false, false, false, false, false, false, false, false, false, false, false, false, false, false, false, false]) rfl rfl (by kernel_rfl) rfl (q_fieldAddrP fO31_1 rfl rfl ?_)
  refine tn_first_q (i := 1) (listed' := #[true, true, false, false, false, false, false, false, false, false, false, false, false, false, false, false, false, false]) rfl rfl (by kernel_rfl) rfl (q_load tA29 rfl ?_)
  refine tn_first_q (i := 2) (listed' := #[true, true, true, false, false, false, false, false, false, false, false, false, false, false, false, false, false, false]) rfl rfl (by kernel_rfl) rfl (q_len tEs29 rfl ?_)
  intro n3 hn3
  try simp only [List.length_map] at hn3
  refine tn_first_q (i := 3) (listed' := #[true, true, true, true, false, false, false, false, false, false, false, false, false, false, false, false, false, false]) rfl rfl (by kernel_rfl) rfl (q_fieldAddrP fO31_0 rfl rfl ?_)
  refine tn_first_q (i := 4) (listed' := #[true, true, true, true, true, false, false, false, false, false, false, false, false, false, false, false, false, false]) rfl rfl (by kernel_rfl) rfl (q_load tA22 rfl ?_)
  refine tn_first_q (i := 5) (listed' := #[true, true, true, true, true, true, false, false, false, false, false, false, false, false, false, false, false, false]) rfl rfl (by kernel_rfl) rfl (q_len tEs22 rfl ?_)
  intro n4 hn4
  try simp only [List.length_map] at hn4
  refine tn_first_q (i := 6) (listed' := #[true, true, true, true, true, true, true, false, false, false, false, false, false, false, false, false, false, false]) rfl rfl (by kernel_rfl) rfl (q_int rfl rfl ?_)
  intro n5 hn5
  replace hn5 := in64 hn5 (by omega) (by omega)
  refine tn_first_q (i := 7) (listed' := #[true, true, true, true, true, true, true, true, false, false, false, false, false, false, false, false, false, false]) rfl rfl (by kernel_rfl) rfl (q_int rfl rfl ?_)
  intro b6 hb6; cases b6
  · replace hb6 := eqF hb6
    refine tn_first_q (i := 8) (listed' := #[true, true, true, true, true, true, true, true, true, false, false, false, false, false, false, false, false, false]) rfl rfl (by kernel_rfl) rfl (q_move (by conv=>lhs;whnf) ?_)
    refine tn_first_skip (i := 9) (listed' := #[true, true, true, true, true, true, true, true, true, true, false, false, false, false, false, false, false, false]) rfl rfl (by kernel_rfl) rfl ?_
    refine tn_first_skip (i := 12) (listed' := #[true, true, true, true, true, true, true, true, true, true, false, false, true, false, false, false, false, false]) rfl rfl (by kernel_rfl) rfl ?_
    refine tn_step [10, 13] (by kernel_rfl) rfl ?_
    refine ⟨?_, ?_, trivial⟩
    · refine tn_skip (listed' := #[true, true, true, true, true, true, true, true, true, true, true, false, true, false, false, false, false, false]) rfl rfl rfl ?_
      refine tn_first_skip (i := 11) (listed' := #[true, true, true, true, true, true, true, true, true, true, true, true, true, false, false, false, false, false]) rfl rfl (by kernel_rfl) rfl ?_
      refine tn_first_skip (i := 13) (listed' := #[true, true, true, true, true, true, true, true, true, true, true, true, true, true, false, false, false, false]) rfl rfl (by kernel_rfl) rfl ?_
      refine tn_first_skip (i := 14) (listed' := #[true, true, true, true, true, true, true, true, true, true, true, true, true, true, true, false, false, false]) rfl rfl (by kernel_rfl) rfl ?_
      refine tn_first_skip (i := 15) (listed' := #[true, true, true, true, true, true, true, true, true, true, true, true, true, true, true, true, false, false]) rfl rfl (by kernel_rfl) rfl ?_
      refine tn_first_q (i := 16) (listed' := #[true, true, true, true, true, true, true, true, true, true, true, true, true, true, true, true, true, false]) rfl rfl (by kernel_rfl) rfl (q_pickF rfl (by conv=>lhs;whnf) ?_)
      refine tn_first_q (i := 17) (listed' := #[true, true, true, true, true, true, true, true, true, true, true, true, true, true, true, true, true, true]) rfl rfl (by kernel_rfl) rfl (q_assign (by conv=>lhs;whnf) ?_)
      refine tn_end (by kernel_rfl) (hK2 _ ?_); clear hK2
      refine good_ret ?_
      repeat first|refine thenQ_ret ?_|refine blockQ_ret ?_
      refine ret_tmp (st := _) rfl (by conv=>lhs;whnf) rfl ?_
      first | exact fT ⟨by omega, hfl.1 (by omega)⟩ | exact fF (fun h => by have h1 := h.1; have h2 := hfl.2 h.2; omega)
    · refine tn_skip (listed' := #[true, true, true, true, true, true, true, true, true, true, false, false, true, true, false, false, false, false]) rfl rfl rfl ?_
      refine tn_step [10, 14] (by kernel_rfl) rfl ?_
      refine ⟨?_, ?_, trivial⟩
      · refine tn_skip (listed' := #[true, true, true, true, true, true, true, true, true, true, true, false, true, true, false, false, false, false]) rfl rfl rfl ?_
        refine tn_first_skip (i := 11) (listed' := #[true, true, true, true, true, true, true, true, true, true, true, true, true, true, false, false, false, false]) rfl rfl (by kernel_rfl) rfl ?_
        refine tn_first_skip (i := 14) (listed' := #[true, true, true, true, true, true, true, true, true, true, true, true, true, true, true, false, false, false]) rfl rfl (by kernel_rfl) rfl ?_
        refine tn_first_skip (i := 15) (listed' := #[true, true, true, true, true, true, true, true, true, true, true, true, true, true, true, true, false, false]) rfl rfl (by kernel_rfl) rfl ?_
        refine tn_first_q (i := 16) (listed' := #[true, true, true, true, true, true, true, true, true, true, true, true, true, true, true, true, true, false]) rfl rfl (by kernel_rfl) rfl (q_pickF rfl (by conv=>lhs;whnf) ?_)
        refine tn_first_q (i := 17) (listed' := #[true, true, true, true, true, true, true, true, true, true, true, true, true, true, true, true, true, true]) rfl rfl (by kernel_rfl) rfl (q_assign (by conv=>lhs;whnf) ?_)
        refine tn_end (by kernel_rfl) (hK2 _ ?_); clear hK2
        refine good_ret ?_
        repeat first|refine thenQ_ret ?_|refine blockQ_ret ?_
        refine ret_tmp (st := _) rfl (by conv=>lhs;whnf) rfl ?_
        first | exact fT ⟨by omega, hfl.1 (by omega)⟩ | exact fF (fun h => by have h1 := h.1; have h2 := hfl.2 h.2; omega)
      · refine tn_skip (listed' := #[true, true, true, true, true, true, true, true, true, true, false, false, true, true, true, false, false, false]) rfl rfl rfl ?_
        refine tn_step [10] (by kernel_rfl) rfl ?_
        refine ⟨?_, trivial⟩
        refine tn_skip (listed' := #[true, true, true, true, true, true, true, true, true, true, true, false, true, true, true, false, false, false]) rfl rfl rfl ?_
        refine tn_first_skip (i := 11) (listed' := #[true, true, true, true, true, true, true, true, true, true, true, true, true, true, true, false, false, false]) rfl rfl (by kernel_rfl) rfl ?_
        refine tn_first_skip (i := 15) (listed' := #[true, true, true, true, true, true, true, true, true, true, true, true, true, true, true, true, false, false]) rfl rfl (by kernel_rfl) rfl ?_
        refine tn_first_q (i := 16) (listed' := #[true, true, true, true, true, true, true, true, true, true, true, true, true, true, true, true, true, false]) rfl rfl (by kernel_rfl) rfl (q_pickF rfl (by conv=>lhs;whnf) ?_)
        refine tn_first_q (i := 17) (listed' := #[true, true, true, true, true, true, true, true, true, true, true, true, true, true, true, true, true, true]) rfl rfl (by kernel_rfl) rfl (q_assign (by conv=>lhs;whnf) ?_)
        refine tn_end (by kernel_rfl) (hK2 _ ?_); clear hK2
        refine good_ret ?_
        repeat first|refine thenQ_ret ?_|refine blockQ_ret ?_
        refine ret_tmp (st := _) rfl (by conv=>lhs;whnf) rfl ?_
        first | exact fT ⟨by omega, hfl.1 (by omega)⟩ | exact fF (fun h => by have h1 := h.1; have h2 := hfl.2 h.2; omega)
  · replace hb6 := eqT hb6
    refine tn_first_q (i := 8) (listed' := #[true, true, true, true, true, true, true, true, true, false, false, false, false, false, false, false, false, false]) rfl rfl (by kernel_rfl) rfl (q_move (by conv=>lhs;whnf) ?_)
    refine tn_first_q (i := 9) (listed' := #[true, true, true, true, true, true, true, true, true, true, false, false, false, false, false, false, false, false]) rfl rfl (by kernel_rfl) rfl (q_loadA tA31 rfl rfl rfl ?_)
    refine tn_first_q (i := 12) (listed' := #[true, true, true, true, true, true, true, true, true, true, false, false, true, false, false, false, false, false]) rfl rfl (by kernel_rfl) rfl (q_fieldAddrP fO31_0 rfl rfl ?_)
    refine tn_step [10, 13] (by kernel_rfl) rfl ?_
    refine ⟨?_, ?_, trivial⟩
    · refine tn_k (listed' := #[true, true, true, true, true, true, true, true, true, true, true, false, true, false, false, false, false, false]) rfl rfl rfl rfl (k_callX [(900001, 900001)] (D_impl_Network_reached ns ps 0 hn hp hz ok ⟨by omega, by omega⟩) rfl (rfl) (rfl) trivial ⟨⟨rfl, show (900001 : Nat) < 1000000 by decide⟩, trivial⟩ rfl rfl rfl ?_)
      refine tn_first_q (i := 11) (listed' := #[true, true, true, true, true, true, true, true, true, true, true, true, true, false, false, false, false, false]) rfl rfl (by kernel_rfl) rfl (q_len tEs22 rfl ?_)
      intro n7 hn7
      try simp only [List.length_map] at hn7
      refine tn_first_q (i := 13) (listed' := #[true, true, true, true, true, true, true, true, true, true, true, true, true, true, false, false, false, false]) rfl rfl (by kernel_rfl) rfl (q_load tA22 rfl ?_)
      refine tn_first_q (i := 14) (listed' := #[true, true, true, true, true, true, true, true, true, true, true, true, true, true, true, false, false, false]) rfl rfl (by kernel_rfl) rfl (q_len tEs22 rfl ?_)
      intro n8 hn8
      try simp only [List.length_map] at hn8
      refine tn_first_q (i := 15) (listed' := #[true, true, true, true, true, true, true, true, true, true, true, true, true, true, true, true, false, false]) rfl rfl (by kernel_rfl) rfl (q_int rfl rfl ?_)
      intro b9 hb9; cases b9
      · replace hb9 := eqF hb9
        refine tn_first_q (i := 16) (listed' := #[true, true, true, true, true, true, true, true, true, true, true, true, true, true, true, true, true, false]) rfl rfl (by kernel_rfl) rfl (q_pickT rfl (by conv=>lhs;whnf) ?_)
        refine tn_first_q (i := 17) (listed' := #[true, true, true, true, true, true, true, true, true, true, true, true, true, true, true, true, true, true]) rfl rfl (by kernel_rfl) rfl (q_assign (by conv=>lhs;whnf) ?_)
        refine tn_end (by kernel_rfl) (hK2 _ ?_); clear hK2
        refine good_ret ?_
        repeat first|refine thenQ_ret ?_|refine blockQ_ret ?_
        refine ret_tmp (st := _) rfl (by conv=>lhs;whnf) rfl ?_
        first | exact fT ⟨by omega, hfl.1 (by omega)⟩ | exact fF (fun h => by have h1 := h.1; have h2 := hfl.2 h.2; omega)
      · replace hb9 := eqT hb9
        refine tn_first_q (i := 16) (listed' := #[true, true, true, true, true, true, true, true, true, true, true, true, true, true, true, true, true, false]) rfl rfl (by kernel_rfl) rfl (q_pickT rfl (by conv=>lhs;whnf) ?_)
        refine tn_first_q (i := 17) (listed' := #[true, true, true, true, true, true, true, true, true, true, true, true, true, true, true, true, true, true]) rfl rfl (by kernel_rfl) rfl (q_assign (by conv=>lhs;whnf) ?_)
        refine tn_end (by kernel_rfl) (hK2 _ ?_); clear hK2
        refine good_ret ?_
        repeat first|refine thenQ_ret ?_|refine blockQ_ret ?_
        refine ret_tmp (st := _) rfl (by conv=>lhs;whnf) rfl ?_
        first | exact fT ⟨by omega, hfl.1 (by omega)⟩ | exact fF (fun h => by have h1 := h.1; have h2 := hfl.2 h.2; omega)
    · refine tn_q (listed' := #[true, true, true, true, true, true, true, true, true, true, false, false, true, true, false, false, false, false]) rfl rfl rfl (q_load tA22 rfl ?_)
      refine tn_step [10, 14] (by kernel_rfl) rfl ?_
      refine ⟨?_, ?_, trivial⟩
      · refine tn_k (listed' := #[true, true, true, true, true, true, true, true, true, true, true, false, true, true, false, false, false, false]) rfl rfl rfl rfl (k_callX [(900001, 900001)] (D_impl_Network_reached ns ps 0 hn hp hz ok ⟨by omega, by omega⟩) rfl (rfl) (rfl) trivial ⟨⟨rfl, show (900001 : Nat) < 1000000 by decide⟩, trivial⟩ rfl rfl rfl ?_)
        refine tn_first_q (i := 11) (listed' := #[true, true, true, true, true, true, true, true, true, true, true, true, true, true, false, false, false, false]) rfl rfl (by kernel_rfl) rfl (q_len tEs22 rfl ?_)
        intro n10 hn10
        try simp only [List.length_map] at hn10
        refine tn_first_q (i := 14) (listed' := #[true, true, true, true, true, true, true, true, true, true, true, true, true, true, true, false, false, false]) rfl rfl (by kernel_rfl) rfl (q_len tEs22 rfl ?_)
        intro n11 hn11
        try simp only [List.length_map] at hn11
        refine tn_first_q (i := 15) (listed' := #[true, true, true, true, true, true, true, true, true, true, true, true, true, true, true, true, false, false]) rfl rfl (by kernel_rfl) rfl (q_int rfl rfl ?_)
        intro b12 hb12; cases b12
        · replace hb12 := eqF hb12
          refine tn_first_q (i := 16) (listed' := #[true, true, true, true, true, true, true, true, true, true, true, true, true, true, true, true, true, false]) rfl rfl (by kernel_rfl) rfl (q_pickT rfl (by conv=>lhs;whnf) ?_)
          refine tn_first_q (i := 17) (listed' := #[true, true, true, true, true, true, true, true, true, true, true, true, true, true, true, true, true, true]) rfl rfl (by kernel_rfl) rfl (q_assign (by conv=>lhs;whnf) ?_)
          refine tn_end (by kernel_rfl) (hK2 _ ?_); clear hK2
          refine good_ret ?_
          repeat first|refine thenQ_ret ?_|refine blockQ_ret ?_
          refine ret_tmp (st := _) rfl (by conv=>lhs;whnf) rfl ?_
          first | exact fT ⟨by omega, hfl.1 (by omega)⟩ | exact fF (fun h => by have h1 := h.1; have h2 := hfl.2 h.2; omega)
        · replace hb12 := eqT hb12
          refine tn_first_q (i := 16) (listed' := #[true, true, true, true, true, true, true, true, true, true, true, true, true, true, true, true, true, false]) rfl rfl (by kernel_rfl) rfl (q_pickT rfl (by conv=>lhs;whnf) ?_)
          refine tn_first_q (i := 17) (listed' := #[true, true, true, true, true, true, true, true, true, true, true, true, true, true, true, true, true, true]) rfl rfl (by kernel_rfl) rfl (q_assign (by conv=>lhs;whnf) ?_)
          refine tn_end (by kernel_rfl) (hK2 _ ?_); clear hK2
          refine good_ret ?_
          repeat first|refine thenQ_ret ?_|refine blockQ_ret ?_
          refine ret_tmp (st := _) rfl (by conv=>lhs;whnf) rfl ?_
          first | exact fT ⟨by omega, hfl.1 (by omega)⟩ | exact fF (fun h => by have h1 := h.1; have h2 := hfl.2 h.2; omega)
      · refine tn_q (listed' := #[true, true, true, true, true, true, true, true, true, true, false, false, true, true, true, false, false, false]) rfl rfl rfl (q_len tEs22 rfl ?_)
        intro n13 hn13
        try simp only [List.length_map] at hn13
        refine tn_step [10] (by kernel_rfl) rfl ?_
        refine ⟨?_, trivial⟩
        refine tn_k (listed' := #[true, true, true, true, true, true, true, true, true, true, true, false, true, true, true, false, false, false]) rfl rfl rfl rfl (k_callX [(900001, 900001)] (D_impl_Network_reached ns ps 0 hn hp hz ok ⟨by omega, by omega⟩) rfl (rfl) (rfl) trivial ⟨⟨rfl, show (900001 : Nat) < 1000000 by decide⟩, trivial⟩ rfl rfl rfl ?_)
        refine tn_first_q (i := 11) (listed' := #[true, true, true, true, true, true, true, true, true, true, true, true, true, true, true, false, false, false]) rfl rfl (by kernel_rfl) rfl (q_len tEs22 rfl ?_)
        intro n14 hn14
        try simp only [List.length_map] at hn14
        refine tn_first_q (i := 15) (listed' := #[true, true, true, true, true, true, true, true, true, true, true, true, true, true, true, true, false, false]) rfl rfl (by kernel_rfl) rfl (q_int rfl rfl ?_)
        intro b15 hb15; cases b15
        · replace hb15 := eqF hb15
          refine tn_first_q (i := 16) (listed' := #[true, true, true, true, true, true, true, true, true, true, true, true, true, true, true, true, true, false]) rfl rfl (by kernel_rfl) rfl (q_pickT rfl (by conv=>lhs;whnf) ?_)
          refine tn_first_q (i := 17) (listed' := #[true, true, true, true, true, true, true, true, true, true, true, true, true, true, true, true, true, true]) rfl rfl (by kernel_rfl) rfl (q_assign (by conv=>lhs;whnf) ?_)
          refine tn_end (by kernel_rfl) (hK2 _ ?_); clear hK2
          refine good_ret ?_
          repeat first|refine thenQ_ret ?_|refine blockQ_ret ?_
          refine ret_tmp (st := _) rfl (by conv=>lhs;whnf) rfl ?_
          first | exact fT ⟨by omega, hfl.1 (by omega)⟩ | exact fF (fun h => by have h1 := h.1; have h2 := hfl.2 h.2; omega)
        · replace hb15 := eqT hb15
          refine tn_first_q (i := 16) (listed' := #[true, true, true, true, true, true, true, true, true, true, true, true, true, true, true, true, true, false]) rfl rfl (by kernel_rfl) rfl (q_pickT rfl (by conv=>lhs;whnf) ?_)
          refine tn_first_q (i := 17) (listed' := #[true, true, true, true, true, true, true, true, true, true, true, true, true, true, true, true, true, true]) rfl rfl (by kernel_rfl) rfl (q_assign (by conv=>lhs;whnf) ?_)
          refine tn_end (by kernel_rfl) (hK2 _ ?_); clear hK2
          refine good_ret ?_
          repeat first|refine thenQ_ret ?_|refine blockQ_ret ?_
          refine ret_tmp (st := _) rfl (by conv=>lhs;whnf) rfl ?_
          first | exact fT ⟨by omega, hfl.1 (by omega)⟩ | exact fF (fun h => by have h1 := h.1; have h2 := hfl.2 h.2; omega)

-- spec.l04IsTree
theorem D_spec_l04IsTree (ns : List Int) (ps : List Pi) (hn : ns.length ≤ 17592186044416) (hp : ps.length ≤ 2513169434843) (hz : idSz ps) (ok : netOk ns ps) : Den Tryz.prog 33 [.rp [.lst 1 (ns.map ci), .lst 6 (ps.map piA)]] (.s (.bool (decide (treeP ns ps)))) := by
  have h16 := ok.1.1
  have htc := tree_conn (s := 0) (esL_lt ok ps.length) (show 0 < ns.length by omega)
  have hol := trO_len (ps := ps) ps.length (Nat.le_refl _)
  refine den_of_good Tryz.func33 (by decide) rfl (Nat.le_of_ble_eq_true rfl) (Nat.le_of_ble_eq_true rfl) ?_
  refine good_seq fun K1 hK1 => ?_
  refine gr rfl ?_
  refine ea rfl (by conv=>lhs;whnf) ?_
  refine ev_nil (hK1 _ ?_); clear hK1
  refine good_seq fun K2 hK2 => ?_
  refine good_any 24 (listed := #[false, false, false, false, false, false, false, false, false, false, false, false, false, false, false, false, false, false, false, false, false, false, false, false]) rfl rfl hmix rfl ?_
  refine tn_first_q (i := 0) (listed' := #[true, false, false, false, false, false, false, false, false, false, false, false, false, false, false, false, false, false, false, false, false, false, false, false]) rfl rfl (by kernel_rfl) rfl (q_move (by conv=>lhs;whnf) ?_)
  refine tn_first_q (i := 1) (listed' := #[true, true, false, false, false, false, false, false, false, false, false, false, false, false, false, false, false, false, false, false, false, false, false, false]) rfl rfl (by kernel_rfl) rfl (q_nilCheck (by conv=>lhs;whnf) rfl ?_)
  refine tn_first_q (i := 2) (listed' := #[true, true, true, false, false, false, false, false, false, false, false, false, false, false, false, false, false, false, false, false, false, false, false, false]) rfl rfl (by kernel_rfl) rfl (q_fieldAddr fO31_1 rfl rfl ?_)
  refine tn_first_q (i := 3) (listed' := #[true, true, true, true, false, false, false, false, false, false, false, false, false, false, false, false, false, false, false, false, false, false, false, false]) rfl rfl (by kernel_rfl) rfl (q_load tA29 rfl ?_)
  refine tn_first_q (i := 4) (listed' := #[true, true, true, true, true, false, false, false, false, false, false, false, false, false, false, false, false, false, false, false, false, false, false, false]) rfl rfl (by kernel_rfl) rfl (q_len tEs29 rfl ?_)
  intro n3 hn3
  try simp only [List.length_map] at hn3
  refine tn_first_q (i := 5) (listed' := #[true, true, true, true, true, true, false, false, false, false, false, false, false, false, false, false, false, false, false, false, false, false, false, false]) rfl rfl (by kernel_rfl) rfl (q_move (by conv=>lhs;whnf) ?_)
  refine tn_first_q (i := 6) (listed' := #[true, true, true, true, true, true, true, false, false, false, false, false, false, false, false, false, false, false, false, false, false, false, false, false]) rfl rfl (by kernel_rfl) rfl (q_nilCheck (by conv=>lhs;whnf) rfl ?_)
  refine tn_first_q (i := 7) (listed' := #[true, true, true, true, true, true, true, true, false, false, false, false, false, false, false, false, false, false, false, false, false, false, false, false]) rfl rfl (by kernel_rfl) rfl (q_fieldAddr fO31_0 rfl rfl ?_)
  refine tn_first_q (i := 8) (listed' := #[true, true, true, true, true, true, true, true, true, false, false, false, false, false, false, false, false, false, false, false, false, false, false, false]) rfl rfl (by kernel_rfl) rfl (q_load tA22 rfl ?_)
  refine tn_first_q (i := 9) (listed' := #[true, true, true, true, true, true, true, true, true, true, false, false, false, false, false, false, false, false, false, false, false, false, false, false]) rfl rfl (by kernel_rfl) rfl (q_len tEs22 rfl ?_)
  intro n4 hn4
  try simp only [List.length_map] at hn4
  refine tn_first_q (i := 10) (listed' := #[true, true, true, true, true, true, true, true, true, true, true, false, false, false, false, false, false, false, false, false, false, false, false, false]) rfl rfl (by kernel_rfl) rfl (q_int rfl rfl ?_)
  intro n5 hn5
  replace hn5 := in64 hn5 (by omega) (by omega)
  refine tn_first_q (i := 11) (listed' := #[true, true, true, true, true, true, true, true, true, true, true, true, false, false, false, false, false, false, false, false, false, false, false, false]) rfl rfl (by kernel_rfl) rfl (q_int rfl rfl ?_)
  intro b6 hb6; cases b6
  · replace hb6 := eqF hb6
    refine tn_first_q (i := 12) (listed' := #[true, true, true, true, true, true, true, true, true, true, true, true, true, false, false, false, false, false, false, false, false, false, false, false]) rfl rfl (by kernel_rfl) rfl (q_move (by conv=>lhs;whnf) ?_)
    refine tn_first_skip (i := 13) (listed' := #[true, true, true, true, true, true, true, true, true, true, true, true, true, true, false, false, false, false, false, false, false, false, false, false]) rfl rfl (by kernel_rfl) rfl ?_
    refine tn_first_skip (i := 16) (listed' := #[true, true, true, true, true, true, true, true, true, true, true, true, true, true, false, false, true, false, false, false, false, false, false, false]) rfl rfl (by kernel_rfl) rfl ?_
    refine tn_first_skip (i := 17) (listed' := #[true, true, true, true, true, true, true, true, true, true, true, true, true, true, false, false, true, true, false, false, false, false, false, false]) rfl rfl (by kernel_rfl) rfl ?_
    refine tn_first_skip (i := 18) (listed' := #[true, true, true, true, true, true, true, true, true, true, true, true, true, true, false, false, true, true, true, false, false, false, false, false]) rfl rfl (by kernel_rfl) rfl ?_
    refine tn_step [14, 19] (by kernel_rfl) rfl ?_
    refine ⟨?_, ?_, trivial⟩
    · refine tn_skip (listed' := #[true, true, true, true, true, true, true, true, true, true, true, true, true, true, true, false, true, true, true, false, false, false, false, false]) rfl rfl rfl ?_
      refine tn_first_skip (i := 15) (listed' := #[true, true, true, true, true, true, true, true, true, true, true, true, true, true, true, true, true, true, true, false, false, false, false, false]) rfl rfl (by kernel_rfl) rfl ?_
      refine tn_first_skip (i := 19) (listed' := #[true, true, true, true, true, true, true, true, true, true, true, true, true, true, true, true, true, true, true, true, false, false, false, false]) rfl rfl (by kernel_rfl) rfl ?_
      refine tn_first_skip (i := 20) (listed' := #[true, true, true, true, true, true, true, true, true, true, true, true, true, true, true, true, true, true, true, true, true, false, false, false]) rfl rfl (by kernel_rfl) rfl ?_
      refine tn_first_skip (i := 21) (listed' := #[true, true, true, true, true, true, true, true, true, true, true, true, true, true, true, true, true, true, true, true, true, true, false, false]) rfl rfl (by kernel_rfl) rfl ?_
      refine tn_first_q (i := 22) (listed' := #[true, true, true, true, true, true, true, true, true, true, true, true, true, true, true, true, true, true, true, true, true, true, true, false]) rfl rfl (by kernel_rfl) rfl (q_pickF rfl (by conv=>lhs;whnf) ?_)
      refine tn_first_q (i := 23) (listed' := #[true, true, true, true, true, true, true, true, true, true, true, true, true, true, true, true, true, true, true, true, true, true, true, true]) rfl rfl (by kernel_rfl) rfl (q_assign (by conv=>lhs;whnf) ?_)
      refine tn_end (by kernel_rfl) (hK2 _ ?_); clear hK2
      refine good_ret ?_
      repeat first|refine thenQ_ret ?_|refine blockQ_ret ?_
      refine ret_tmp (st := _) rfl (by conv=>lhs;whnf) rfl ?_
      first | exact fT ⟨by omega, esL_conn.1 (htc.1 (by omega))⟩ | exact fF (fun h => by have h1 := h.1; have h2 := htc.2 (esL_conn.2 h.2); omega)
    · refine tn_skip (listed' := #[true, true, true, true, true, true, true, true, true, true, true, true, true, true, false, false, true, true, true, true, false, false, false, false]) rfl rfl rfl ?_
      refine tn_step [14, 20] (by kernel_rfl) rfl ?_
      refine ⟨?_, ?_, trivial⟩
      · refine tn_skip (listed' := #[true, true, true, true, true, true, true, true, true, true, true, true, true, true, true, false, true, true, true, true, false, false, false, false]) rfl rfl rfl ?_
        refine tn_first_skip (i := 15) (listed' := #[true, true, true, true, true, true, true, true, true, true, true, true, true, true, true, true, true, true, true, true, false, false, false, false]) rfl rfl (by kernel_rfl) rfl ?_
        refine tn_first_skip (i := 20) (listed' := #[true, true, true, true, true, true, true, true, true, true, true, true, true, true, true, true, true, true, true, true, true, false, false, false]) rfl rfl (by kernel_rfl) rfl ?_
        refine tn_first_skip (i := 21) (listed' := #[true, true, true, true, true, true, true, true, true, true, true, true, true, true, true, true, true, true, true, true, true, true, false, false]) rfl rfl (by kernel_rfl) rfl ?_
        refine tn_first_q (i := 22) (listed' := #[true, true, true, true, true, true, true, true, true, true, true, true, true, true, true, true, true, true, true, true, true, true, true, false]) rfl rfl (by kernel_rfl) rfl (q_pickF rfl (by conv=>lhs;whnf) ?_)
        refine tn_first_q (i := 23) (listed' := #[true, true, true, true, true, true, true, true, true, true, true, true, true, true, true, true, true, true, true, true, true, true, true, true]) rfl rfl (by kernel_rfl) rfl (q_assign (by conv=>lhs;whnf) ?_)
        refine tn_end (by kernel_rfl) (hK2 _ ?_); clear hK2
        refine good_ret ?_
        repeat first|refine thenQ_ret ?_|refine blockQ_ret ?_
        refine ret_tmp (st := _) rfl (by conv=>lhs;whnf) rfl ?_
        first | exact fT ⟨by omega, esL_conn.1 (htc.1 (by omega))⟩ | exact fF (fun h => by have h1 := h.1; have h2 := htc.2 (esL_conn.2 h.2); omega)
      · refine tn_skip (listed' := #[true, true, true, true, true, true, true, true, true, true, true, true, true, true, false, false, true, true, true, true, true, false, false, false]) rfl rfl rfl ?_
        refine tn_step [14] (by kernel_rfl) rfl ?_
        refine ⟨?_, trivial⟩
        refine tn_skip (listed' := #[true, true, true, true, true, true, true, true, true, true, true, true, true, true, true, false, true, true, true, true, true, false, false, false]) rfl rfl rfl ?_
        refine tn_first_skip (i := 15) (listed' := #[true, true, true, true, true, true, true, true, true, true, true, true, true, true, true, true, true, true, true, true, true, false, false, false]) rfl rfl (by kernel_rfl) rfl ?_
        refine tn_first_skip (i := 21) (listed' := #[true, true, true, true, true, true, true, true, true, true, true, true, true, true, true, true, true, true, true, true, true, true, false, false]) rfl rfl (by kernel_rfl) rfl ?_
        refine tn_first_q (i := 22) (listed' := #[true, true, true, true, true, true, true, true, true, true, true, true, true, true, true, true, true, true, true, true, true, true, true, false]) rfl rfl (by kernel_rfl) rfl (q_pickF rfl (by conv=>lhs;whnf) ?_)
        refine tn_first_q (i := 23) (listed' := #[true, true, true, true, true, true, true, true, true, true, true, true, true, true, true, true, true, true, true, true, true, true, true, true]) rfl rfl (by kernel_rfl) rfl (q_assign (by conv=>lhs;whnf) ?_)
        refine tn_end (by kernel_rfl) (hK2 _ ?_); clear hK2
        refine good_ret ?_
        repeat first|refine thenQ_ret ?_|refine blockQ_ret ?_
        refine ret_tmp (st := _) rfl (by conv=>lhs;whnf) rfl ?_
        first | exact fT ⟨by omega, esL_conn.1 (htc.1 (by omega))⟩ | exact fF (fun h => by have h1 := h.1; have h2 := htc.2 (esL_conn.2 h.2); omega)
  · replace hb6 := eqT hb6
    refine tn_first_q (i := 12) (listed' := #[true, true, true, true, true, true, true, true, true, true, true, true, true, false, false, false, false, false, false, false, false, false, false, false]) rfl rfl (by kernel_rfl) rfl (q_move (by conv=>lhs;whnf) ?_)
    refine tn_first_q (i := 13) (listed' := #[true, true, true, true, true, true, true, true, true, true, true, true, true, true, false, false, false, false, false, false, false, false, false, false]) rfl rfl (by kernel_rfl) rfl (q_move (by conv=>lhs;whnf) ?_)
    refine tn_first_q (i := 16) (listed' := #[true, true, true, true, true, true, true, true, true, true, true, true, true, true, false, false, true, false, false, false, false, false, false, false]) rfl rfl (by kernel_rfl) rfl (q_move (by conv=>lhs;whnf) ?_)
    refine tn_first_q (i := 17) (listed' := #[true, true, true, true, true, true, true, true, true, true, true, true, true, true, false, false, true, true, false, false, false, false, false, false]) rfl rfl (by kernel_rfl) rfl (q_nilCheck (by conv=>lhs;whnf) rfl ?_)
    refine tn_first_q (i := 18) (listed' := #[true, true, true, true, true, true, true, true, true, true, true, true, true, true, false, false, true, true, true, false, false, false, false, false]) rfl rfl (by kernel_rfl) rfl (q_fieldAddr fO31_1 rfl rfl ?_)
    refine tn_firstS_q (i := 19) (listed' := #[true, true, true, true, true, true, true, true, true, true, true, true, true, true, false, false, true, true, true, true, false, false, false, false]) rfl rfl (by kernel_rfl) rfl rfl (q_load tA29 rfl ?_)
    refine tn_step [14, 20] (by kernel_rfl) rfl ?_
    refine ⟨?_, ?_, trivial⟩
    · refine tn_k (listed' := #[true, true, true, true, true, true, true, true, true, true, true, true, true, true, true, false, true, true, true, true, false, false, false, false]) rfl rfl rfl rfl (k_callX [(900001, 900001)] (D_spec_l04Tree ns ps hn hp hz ok) rfl (rfl) (rfl) trivial ⟨⟨rfl, show (900001 : Nat) < 1000000 by decide⟩, trivial⟩ rfl rfl rfl ?_)
      refine tn_first_q (i := 15) (listed' := #[true, true, true, true, true, true, true, true, true, true, true, true, true, true, true, true, true, true, true, true, false, false, false, false]) rfl rfl (by kernel_rfl) rfl (q_len tEs22 rfl ?_)
      intro n7 hn7
      try simp only [List.length_map] at hn7
      refine tn_first_q (i := 20) (listed' := #[true, true, true, true, true, true, true, true, true, true, true, true, true, true, true, true, true, true, true, true, true, false, false, false]) rfl rfl (by kernel_rfl) rfl (q_len tEs29 rfl ?_)
      intro n8 hn8
      try simp only [List.length_map] at hn8
      refine tn_first_q (i := 21) (listed' := #[true, true, true, true, true, true, true, true, true, true, true, true, true, true, true, true, true, true, true, true, true, true, false, false]) rfl rfl (by kernel_rfl) rfl (q_int rfl rfl ?_)
      intro b9 hb9; cases b9
      · replace hb9 := eqF hb9
        refine tn_first_q (i := 22) (listed' := #[true, true, true, true, true, true, true, true, true, true, true, true, true, true, true, true, true, true, true, true, true, true, true, false]) rfl rfl (by kernel_rfl) rfl (q_pickT rfl (by conv=>lhs;whnf) ?_)
        refine tn_first_q (i := 23) (listed' := #[true, true, true, true, true, true, true, true, true, true, true, true, true, true, true, true, true, true, true, true, true, true, true, true]) rfl rfl (by kernel_rfl) rfl (q_assign (by conv=>lhs;whnf) ?_)
        refine tn_end (by kernel_rfl) (hK2 _ ?_); clear hK2
        refine good_ret ?_
        repeat first|refine thenQ_ret ?_|refine blockQ_ret ?_
        refine ret_tmp (st := _) rfl (by conv=>lhs;whnf) rfl ?_
        first | exact fT ⟨by omega, esL_conn.1 (htc.1 (by omega))⟩ | exact fF (fun h => by have h1 := h.1; have h2 := htc.2 (esL_conn.2 h.2); omega)
      · replace hb9 := eqT hb9
        refine tn_first_q (i := 22) (listed' := #[true, true, true, true, true, true, true, true, true, true, true, true, true, true, true, true, true, true, true, true, true, true, true, false]) rfl rfl (by kernel_rfl) rfl (q_pickT rfl (by conv=>lhs;whnf) ?_)
        refine tn_first_q (i := 23) (listed' := #[true, true, true, true, true, true, true, true, true, true, true, true, true, true, true, true, true, true, true, true, true, true, true, true]) rfl rfl (by kernel_rfl) rfl (q_assign (by conv=>lhs;whnf) ?_)
        refine tn_end (by kernel_rfl) (hK2 _ ?_); clear hK2
        refine good_ret ?_
        repeat first|refine thenQ_ret ?_|refine blockQ_ret ?_
        refine ret_tmp (st := _) rfl (by conv=>lhs;whnf) rfl ?_
        first | exact fT ⟨by omega, esL_conn.1 (htc.1 (by omega))⟩ | exact fF (fun h => by have h1 := h.1; have h2 := htc.2 (esL_conn.2 h.2); omega)
    · refine tn_q (listed' := #[true, true, true, true, true, true, true, true, true, true, true, true, true, true, false, false, true, true, true, true, true, false, false, false]) rfl rfl rfl (q_len tEs29 rfl ?_)
      intro n10 hn10
      try simp only [List.length_map] at hn10
      refine tn_step [14] (by kernel_rfl) rfl ?_
      refine ⟨?_, trivial⟩
      refine tn_k (listed' := #[true, true, true, true, true, true, true, true, true, true, true, true, true, true, true, false, true, true, true, true, true, false, false, false]) rfl rfl rfl rfl (k_callX [(900001, 900001)] (D_spec_l04Tree ns ps hn hp hz ok) rfl (rfl) (rfl) trivial ⟨⟨rfl, show (900001 : Nat) < 1000000 by decide⟩, trivial⟩ rfl rfl rfl ?_)
      refine tn_first_q (i := 15) (listed' := #[true, true, true, true, true, true, true, true, true, true, true, true, true, true, true, true, true, true, true, true, true, false, false, false]) rfl rfl (by kernel_rfl) rfl (q_len tEs22 rfl ?_)
      intro n11 hn11
      try simp only [List.length_map] at hn11
      refine tn_first_q (i := 21) (listed' := #[true, true, true, true, true, true, true, true, true, true, true, true, true, true, true, true, true, true, true, true, true, true, false, false]) rfl rfl (by kernel_rfl) rfl (q_int rfl rfl ?_)
      intro b12 hb12; cases b12
      · replace hb12 := eqF hb12
        refine tn_first_q (i := 22) (listed' := #[true, true, true, true, true, true, true, true, true, true, true, true, true, true, true, true, true, true, true, true, true, true, true, false]) rfl rfl (by kernel_rfl) rfl (q_pickT rfl (by conv=>lhs;whnf) ?_)
        refine tn_first_q (i := 23) (listed' := #[true, true, true, true, true, true, true, true, true, true, true, true, true, true, true, true, true, true, true, true, true, true, true, true]) rfl rfl (by kernel_rfl) rfl (q_assign (by conv=>lhs;whnf) ?_)
        refine tn_end (by kernel_rfl) (hK2 _ ?_); clear hK2
        refine good_ret ?_
        repeat first|refine thenQ_ret ?_|refine blockQ_ret ?_
        refine ret_tmp (st := _) rfl (by conv=>lhs;whnf) rfl ?_
        first | exact fT ⟨by omega, esL_conn.1 (htc.1 (by omega))⟩ | exact fF (fun h => by have h1 := h.1; have h2 := htc.2 (esL_conn.2 h.2); omega)
      · replace hb12 := eqT hb12
        refine tn_first_q (i := 22) (listed' := #[true, true, true, true, true, true, true, true, true, true, true, true, true, true, true, true, true, true, true, true, true, true, true, false]) rfl rfl (by kernel_rfl) rfl (q_pickT rfl (by conv=>lhs;whnf) ?_)
        refine tn_first_q (i := 23) (listed' := #[true, true, true, true, true, true, true, true, true, true, true, true, true, true, true, true, true, true, true, true, true, true, true, true]) rfl rfl (by kernel_rfl) rfl (q_assign (by conv=>lhs;whnf) ?_)
        refine tn_end (by kernel_rfl) (hK2 _ ?_); clear hK2
        refine good_ret ?_
        repeat first|refine thenQ_ret ?_|refine blockQ_ret ?_
        refine ret_tmp (st := _) rfl (by conv=>lhs;whnf) rfl ?_
        first | exact fT ⟨by omega, esL_conn.1 (htc.1 (by omega))⟩ | exact fF (fun h => by have h1 := h.1; have h2 := htc.2 (esL_conn.2 h.2); omega)

-- spec.l03Flow
theorem D_spec_l03Flow (a : Int)  : Den Tryz.prog 68 [.s (.int .i64 a)] (.s (.bool (decide (-100000 ≤ a ∧ a ≤ 100000)))) := by
  refine den_of_good Tryz.func68 (by decide) rfl (Nat.le_of_ble_eq_true rfl) (Nat.le_of_ble_eq_true rfl) ?_
  refine good_seq fun K1 hK1 => ?_
  refine gr rfl ?_
  refine ea rfl (by conv=>lhs;whnf) ?_
  refine ev_nil (hK1 _ ?_); clear hK1
  refine good_seq fun K2 hK2 => ?_
  refine gr rfl ?_
  refine em rfl (by conv=>lhs;whnf) ?_
  refine ev_q rfl (q_callB rfl rfl (rfl) (D_spec_l00In ..) ?_)
  intro b3 hb3; cases b3
  · first | replace hb3 := dF hb3 | skip
    refine ea rfl (by conv=>lhs;whnf) ?_
    refine ev_nil (hK2 _ ?_); clear hK2
    refine good_ret ?_
    repeat first|refine thenQ_ret ?_|refine blockQ_ret ?_
    refine ret_tmp (st := _) rfl (by conv=>lhs;whnf) rfl ?_
    first | rfl | exact fT (by first | omega | grind) | exact fF (by first | omega | grind) | exact fT' (by first | omega | grind) | (exfalso; first | omega | grind)
  · first | replace hb3 := dT hb3 | skip
    refine ea rfl (by conv=>lhs;whnf) ?_
    refine ev_nil (hK2 _ ?_); clear hK2
    refine good_ret ?_
    repeat first|refine thenQ_ret ?_|refine blockQ_ret ?_
    refine ret_tmp (st := _) rfl (by conv=>lhs;whnf) rfl ?_
    first | rfl | exact fT (by first | omega | grind) | exact fF (by first | omega | grind) | exact fT' (by first | omega | grind) | (exfalso; first | omega | grind)

-- impl.pressureOk
theorem D_impl_pressureOk (a : Int)  : Den Tryz.prog 55 [.s (.int .i64 a)] (.s (.bool (decide (0 ≤ a ∧ a ≤ 100000000)))) := by
  refine den_of_good Tryz.func55 (by decide) rfl (Nat.le_of_ble_eq_true rfl) (Nat.le_of_ble_eq_true rfl) ?_
  refine good_seq fun K1 hK1 => ?_
  refine gr rfl ?_
  refine ea rfl (by conv=>lhs;whnf) ?_
  refine ev_nil (hK1 _ ?_); clear hK1
  refine good_seq fun K2 hK2 => ?_
  refine gr rfl ?_
  refine em rfl (by conv=>lhs;whnf) ?_
  refine ev_q rfl (q_callB rfl rfl (rfl) (D_impl_within ..) ?_)
  intro b3 hb3; cases b3
  · first | replace hb3 := dF hb3 | skip
    refine ea rfl (by conv=>lhs;whnf) ?_
    refine ev_nil (hK2 _ ?_); clear hK2
    refine good_ret ?_
    repeat first|refine thenQ_ret ?_|refine blockQ_ret ?_
    refine ret_tmp (st := _) rfl (by conv=>lhs;whnf) rfl ?_
    first | rfl | exact fT (by first | omega | grind) | exact fF (by first | omega | grind) | exact fT' (by first | omega | grind) | (exfalso; first | omega | grind)
  · first | replace hb3 := dT hb3 | skip
    refine ea rfl (by conv=>lhs;whnf) ?_
    refine ev_nil (hK2 _ ?_); clear hK2
    refine good_ret ?_
    repeat first|refine thenQ_ret ?_|refine blockQ_ret ?_
    refine ret_tmp (st := _) rfl (by conv=>lhs;whnf) rfl ?_
    first | rfl | exact fT (by first | omega | grind) | exact fF (by first | omega | grind) | exact fT' (by first | omega | grind) | (exfalso; first | omega | grind)

-- spec.l03Press
theorem D_spec_l03Press (a : Int)  : Den Tryz.prog 97 [.s (.int .i64 a)] (.s (.bool (decide (0 ≤ a ∧ a ≤ 100000000)))) := by
  refine den_of_good Tryz.func97 (by decide) rfl (Nat.le_of_ble_eq_true rfl) (Nat.le_of_ble_eq_true rfl) ?_
  refine good_seq fun K1 hK1 => ?_
  refine gr rfl ?_
  refine ea rfl (by conv=>lhs;whnf) ?_
  refine ev_nil (hK1 _ ?_); clear hK1
  refine good_seq fun K2 hK2 => ?_
  refine gr rfl ?_
  refine em rfl (by conv=>lhs;whnf) ?_
  refine ev_q rfl (q_callB rfl rfl (rfl) (D_spec_l00In ..) ?_)
  intro b3 hb3; cases b3
  · first | replace hb3 := dF hb3 | skip
    refine ea rfl (by conv=>lhs;whnf) ?_
    refine ev_nil (hK2 _ ?_); clear hK2
    refine good_ret ?_
    repeat first|refine thenQ_ret ?_|refine blockQ_ret ?_
    refine ret_tmp (st := _) rfl (by conv=>lhs;whnf) rfl ?_
    first | rfl | exact fT (by first | omega | grind) | exact fF (by first | omega | grind) | exact fT' (by first | omega | grind) | (exfalso; first | omega | grind)
  · first | replace hb3 := dT hb3 | skip
    refine ea rfl (by conv=>lhs;whnf) ?_
    refine ev_nil (hK2 _ ?_); clear hK2
    refine good_ret ?_
    repeat first|refine thenQ_ret ?_|refine blockQ_ret ?_
    refine ret_tmp (st := _) rfl (by conv=>lhs;whnf) rfl ?_
    first | rfl | exact fT (by first | omega | grind) | exact fF (by first | omega | grind) | exact fT' (by first | omega | grind) | (exfalso; first | omega | grind)

-- (impl.Network).flowsOk
theorem D_impl_Network_flowsOk (ns : List Int) (ps : List Pi) (fl : List Int) (hn : ns.length ≤ 17592186044416) (hp : ps.length ≤ 2513169434843) (hz : idSz ps) (hf : fl.length ≤ 17592186044416) : Den Tryz.prog 41 [.agg [.lst 1 (ns.map ci), .lst 6 (ps.map piA)], .lst 1 (fl.map ci)] (.s (.bool (decide (flP ps fl)))) := by
  refine den_of_good Tryz.func41 (by decide) rfl (Nat.le_of_ble_eq_true rfl) (Nat.le_of_ble_eq_true rfl) ?_
  refine good_seq fun K1 hK1 => ?_
  refine gr rfl ?_
  refine ev_k rfl (k_box (by conv=>lhs;whnf) rfl rfl rfl ?_)
  refine ea rfl (by conv=>lhs;whnf) ?_
  refine ev_nil (hK1 _ ?_); clear hK1
  refine good_seq fun K2 hK2 => ?_
  refine gr rfl ?_
  refine em rfl (by conv=>lhs;whnf) ?_
  refine ev_q rfl (q_len tEs22 rfl ?_)
  intro n3 hn3
  try simp only [List.length_map] at hn3
  refine ev_q rfl (q_fieldAddrP fO31_1 rfl rfl ?_)
  refine ev_q rfl (q_load tA29 rfl ?_)
  refine ev_q rfl (q_len tEs29 rfl ?_)
  intro n4 hn4
  try simp only [List.length_map] at hn4
  refine ei rfl rfl rfl ?_
  intro b5 hb5; cases b5
  · replace hb5 := eqF hb5
    refine em rfl (by conv=>lhs;whnf) ?_
    refine ev_skip rfl ?_
    refine ev_skip rfl ?_
    refine ev_q rfl (q_pickF rfl (by conv=>lhs;whnf) ?_)
    refine ea rfl (by conv=>lhs;whnf) ?_
    refine ev_nil (hK2 _ ?_); clear hK2
    refine good_ret ?_
    repeat first|refine thenQ_ret ?_|refine blockQ_ret ?_
    refine ret_tmp (st := _) rfl (by conv=>lhs;whnf) rfl ?_
    first | exact fT ⟨by omega, by assumption⟩ | exact fF (fun h => by have h1 := h.1; first | omega | exact absurd h.2 (by assumption))
  · replace hb5 := eqT hb5
    refine em rfl (by conv=>lhs;whnf) ?_
    refine em rfl (by conv=>lhs;whnf) ?_
    refine ev_q rfl (q_callB rfl rfl (rfl) (D_impl_allWithin fl _ _ hf) ?_)
    intro b6 hb6; cases b6
    · first | replace hb6 := dF hb6 | skip
      refine ev_q rfl (q_pickT rfl (by conv=>lhs;whnf) ?_)
      refine ea rfl (by conv=>lhs;whnf) ?_
      refine ev_nil (hK2 _ ?_); clear hK2
      refine good_ret ?_
      repeat first|refine thenQ_ret ?_|refine blockQ_ret ?_
      refine ret_tmp (st := _) rfl (by conv=>lhs;whnf) rfl ?_
      first | exact fT ⟨by omega, by assumption⟩ | exact fF (fun h => by have h1 := h.1; first | omega | exact absurd h.2 (by assumption))
    · first | replace hb6 := dT hb6 | skip
      refine ev_q rfl (q_pickT rfl (by conv=>lhs;whnf) ?_)
      refine ea rfl (by conv=>lhs;whnf) ?_
      refine ev_nil (hK2 _ ?_); clear hK2
      refine good_ret ?_
      repeat first|refine thenQ_ret ?_|refine blockQ_ret ?_
      refine ret_tmp (st := _) rfl (by conv=>lhs;whnf) rfl ?_
      first | exact fT ⟨by omega, by assumption⟩ | exact fF (fun h => by have h1 := h.1; first | omega | exact absurd h.2 (by assumption))

-- spec.l07Flows
theorem D_spec_l07Flows (ns : List Int) (ps : List Pi) (fl : List Int) (hn : ns.length ≤ 17592186044416) (hp : ps.length ≤ 2513169434843) (hz : idSz ps) (hf : fl.length ≤ 17592186044416) : Den Tryz.prog 31 [.rp [.lst 1 (ns.map ci), .lst 6 (ps.map piA)], .lst 1 (fl.map ci)] (.s (.bool (decide (flP ps fl)))) := by
  refine den_of_good Tryz.func31 (by decide) rfl (Nat.le_of_ble_eq_true rfl) (Nat.le_of_ble_eq_true rfl) ?_
  refine good_seq fun K1 hK1 => ?_
  refine gr rfl ?_
  refine ea rfl (by conv=>lhs;whnf) ?_
  refine ev_nil (hK1 _ ?_); clear hK1
  refine good_seq fun K2 hK2 => ?_
  refine good_seq fun K3 hK3 => ?_
  refine gr rfl ?_
  refine ea rfl (by conv=>lhs;whnf) ?_
  refine ev_nil (hK3 _ ?_); clear hK3
  refine good_block ?_
  refine good_loop (α := Nat) (fun k => { env := upd (upd (upd ((fun _ => .junk)) 0 (.rp [.lst 1 (ns.map ci), .lst 6 (ps.map piA)])) 1 (.lst 1 (fl.map ci))) 5 (.s (.int .i64 k)), H := fun _ => none }) (fun k => k ≤ fl.length ∧ ∀ j q, j < k → fl[j]? = some q → (-100000) ≤ q ∧ q ≤ 100000) (fun k => fl.length - k) 0 ?_ ?_ ?_
  · exact ⟨by omega, fun j u hj => by omega⟩
  · refine sub_weak ?_ ?_
    · exact weakH_none _
    · refine weakE_upd ?e5 ?r5 (weakE_upd ?e1 ?r1 (weakE_upd ?e0 ?r0 (weakE_junk _ _)))
      case e0 => first | rfl | exact fI (by omega) | (simp_all)
      case r0 => intro h hh; cases hh
      case e1 => first | rfl | exact fI (by omega) | (simp_all)
      case r1 => intro h hh; cases hh
      case e5 => first | rfl | exact fI (by omega) | (simp_all)
      case r5 => intro h hh; cases hh
  · rintro k ⟨hIk, hJk⟩
    refine good_seq fun K4 hK4 => ?_
    refine good_seq fun K5 hK5 => ?_
    refine gr rfl ?_
    refine em rfl (by conv=>lhs;whnf) ?_
    refine em rfl (by conv=>lhs;whnf) ?_
    refine ev_q rfl (q_len tEs22 rfl ?_)
    intro n6 hn6
    try simp only [List.length_map] at hn6
    refine ei rfl rfl rfl ?_
    intro b7 hb7; cases b7
    · replace hb7 := dF hb7
      refine ev_nil (hK5 _ ?_); clear hK5
      refine good_condF rfl ?_
      refine good_exit ?_
      repeat first|refine thenQ_exit ?_|refine blockQ_pass rfl ?_
      refine blockQ_exit (hK2 _ ?_); clear hK2
      refine good_seq fun K8 hK8 => ?_
      refine gr rfl ?_
      refine em rfl (by conv=>lhs;whnf) ?_
      refine ev_q rfl (q_len tEs22 rfl ?_)
      intro n9 hn9
      try simp only [List.length_map] at hn9
      refine em rfl (by conv=>lhs;whnf) ?_
      refine ev_q rfl (q_nilCheck (by conv=>lhs;whnf) rfl ?_)
      refine ev_q rfl (q_fieldAddr fO31_1 rfl rfl ?_)
      refine ev_q rfl (q_load tA29 rfl ?_)
      refine ev_q rfl (q_len tEs29 rfl ?_)
      intro n10 hn10
      try simp only [List.length_map] at hn10
      refine ei rfl rfl rfl ?_
      intro b11 hb11; cases b11
      · replace hb11 := eqF hb11
        refine ea rfl (by conv=>lhs;whnf) ?_
        refine ev_nil (hK8 _ ?_); clear hK8
        refine good_ret ?_
        repeat first|refine thenQ_ret ?_|refine blockQ_ret ?_
        refine ret_tmp (st := _) rfl (by conv=>lhs;whnf) rfl ?_
        clear hK4
        first | exact fT ⟨by omega, all_finI (Q := fun _ q => (-100000) ≤ q ∧ q ≤ 100000) hJk (by omega)⟩ | exact fF (fun h => by have h1 := h.1; first | omega | (have := h.2 _ _ hpk; omega))
      · replace hb11 := eqT hb11
        refine ea rfl (by conv=>lhs;whnf) ?_
        refine ev_nil (hK8 _ ?_); clear hK8
        refine good_ret ?_
        repeat first|refine thenQ_ret ?_|refine blockQ_ret ?_
        refine ret_tmp (st := _) rfl (by conv=>lhs;whnf) rfl ?_
        clear hK4
        first | exact fT ⟨by omega, all_finI (Q := fun _ q => (-100000) ≤ q ∧ q ≤ 100000) hJk (by omega)⟩ | exact fF (fun h => by have h1 := h.1; first | omega | (have := h.2 _ _ hpk; omega))
    · replace hb7 := dT hb7
      obtain ⟨pk, hpk⟩ := getL (xs := fl) (n := (k : Int)) (by omega) (by omega)
      replace hpk : fl[k]? = some pk := hpk
      refine ev_nil (hK5 _ ?_); clear hK5
      refine good_condT rfl ?_
      refine good_skip (hK4 _ ?_); clear hK4
      refine good_seq fun K12 hK12 => ?_
      refine good_block ?_
      refine good_seq fun K13 hK13 => ?_
      refine gr rfl ?_
      refine em rfl (by conv=>lhs;whnf) ?_
      refine em rfl (by conv=>lhs;whnf) ?_
      refine ev_q rfl (q_idx tE22 rfl rfl (by exact Int.natCast_nonneg _) (by exact map_get hpk) rfl ?_)
      refine ev_q rfl (q_load tA2 rfl ?_)
      refine ev_q rfl (q_callB rfl rfl (rfl) (D_spec_l03Flow ..) ?_)
      intro b14 hb14; cases b14
      · first | replace hb14 := dF hb14 | skip
        refine ev_q rfl (q_not rfl rfl ?_)
        refine ev_nil (hK13 _ ?_); clear hK13
        refine good_condT rfl ?_
        refine good_seq fun K15 hK15 => ?_
        refine gr rfl ?_
        refine ea rfl (by conv=>lhs;whnf) ?_
        refine ev_nil (hK15 _ ?_); clear hK15
        refine good_ret ?_
        repeat first|refine thenQ_ret ?_|refine blockQ_ret ?_
        refine ret_tmp (st := _) rfl (by conv=>lhs;whnf) rfl ?_
        clear hK2 hK12
        first | exact fT ⟨by omega, all_finI (Q := fun _ q => (-100000) ≤ q ∧ q ≤ 100000) hJk (by omega)⟩ | exact fF (fun h => by have h1 := h.1; first | omega | (have := h.2 _ _ hpk; omega))
      · first | replace hb14 := dT hb14 | skip
        refine ev_q rfl (q_not rfl rfl ?_)
        refine ev_nil (hK13 _ ?_); clear hK13
        refine good_condF rfl ?_
        refine good_skip (hK12 _ ?_); clear hK12
        refine gr rfl ?_
        refine em rfl (by conv=>lhs;whnf) ?_
        refine ei rfl rfl rfl ?_
        intro n16 hn16
        replace hn16 := in64 hn16 (by omega) (by omega)
        refine ea rfl (by conv=>lhs;whnf) ?_
        refine ev_nil ?_
        clear hK2
        refine ⟨k + 1, ?_, ?_, ?_⟩
        · exact ⟨by omega, all_extI (Q := fun _ q => (-100000) ≤ q ∧ q ≤ 100000) hJk hpk (by omega)⟩
        · first | omega | (simp only []; omega) | (dsimp only; omega)
        · refine sub_weak ?_ ?_
          · exact weakH_none _
          · refine weakE_upd ?e5 ?r5 (weakE_upd ?e1 ?r1 (weakE_upd ?e0 ?r0 (weakE_junk _ _)))
            case e0 => first | rfl | exact fI (by omega) | (simp_all)
            case r0 => intro h hh; cases hh
            case e1 => first | rfl | exact fI (by omega) | (simp_all)
            case r1 => intro h hh; cases hh
            case e5 => first | rfl | exact fI (by omega) | (simp_all)
            case r5 => intro h hh; cases hh

-- spec.l07Ask
theorem D_spec_l07Ask (ns : List Int) (ps : List Pi) (k : Int) (hn : ns.length ≤ 17592186044416) (hp : ps.length ≤ 2513169434843) (hz : idSz ps) : Den Tryz.prog 29 [.rp [.lst 1 (ns.map ci), .lst 6 (ps.map piA)], .s (.int .i64 k)] (.s (.int .i64 (if netOk ns ps then (if 0 ≤ k ∧ k < ns.length then 0 else 2) else 1))) := by
  refine den_of_good Tryz.func29 (by decide) rfl (Nat.le_of_ble_eq_true rfl) (Nat.le_of_ble_eq_true rfl) ?_
  refine good_seq fun K1 hK1 => ?_
  refine gr rfl ?_
  refine ea rfl (by conv=>lhs;whnf) ?_
  refine ev_nil (hK1 _ ?_); clear hK1
  refine good_seq fun K2 hK2 => ?_
  refine good_seq fun K3 hK3 => ?_
  refine gr rfl ?_
  refine em rfl (by conv=>lhs;whnf) ?_
  refine ev_q rfl (q_callB rfl rfl (rfl) (D_spec_l04Ok ns ps hn hp hz) ?_)
  intro b4 hb4; cases b4
  · first | replace hb4 := dF hb4 | skip
    refine ev_q rfl (q_not rfl rfl ?_)
    refine ev_nil (hK3 _ ?_); clear hK3
    refine good_condT rfl ?_
    refine good_seq fun K5 hK5 => ?_
    refine gr rfl ?_
    refine ea rfl (by conv=>lhs;whnf) ?_
    refine ev_nil (hK5 _ ?_); clear hK5
    refine good_ret ?_
    repeat first|refine thenQ_ret ?_|refine blockQ_ret ?_
    refine ret_tmp (st := _) rfl (by conv=>lhs;whnf) rfl ?_
    clear hK2
    first | rfl | exact fI (by first | omega | grind) | (exfalso; first | omega | grind)
  · first | replace hb4 := dT hb4 | skip
    refine ev_q rfl (q_not rfl rfl ?_)
    refine ev_nil (hK3 _ ?_); clear hK3
    refine good_condF rfl ?_
    refine good_skip (hK2 _ ?_); clear hK2
    refine good_seq fun K6 hK6 => ?_
    refine good_seq fun K7 hK7 => ?_
    refine gr rfl ?_
    refine em rfl (by conv=>lhs;whnf) ?_
    refine em rfl (by conv=>lhs;whnf) ?_
    refine ev_q rfl (q_callB rfl rfl (rfl) (D_spec_l04Node ns ps _ hn) ?_)
    intro b8 hb8; cases b8
    · first | replace hb8 := dF hb8 | skip
      refine ev_q rfl (q_not rfl rfl ?_)
      refine ev_nil (hK7 _ ?_); clear hK7
      refine good_condT rfl ?_
      refine good_seq fun K9 hK9 => ?_
      refine gr rfl ?_
      refine ea rfl (by conv=>lhs;whnf) ?_
      refine ev_nil (hK9 _ ?_); clear hK9
      refine good_ret ?_
      repeat first|refine thenQ_ret ?_|refine blockQ_ret ?_
      refine ret_tmp (st := _) rfl (by conv=>lhs;whnf) rfl ?_
      clear hK6
      first | rfl | exact fI (by first | omega | grind) | (exfalso; first | omega | grind)
    · first | replace hb8 := dT hb8 | skip
      refine ev_q rfl (q_not rfl rfl ?_)
      refine ev_nil (hK7 _ ?_); clear hK7
      refine good_condF rfl ?_
      refine good_skip (hK6 _ ?_); clear hK6
      refine good_seq fun K10 hK10 => ?_
      refine gr rfl ?_
      refine ea rfl (by conv=>lhs;whnf) ?_
      refine ev_nil (hK10 _ ?_); clear hK10
      refine good_ret ?_
      repeat first|refine thenQ_ret ?_|refine blockQ_ret ?_
      refine ret_tmp (st := _) rfl (by conv=>lhs;whnf) rfl ?_
      first | rfl | exact fI (by first | omega | grind) | (exfalso; first | omega | grind)

-- impl.abs
theorem D_impl_abs (a : Int) (h : -9223372036854775807 ≤ a ∧ a ≤ 9223372036854775807) : Den Tryz.prog 84 [.s (.int .i64 a)] (.s (.int .i64 ((a.natAbs : Int)))) := by
  refine den_of_good Tryz.func84 (by decide) rfl (Nat.le_of_ble_eq_true rfl) (Nat.le_of_ble_eq_true rfl) ?_
  refine good_seq fun K1 hK1 => ?_
  refine gr rfl ?_
  refine ea rfl (by conv=>lhs;whnf) ?_
  refine ev_nil (hK1 _ ?_); clear hK1
  refine good_seq fun K2 hK2 => ?_
  refine gr rfl ?_
  refine em rfl (by conv=>lhs;whnf) ?_
  refine em rfl (by conv=>lhs;whnf) ?_
  refine ev_q rfl (q_neg rfl ?_)
  intro n3 hn3
  replace hn3 := neg64 hn3 (by omega) (by omega)
  refine ev_q rfl (q_max rfl rfl ?_)
  intro n4 hn4; simp only [mxI, mnI] at hn4
  refine ea rfl (by conv=>lhs;whnf) ?_
  refine ev_nil (hK2 _ ?_); clear hK2
  refine good_ret ?_
  repeat first|refine thenQ_ret ?_|refine blockQ_ret ?_
  refine ret_tmp (st := _) rfl (by conv=>lhs;whnf) rfl ?_
  first | rfl | exact fI (by first | omega | grind) | (exfalso; first | omega | grind)

-- impl.divRound
theorem D_impl_divRound (a b : Int) (ha : -4000000000000000000 ≤ a ∧ a ≤ 4000000000000000000) (hb : b ≠ 0 ∧ -1000000000000000000 ≤ b ∧ b ≤ 1000000000000000000) : Den Tryz.prog 63 [.s (.int .i64 a), .s (.int .i64 b)] (.s (.int .i64 (dr a b))) := by
  refine den_of_good Tryz.func63 (by decide) rfl (Nat.le_of_ble_eq_true rfl) (Nat.le_of_ble_eq_true rfl) ?_
  refine good_seq fun K1 hK1 => ?_
  refine gr rfl ?_
  refine ea rfl (by conv=>lhs;whnf) ?_
  refine ev_nil (hK1 _ ?_); clear hK1
  refine good_seq fun K2 hK2 => ?_
  refine good_draw 9 hmix (by kernel_rfl) rfl ?_
  refine qm rfl (by conv=>lhs;whnf) ?_
  refine qm rfl (by conv=>lhs;whnf) ?_
  refine qo_q rfl (q_int rfl rfl ⟨by omega, ?_⟩)
  intro n3 hn3
  replace hn3 := quoT hn3 (by omega) (by omega)
  have ht := tdiv_le (a := a) (b := b)
  rw [← hn3] at ht
  refine qm rfl (by conv=>lhs;whnf) ?_
  refine qm rfl (by conv=>lhs;whnf) ?_
  refine qo_q rfl (q_int rfl rfl ⟨by omega, ?_⟩)
  intro n4 hn4
  have hm := tmod_lt' (a := a) (b := b) (by omega)
  rw [← hn4] at hm
  refine qo_q rfl (q_callI rfl rfl (rfl) (D_impl_abs _ (by omega)) ?_)
  intro n5 hn5
  refine qa rfl (by conv=>lhs;whnf) ?_
  refine qa rfl (by conv=>lhs;whnf) ?_
  refine qo_nil ?_
  refine ev_nil (hK2 _ ?_); clear hK2
  refine good_seq fun K6 hK6 => ?_
  refine good_seq fun K7 hK7 => ?_
  refine gr rfl ?_
  refine em rfl (by conv=>lhs;whnf) ?_
  refine em rfl (by conv=>lhs;whnf) ?_
  refine ev_q rfl (q_callI rfl rfl (rfl) (D_impl_abs _ (by omega)) ?_)
  intro n8 hn8
  refine em rfl (by conv=>lhs;whnf) ?_
  refine ei rfl rfl rfl ?_
  intro n9 hn9
  replace hn9 := in64 hn9 (by omega) (by omega)
  refine ei rfl rfl rfl ?_
  intro b10 hb10; cases b10
  · replace hb10 := dF hb10
    refine ev_nil (hK7 _ ?_); clear hK7
    refine good_condF rfl ?_
    refine good_skip (hK6 _ ?_); clear hK6
    refine good_seq fun K11 hK11 => ?_
    refine gr rfl ?_
    refine em rfl (by conv=>lhs;whnf) ?_
    refine ea rfl (by conv=>lhs;whnf) ?_
    refine ev_nil (hK11 _ ?_); clear hK11
    refine good_ret ?_
    repeat first|refine thenQ_ret ?_|refine blockQ_ret ?_
    refine ret_tmp (st := _) rfl (by conv=>lhs;whnf) rfl ?_
    exact fI (by rw [dr_eq (q := n3) (r := n5) (by omega) hn3 (by rw [hn5, hn4])]; first | (rw [if_neg (by omega)]) | (rw [if_pos (by omega)]; first | (rw [if_pos (decide_eq_decide.2 (by omega))]; omega) | (rw [if_neg (fun h => by have := decide_eq_decide.1 h; omega)]; omega)))
  · replace hb10 := dT hb10
    refine ev_nil (hK7 _ ?_); clear hK7
    refine good_condT rfl ?_
    refine good_seq fun K12 hK12 => ?_
    refine good_seq fun K13 hK13 => ?_
    refine gr rfl ?_
    refine em rfl (by conv=>lhs;whnf) ?_
    refine ei rfl rfl rfl ?_
    intro b14 hb14; cases b14
    · replace hb14 := dF hb14
      refine em rfl (by conv=>lhs;whnf) ?_
      refine ei rfl rfl rfl ?_
      intro b15 hb15; cases b15
      · replace hb15 := dF hb15
        refine ev_q rfl (q_beq tB4 rfl rfl ?_)
        intro b16 hb16; replace hb16 : b16 = true := hb16; subst hb16
        refine ev_nil (hK13 _ ?_); clear hK13
        refine good_condT rfl ?_
        refine good_seq fun K17 hK17 => ?_
        refine gr rfl ?_
        refine em rfl (by conv=>lhs;whnf) ?_
        refine ei rfl rfl rfl ?_
        intro n18 hn18
        replace hn18 := in64 hn18 (by omega) (by omega)
        refine ea rfl (by conv=>lhs;whnf) ?_
        refine ev_nil (hK17 _ ?_); clear hK17
        refine good_ret ?_
        repeat first|refine thenQ_ret ?_|refine blockQ_ret ?_
        refine ret_tmp (st := _) rfl (by conv=>lhs;whnf) rfl ?_
        clear hK6 hK12
        exact fI (by rw [dr_eq (q := n3) (r := n5) (by omega) hn3 (by rw [hn5, hn4])]; first | (rw [if_neg (by omega)]) | (rw [if_pos (by omega)]; first | (rw [if_pos (decide_eq_decide.2 (by omega))]; omega) | (rw [if_neg (fun h => by have := decide_eq_decide.1 h; omega)]; omega)))
      · replace hb15 := dT hb15
        refine ev_q rfl (q_beq tB4 rfl rfl ?_)
        intro b19 hb19; replace hb19 : b19 = false := hb19; subst hb19
        refine ev_nil (hK13 _ ?_); clear hK13
        refine good_condF rfl ?_
        refine good_skip (hK12 _ ?_); clear hK12
        refine good_seq fun K20 hK20 => ?_
        refine gr rfl ?_
        refine em rfl (by conv=>lhs;whnf) ?_
        refine ei rfl rfl rfl ?_
        intro n21 hn21
        replace hn21 := in64 hn21 (by omega) (by omega)
        refine ea rfl (by conv=>lhs;whnf) ?_
        refine ev_nil (hK20 _ ?_); clear hK20
        refine good_ret ?_
        repeat first|refine thenQ_ret ?_|refine blockQ_ret ?_
        refine ret_tmp (st := _) rfl (by conv=>lhs;whnf) rfl ?_
        clear hK6
        exact fI (by rw [dr_eq (q := n3) (r := n5) (by omega) hn3 (by rw [hn5, hn4])]; first | (rw [if_neg (by omega)]) | (rw [if_pos (by omega)]; first | (rw [if_pos (decide_eq_decide.2 (by omega))]; omega) | (rw [if_neg (fun h => by have := decide_eq_decide.1 h; omega)]; omega)))
    · replace hb14 := dT hb14
      refine em rfl (by conv=>lhs;whnf) ?_
      refine ei rfl rfl rfl ?_
      intro b22 hb22; cases b22
      · replace hb22 := dF hb22
        refine ev_q rfl (q_beq tB4 rfl rfl ?_)
        intro b23 hb23; replace hb23 : b23 = false := hb23; subst hb23
        refine ev_nil (hK13 _ ?_); clear hK13
        refine good_condF rfl ?_
        refine good_skip (hK12 _ ?_); clear hK12
        refine good_seq fun K24 hK24 => ?_
        refine gr rfl ?_
        refine em rfl (by conv=>lhs;whnf) ?_
        refine ei rfl rfl rfl ?_
        intro n25 hn25
        replace hn25 := in64 hn25 (by omega) (by omega)
        refine ea rfl (by conv=>lhs;whnf) ?_
        refine ev_nil (hK24 _ ?_); clear hK24
        refine good_ret ?_
        repeat first|refine thenQ_ret ?_|refine blockQ_ret ?_
        refine ret_tmp (st := _) rfl (by conv=>lhs;whnf) rfl ?_
        clear hK6
        exact fI (by rw [dr_eq (q := n3) (r := n5) (by omega) hn3 (by rw [hn5, hn4])]; first | (rw [if_neg (by omega)]) | (rw [if_pos (by omega)]; first | (rw [if_pos (decide_eq_decide.2 (by omega))]; omega) | (rw [if_neg (fun h => by have := decide_eq_decide.1 h; omega)]; omega)))
      · replace hb22 := dT hb22
        refine ev_q rfl (q_beq tB4 rfl rfl ?_)
        intro b26 hb26; replace hb26 : b26 = true := hb26; subst hb26
        refine ev_nil (hK13 _ ?_); clear hK13
        refine good_condT rfl ?_
        refine good_seq fun K27 hK27 => ?_
        refine gr rfl ?_
        refine em rfl (by conv=>lhs;whnf) ?_
        refine ei rfl rfl rfl ?_
        intro n28 hn28
        replace hn28 := in64 hn28 (by omega) (by omega)
        refine ea rfl (by conv=>lhs;whnf) ?_
        refine ev_nil (hK27 _ ?_); clear hK27
        refine good_ret ?_
        repeat first|refine thenQ_ret ?_|refine blockQ_ret ?_
        refine ret_tmp (st := _) rfl (by conv=>lhs;whnf) rfl ?_
        clear hK6 hK12
        exact fI (by rw [dr_eq (q := n3) (r := n5) (by omega) hn3 (by rw [hn5, hn4])]; first | (rw [if_neg (by omega)]) | (rw [if_pos (by omega)]; first | (rw [if_pos (decide_eq_decide.2 (by omega))]; omega) | (rw [if_neg (fun h => by have := decide_eq_decide.1 h; omega)]; omega)))

-- spec.l01Div
theorem D_spec_l01Div (a b : Int) (ha : -4000000000000000000 ≤ a ∧ a ≤ 4000000000000000000) (hb : b ≠ 0 ∧ -1000000000000000000 ≤ b ∧ b ≤ 1000000000000000000) : Den Tryz.prog 104 [.s (.int .i64 a), .s (.int .i64 b)] (.s (.int .i64 (dr a b))) := by
  refine den_of_good Tryz.func104 (by decide) rfl (Nat.le_of_ble_eq_true rfl) (Nat.le_of_ble_eq_true rfl) ?_
  refine good_seq fun K1 hK1 => ?_
  refine gr rfl ?_
  refine ea rfl (by conv=>lhs;whnf) ?_
  refine ev_nil (hK1 _ ?_); clear hK1
  refine good_seq fun K2 hK2 => ?_
  refine good_seq fun K3 hK3 => ?_
  refine gr rfl ?_
  refine em rfl (by conv=>lhs;whnf) ?_
  refine ei rfl rfl rfl ?_
  intro b4 hb4; cases b4
  · replace hb4 := dF hb4
    refine ev_nil (hK3 _ ?_); clear hK3
    refine good_condF rfl ?_
    refine good_skip (hK2 _ ?_); clear hK2
    refine good_seq fun K5 hK5 => ?_
    refine good_seq fun K6 hK6 => ?_
    refine gr rfl ?_
    refine em rfl (by conv=>lhs;whnf) ?_
    refine ei rfl rfl rfl ?_
    intro b7 hb7; cases b7
    · replace hb7 := dF hb7
      refine ev_nil (hK6 _ ?_); clear hK6
      refine good_condF rfl ?_
      refine good_skip (hK5 _ ?_); clear hK5
      refine good_seq fun K8 hK8 => ?_
      refine gr rfl ?_
      refine em rfl (by conv=>lhs;whnf) ?_
      refine ei rfl rfl rfl ?_
      intro n9 hn9
      replace hn9 := in64 hn9 (by omega) (by omega)
      refine em rfl (by conv=>lhs;whnf) ?_
      refine ei rfl rfl rfl ?_
      intro n10 hn10
      replace hn10 := in64 hn10 (by omega) (by omega)
      refine em rfl (by conv=>lhs;whnf) ?_
      refine ei rfl rfl rfl ?_
      intro n11 hn11
      replace hn11 := in64 hn11 (by omega) (by omega)
      refine ei rfl rfl rfl ⟨by omega, ?_⟩
      intro n12 hn12
      first | replace hn12 := quoE hn12 (by omega) (by omega) | replace hn12 := quoT hn12 (by omega) (by omega)
      refine ea rfl (by conv=>lhs;whnf) ?_
      refine ev_nil (hK8 _ ?_); clear hK8
      refine good_ret ?_
      repeat first|refine thenQ_ret ?_|refine blockQ_ret ?_
      refine ret_tmp (st := _) rfl (by conv=>lhs;whnf) rfl ?_
      exact fI (by simp only [dr, drP]; subst_vars; first | rw [if_pos (by omega), if_pos (by omega)] | rw [if_pos (by omega), if_neg (by omega)] | rw [if_neg (by omega), if_pos (by omega)] | rw [if_neg (by omega), if_neg (by omega)])
    · replace hb7 := dT hb7
      refine ev_nil (hK6 _ ?_); clear hK6
      refine good_condT rfl ?_
      refine good_seq fun K13 hK13 => ?_
      refine gr rfl ?_
      refine em rfl (by conv=>lhs;whnf) ?_
      refine em rfl (by conv=>lhs;whnf) ?_
      refine ei rfl rfl rfl ?_
      intro n14 hn14
      replace hn14 := in64 hn14 (by omega) (by omega)
      refine ei rfl rfl rfl ?_
      intro n15 hn15
      replace hn15 := in64 hn15 (by omega) (by omega)
      refine em rfl (by conv=>lhs;whnf) ?_
      refine ei rfl rfl rfl ?_
      intro n16 hn16
      replace hn16 := in64 hn16 (by omega) (by omega)
      refine ei rfl rfl rfl ⟨by omega, ?_⟩
      intro n17 hn17
      first | replace hn17 := quoE hn17 (by omega) (by omega) | replace hn17 := quoT hn17 (by omega) (by omega)
      refine ev_q rfl (q_neg rfl ?_)
      intro n18 hn18
      have hd := divB (x := n15) (y := n16) (by omega) (by omega)
      rw [← hn17] at hd
      replace hn18 := neg64 hn18 (by omega) (by omega)
      refine ea rfl (by conv=>lhs;whnf) ?_
      refine ev_nil (hK13 _ ?_); clear hK13
      refine good_ret ?_
      repeat first|refine thenQ_ret ?_|refine blockQ_ret ?_
      refine ret_tmp (st := _) rfl (by conv=>lhs;whnf) rfl ?_
      clear hK5
      exact fI (by simp only [dr, drP]; subst_vars; first | rw [if_pos (by omega), if_pos (by omega)] | rw [if_pos (by omega), if_neg (by omega)] | rw [if_neg (by omega), if_pos (by omega)] | rw [if_neg (by omega), if_neg (by omega)])
  · replace hb4 := dT hb4
    refine ev_nil (hK3 _ ?_); clear hK3
    refine good_condT rfl ?_
    refine good_seq fun K19 hK19 => ?_
    refine gr rfl ?_
    refine em rfl (by conv=>lhs;whnf) ?_
    refine ev_q rfl (q_neg rfl ?_)
    intro n20 hn20
    replace hn20 := neg64 hn20 (by omega) (by omega)
    refine ea rfl (by conv=>lhs;whnf) ?_
    refine ev_nil (hK19 _ ?_); clear hK19
    refine gr rfl ?_
    refine em rfl (by conv=>lhs;whnf) ?_
    refine ev_q rfl (q_neg rfl ?_)
    intro n21 hn21
    replace hn21 := neg64 hn21 (by omega) (by omega)
    refine ea rfl (by conv=>lhs;whnf) ?_
    refine ev_nil (hK2 _ ?_); clear hK2
    refine good_seq fun K22 hK22 => ?_
    refine good_seq fun K23 hK23 => ?_
    refine gr rfl ?_
    refine em rfl (by conv=>lhs;whnf) ?_
    refine ei rfl rfl rfl ?_
    intro b24 hb24; cases b24
    · replace hb24 := dF hb24
      refine ev_nil (hK23 _ ?_); clear hK23
      refine good_condF rfl ?_
      refine good_skip (hK22 _ ?_); clear hK22
      refine good_seq fun K25 hK25 => ?_
      refine gr rfl ?_
      refine em rfl (by conv=>lhs;whnf) ?_
      refine ei rfl rfl rfl ?_
      intro n26 hn26
      replace hn26 := in64 hn26 (by omega) (by omega)
      refine em rfl (by conv=>lhs;whnf) ?_
      refine ei rfl rfl rfl ?_
      intro n27 hn27
      replace hn27 := in64 hn27 (by omega) (by omega)
      refine em rfl (by conv=>lhs;whnf) ?_
      refine ei rfl rfl rfl ?_
      intro n28 hn28
      replace hn28 := in64 hn28 (by omega) (by omega)
      refine ei rfl rfl rfl ⟨by omega, ?_⟩
      intro n29 hn29
      first | replace hn29 := quoE hn29 (by omega) (by omega) | replace hn29 := quoT hn29 (by omega) (by omega)
      refine ea rfl (by conv=>lhs;whnf) ?_
      refine ev_nil (hK25 _ ?_); clear hK25
      refine good_ret ?_
      repeat first|refine thenQ_ret ?_|refine blockQ_ret ?_
      refine ret_tmp (st := _) rfl (by conv=>lhs;whnf) rfl ?_
      exact fI (by simp only [dr, drP]; subst_vars; first | rw [if_pos (by omega), if_pos (by omega)] | rw [if_pos (by omega), if_neg (by omega)] | rw [if_neg (by omega), if_pos (by omega)] | rw [if_neg (by omega), if_neg (by omega)])
    · replace hb24 := dT hb24
      refine ev_nil (hK23 _ ?_); clear hK23
      refine good_condT rfl ?_
      refine good_seq fun K30 hK30 => ?_
      refine gr rfl ?_
      refine em rfl (by conv=>lhs;whnf) ?_
      refine em rfl (by conv=>lhs;whnf) ?_
      refine ei rfl rfl rfl ?_
      intro n31 hn31
      replace hn31 := in64 hn31 (by omega) (by omega)
      refine ei rfl rfl rfl ?_
      intro n32 hn32
      replace hn32 := in64 hn32 (by omega) (by omega)
      refine em rfl (by conv=>lhs;whnf) ?_
      refine ei rfl rfl rfl ?_
      intro n33 hn33
      replace hn33 := in64 hn33 (by omega) (by omega)
      refine ei rfl rfl rfl ⟨by omega, ?_⟩
      intro n34 hn34
      first | replace hn34 := quoE hn34 (by omega) (by omega) | replace hn34 := quoT hn34 (by omega) (by omega)
      refine ev_q rfl (q_neg rfl ?_)
      intro n35 hn35
      have hd := divB (x := n32) (y := n33) (by omega) (by omega)
      rw [← hn34] at hd
      replace hn35 := neg64 hn35 (by omega) (by omega)
      refine ea rfl (by conv=>lhs;whnf) ?_
      refine ev_nil (hK30 _ ?_); clear hK30
      refine good_ret ?_
      repeat first|refine thenQ_ret ?_|refine blockQ_ret ?_
      refine ret_tmp (st := _) rfl (by conv=>lhs;whnf) rfl ?_
      clear hK22
      exact fI (by simp only [dr, drP]; subst_vars; first | rw [if_pos (by omega), if_pos (by omega)] | rw [if_pos (by omega), if_neg (by omega)] | rw [if_neg (by omega), if_pos (by omega)] | rw [if_neg (by omega), if_neg (by omega)])

-- spec.l00Max
theorem D_spec_l00Max (a b : Int)  : Den Tryz.prog 35 [.s (.int .i64 a), .s (.int .i64 b)] (.s (.int .i64 (if a > b then a else b))) := by
  refine den_of_good Tryz.func35 (by decide) rfl (Nat.le_of_ble_eq_true rfl) (Nat.le_of_ble_eq_true rfl) ?_
  refine good_seq fun K1 hK1 => ?_
  refine gr rfl ?_
  refine ea rfl (by conv=>lhs;whnf) ?_
  refine ev_nil (hK1 _ ?_); clear hK1
  refine good_seq fun K2 hK2 => ?_
  refine good_seq fun K3 hK3 => ?_
  refine gr rfl ?_
  refine em rfl (by conv=>lhs;whnf) ?_
  refine em rfl (by conv=>lhs;whnf) ?_
  refine ei rfl rfl rfl ?_
  intro b4 hb4; cases b4
  · replace hb4 := dF hb4
    refine ev_nil (hK3 _ ?_); clear hK3
    refine good_condF rfl ?_
    refine good_skip (hK2 _ ?_); clear hK2
    refine good_seq fun K5 hK5 => ?_
    refine gr rfl ?_
    refine em rfl (by conv=>lhs;whnf) ?_
    refine ea rfl (by conv=>lhs;whnf) ?_
    refine ev_nil (hK5 _ ?_); clear hK5
    refine good_ret ?_
    repeat first|refine thenQ_ret ?_|refine blockQ_ret ?_
    refine ret_tmp (st := _) rfl (by conv=>lhs;whnf) rfl ?_
    first | rfl | exact fI (by first | omega | grind) | (exfalso; first | omega | grind)
  · replace hb4 := dT hb4
    refine ev_nil (hK3 _ ?_); clear hK3
    refine good_condT rfl ?_
    refine good_seq fun K6 hK6 => ?_
    refine gr rfl ?_
    refine em rfl (by conv=>lhs;whnf) ?_
    refine ea rfl (by conv=>lhs;whnf) ?_
    refine ev_nil (hK6 _ ?_); clear hK6
    refine good_ret ?_
    repeat first|refine thenQ_ret ?_|refine blockQ_ret ?_
    refine ret_tmp (st := _) rfl (by conv=>lhs;whnf) rfl ?_
    clear hK2
    first | rfl | exact fI (by first | omega | grind) | (exfalso; first | omega | grind)

-- spec.l03Abs
theorem D_spec_l03Abs (a : Int) (h : -9223372036854775807 ≤ a ∧ a ≤ 9223372036854775807) : Den Tryz.prog 103 [.s (.int .i64 a)] (.s (.int .i64 ((a.natAbs : Int)))) := by
  refine den_of_good Tryz.func103 (by decide) rfl (Nat.le_of_ble_eq_true rfl) (Nat.le_of_ble_eq_true rfl) ?_
  refine good_seq fun K1 hK1 => ?_
  refine gr rfl ?_
  refine ea rfl (by conv=>lhs;whnf) ?_
  refine ev_nil (hK1 _ ?_); clear hK1
  refine good_seq fun K2 hK2 => ?_
  refine gr rfl ?_
  refine em rfl (by conv=>lhs;whnf) ?_
  refine em rfl (by conv=>lhs;whnf) ?_
  refine ev_q rfl (q_neg rfl ?_)
  intro n3 hn3
  replace hn3 := neg64 hn3 (by omega) (by omega)
  refine ev_q rfl (q_callI rfl rfl (rfl) (D_spec_l00Max ..) ?_)
  intro n4 hn4
  refine ea rfl (by conv=>lhs;whnf) ?_
  refine ev_nil (hK2 _ ?_); clear hK2
  refine good_ret ?_
  repeat first|refine thenQ_ret ?_|refine blockQ_ret ?_
  refine ret_tmp (st := _) rfl (by conv=>lhs;whnf) rfl ?_
  first | rfl | exact fI (by first | omega | grind) | (exfalso; first | omega | grind)

-- (impl.Network).ways
theorem D_impl_Network_ways (ns : List Int) (ps : List Pi) (s : Int) (hn : ns.length ≤ 17592186044416) (hp : ps.length ≤ 2513169434843) (hz : idSz ps) (ok : netOk ns ps) (hs : 0 ≤ s ∧ s < ns.length) : DenX Tryz.prog 86 [] [.agg [.lst 1 (ns.map ci), .lst 6 (ps.map piA)], .s (.int .i64 s)] [(900001, .row 103 3 ((waysF (ps.map pe) ns.length s.toNat).2.map wyA))] (.own 900001 (waysF (ps.map pe) ns.length s.toNat).2.length) := by
  have h16 := ok.1.1
  have h20 := ok.1.2.2
  have hlt := esF_lt ok
  refine denX_of_good Tryz.func86 (by decide) rfl (Nat.le_of_ble_eq_true rfl) (Nat.le_of_ble_eq_true rfl) rfl ?_
  refine good_seq fun K1 hK1 => ?_
  refine gr rfl ?_
  refine ev_k rfl (k_box (by conv=>lhs;whnf) rfl rfl rfl ?_)
  refine ea rfl (by conv=>lhs;whnf) ?_
  refine ev_nil (hK1 _ ?_); clear hK1
  refine good_seq fun K2 hK2 => ?_
  refine gr rfl ?_
  refine ea rfl (by conv=>lhs;whnf) ?_
  refine ev_nil (hK2 _ ?_); clear hK2
  refine good_seq fun K3 hK3 => ?_
  refine gr rfl ?_
  refine em rfl (by conv=>lhs;whnf) ?_
  refine ev_k rfl (k_lit tE22 zA2 rfl rfl (by decide) (by decide) rfl rfl rfl ?_)
  refine ea rfl (by conv=>lhs;whnf) ?_
  refine ev_nil (hK3 _ ?_); clear hK3
  refine good_seq fun K4 hK4 => ?_
  refine good_seq fun K5 hK5 => ?_
  refine gr rfl ?_
  refine ea rfl (by conv=>lhs;whnf) ?_
  refine ev_nil (hK5 _ ?_); clear hK5
  refine good_block ?_
  refine good_loop (α := Nat × (List Nat × List (Nat × Nat × Nat))) (fun (k, y) => { env := upd (upd (upd (upd ((fun _ => .junk)) 2 (.ptr 2 0)) 5 (.own 57 y.2.length)) 6 (.own 47 (toI y.1).length)) 7 (.s (.int .i64 ((k : Int)))), H := upd (upd (upd ((fun _ => none)) 57 (some (.row 103 3 (y.2.map wyA)))) 47 (some (.row 2 1 ((toI y.1).map ci)))) 2 (some (.box 31 [.lst 1 (ns.map ci), .lst 6 (ps.map piA)])) }) (fun (k, y) => (k ≤ y.1.length ∧ y.2.length ≤ y.1.length) ∧ Inv (ps.map pe) ns.length s.toNat y.1 ∧ wyO (ps.map pe) (ns.length - k) k y = (waysF (ps.map pe) ns.length s.toNat)) (fun (k, y) => ns.length - k) (0, ([s.toNat], [])) ?_ ?_ ?_
  · exact ⟨⟨by simp, by simp⟩, ⟨by simp, fun v hv => by have e : v = s.toNat := (by simpa using hv); rw [e]; omega, fun v hv => by have e : v = s.toNat := (by simpa using hv); rw [e]; exact .rfl _, by simp⟩, rfl⟩
  · refine Sub.trans (sub_move 6 13 47 rfl rfl rfl (by decide)) ?_
    refine Sub.trans (sub_nil 5 57 103 3 rfl rfl (by decide)) ?_
    refine sub_weak ?_ ?_
    · exact weakH_box (boxEq (rfl)) rfl (weakH_row (rowEq (by show [ci s] = [ci ((s.toNat : Nat) : Int)]; rw [show ((s.toNat : Nat) : Int) = s by omega])) (weakH_row (rowEq (rfl)) (weakH_none _)))
    · refine weakE_upd ?e7 ?r7 (weakE_upd ?e6 ?r6 (weakE_upd ?e5 ?r5 (weakE_upd ?e2 ?r2 (weakE_junk _ _))))
      case e2 => first | rfl | exact fI (by omega) | (simp_all)
      case r2 => intro h hh; simp [refs] at hh; subst hh; rfl
      case e5 => first | rfl | exact fI (by omega) | (simp_all)
      case r5 => intro h hh; simp [refs] at hh; subst hh; rfl
      case e6 => first | rfl | exact fI (by omega) | (simp_all)
      case r6 => intro h hh; simp [refs] at hh; subst hh; rfl
      case e7 => first | rfl | exact fI (by omega) | (simp_all)
      case r7 => intro h hh; cases hh
  · rintro ⟨k, y⟩ ⟨⟨hK, hK2⟩, hV, hF⟩
    refine good_seq fun K6 hK6 => ?_
    refine good_seq fun K7 hK7 => ?_
    refine gr rfl ?_
    refine em rfl (by conv=>lhs;whnf) ?_
    refine em rfl (by conv=>lhs;whnf) ?_
    refine ev_q rfl (q_len tEs22 rfl ?_)
    intro n8 hn8
    try simp only [List.length_map] at hn8
    refine ei rfl rfl rfl ?_
    intro b9 hb9; cases b9
    · replace hb9 := dF hb9
      have hkl : y.1.length ≤ k := by rw [toI_len] at *; omega
      have hln := len_le y.1 hV.nd hV.lt
      refine ev_nil (hK7 _ ?_); clear hK7
      refine good_condF rfl ?_
      refine good_exit ?_
      repeat first|refine thenQ_exit ?_|refine blockQ_pass rfl ?_
      refine blockQ_exit (hK4 _ ?_); clear hK4
      refine good_seq fun K10 hK10 => ?_
      refine gr rfl ?_
      refine em rfl (by conv=>lhs;whnf) ?_
      refine ea rfl (by conv=>lhs;whnf) ?_
      refine ev_nil (hK10 _ ?_); clear hK10
      refine good_weak (sub_move 4 57 900001 rfl rfl rfl (by decide)) ?_
      refine good_ret ?_
      repeat first|refine thenQ_ret ?_|refine blockQ_ret ?_
      refine fx_tmp rfl (by conv=>lhs;whnf) ?_
      clear hK6
      have e : (waysF (ps.map pe) ns.length s.toNat) = y := by rw [← hF]; exact wyO_e hkl
      exact ⟨_, conv_eq (by first | rfl | (rw [e]; done) | (rw [e]; rfl) | exact ownEq (by first | omega | simp_all)), weakH_row (rowEq (by first | (rw [e]; done) | (rw [e]; rfl))) (weakH_none _), refsIn_ok rfl⟩
    · replace hb9 := dT hb9
      have hkl : k < y.1.length := by rw [toI_len] at *; omega
      obtain ⟨u, hu⟩ : ∃ u, y.1[k]? = some u := ⟨_, List.getElem?_eq_getElem hkl⟩
      have hln := len_le y.1 hV.nd hV.lt
      refine ev_nil (hK7 _ ?_); clear hK7
      refine good_condT rfl ?_
      refine good_skip (hK6 _ ?_); clear hK6
      refine good_seq fun K11 hK11 => ?_
      refine good_block ?_
      refine good_seq fun K12 hK12 => ?_
      refine gr rfl ?_
      refine ev_q rfl (q_fieldAddrP fO31_1 rfl rfl ?_)
      refine ev_q rfl (q_load tA29 rfl ?_)
      refine ev_q rfl (q_len tEs29 rfl ?_)
      intro n13 hn13
      try simp only [List.length_map] at hn13
      refine em rfl (by conv=>lhs;whnf) ?_
      refine ev_nil (hK12 _ ?_); clear hK12
      refine good_block ?_
      refine good_loop (α := Nat × (List Nat × List (Nat × Nat × Nat))) (fun (i, z) => { env := upd (upd (upd (upd (upd (upd (upd ((fun _ => .junk)) 2 (.ptr 2 0)) 5 (.own 57 z.2.length)) 6 (.own 47 (toI z.1).length)) 7 (.s (.int .i64 ((k : Int))))) 21 (.lst 6 (ps.map piA))) 22 (.s (.int .i64 ((ps.length : Int))))) 23 (.s (.int .i64 ((i : Int)))), H := upd (upd (upd ((fun _ => none)) 57 (some (.row 103 3 (z.2.map wyA)))) 47 (some (.row 2 1 ((toI z.1).map ci)))) 2 (some (.box 31 [.lst 1 (ns.map ci), .lst 6 (ps.map piA)])) }) (fun (i, z) => i ≤ ps.length ∧ Inv (ps.map pe) ns.length s.toNat z.1 ∧ (∃ t, z.1 = y.1 ++ t) ∧ wyI u ((ps.map pe).drop i) i z = wyI u (ps.map pe) 0 y ∧ z.2.length ≤ z.1.length) (fun (i, z) => ps.length - i) (0, y) ?_ ?_ ?_
      · exact ⟨Nat.zero_le _, hV, ⟨[], by simp⟩, rfl, hK2⟩
      · refine sub_weak ?_ ?_
        · exact weakH_box (boxEq (rfl)) rfl (weakH_row (rowEq (rfl)) (weakH_row (rowEq (rfl)) (weakH_none _)))
        · refine weakE_upd ?e23 ?r23 (weakE_upd ?e22 ?r22 (weakE_upd ?e21 ?r21 (weakE_upd ?e7 ?r7 (weakE_upd ?e6 ?r6 (weakE_upd ?e5 ?r5 (weakE_upd ?e2 ?r2 (weakE_junk _ _)))))))
          case e2 => first | rfl | exact fI (by omega) | (simp_all)
          case r2 => intro h hh; simp [refs] at hh; subst hh; rfl
          case e5 => first | rfl | exact fI (by omega) | (first | rfl | exact ownEq (by simp))
          case r5 => intro h hh; simp [refs] at hh; subst hh; rfl
          case e6 => first | rfl | exact fI (by omega) | (first | rfl | exact ownEq (by simp [toI_len]))
          case r6 => intro h hh; simp [refs] at hh; subst hh; rfl
          case e7 => first | rfl | exact fI (by omega) | (simp_all)
          case r7 => intro h hh; cases hh
          case e21 => first | rfl | exact fI (by omega) | (simp_all)
          case r21 => intro h hh; cases hh
          case e22 => first | rfl | exact fI (by omega) | (simp_all)
          case r22 => intro h hh; cases hh
          case e23 => first | rfl | exact fI (by omega) | (simp_all)
          case r23 => intro h hh; cases hh
      · rintro ⟨i, z⟩ ⟨hI, hW, hP, hB, hZ⟩
        refine good_seq fun K14 hK14 => ?_
        refine gr rfl ?_
        refine ei rfl rfl rfl ?_
        intro b15 hb15; cases b15
        · replace hb15 := dF hb15
          refine ev_nil (hK14 _ ?_); clear hK14
          refine good_seq fun K16 hK16 => ?_
          refine good_condF rfl ?_
          refine good_exit ?_
          repeat first|refine thenQ_exit ?_|refine blockQ_pass rfl ?_
          refine blockQ_exit (hK11 _ ?_); clear hK11
          refine gr rfl ?_
          refine em rfl (by conv=>lhs;whnf) ?_
          refine ei rfl rfl rfl ?_
          intro n17 hn17
          replace hn17 := in64 hn17 (by omega) (by omega)
          refine ea rfl (by conv=>lhs;whnf) ?_
          refine ev_nil ?_
          clear hK4 hK16
          refine ⟨(k + 1, z), ?_, ?_, ?_⟩
          · refine ⟨⟨?_, hZ⟩, hW, ?_⟩
            · obtain ⟨t, ht⟩ := hP
              have := congrArg List.length ht
              rw [List.length_append] at this
              show k + 1 ≤ z.1.length; omega
            · show wyO _ _ (k + 1) z = _
              rw [wyI_end (by omega)] at hB
              rw [← hF, wyO_s hu (by omega), hB]
          · first | omega | (dsimp only; omega)
          · refine sub_weak ?_ ?_
            · exact weakH_box (boxEq (rfl)) rfl (weakH_row (rowEq (rfl)) (weakH_row (rowEq (rfl)) (weakH_none _)))
            · refine weakE_upd ?e7 ?r7 (weakE_upd ?e6 ?r6 (weakE_upd ?e5 ?r5 (weakE_upd ?e2 ?r2 (weakE_junk _ _))))
              case e2 => first | rfl | exact fI (by omega) | (simp_all)
              case r2 => intro h hh; simp [refs] at hh; subst hh; rfl
              case e5 => first | rfl | exact fI (by omega) | (simp_all)
              case r5 => intro h hh; simp [refs] at hh; subst hh; rfl
              case e6 => first | rfl | exact fI (by omega) | (simp_all)
              case r6 => intro h hh; simp [refs] at hh; subst hh; rfl
              case e7 => first | rfl | exact fI (by omega) | (simp_all)
              case r7 => intro h hh; cases hh
        · replace hb15 := dT hb15
          obtain ⟨p, hpp⟩ := getL (xs := ps) (n := (i : Int)) (by omega) (by omega)
          replace hpp : ps[i]? = some p := hpp
          have hpo := (ok.2 i p hpp).1
          have hp1 := hpo.1.2.1
          have hp2 := hpo.1.2.2.1
          have hlv := len_le z.1 hW.nd hW.lt
          have hP0 := hP
          obtain ⟨t, ht⟩ := hP
          have hv : z.1[k]? = some u := by rw [ht, List.getElem?_append_left hkl]; exact hu
          have hbd := wyI_d (u := u) (y := z) hpp
          refine ev_nil (hK14 _ ?_); clear hK14
          refine good_seq fun K18 hK18 => ?_
          refine good_condT rfl ?_
          refine good_skip (hK18 _ ?_); clear hK18
          refine good_seq fun K19 hK19 => ?_
          refine good_block ?_
          refine good_seq fun K20 hK20 => ?_
          refine gr rfl ?_
          refine em rfl (by conv=>lhs;whnf) ?_
          refine ev_q rfl (q_idx tE29 rfl rfl (by exact Int.natCast_nonneg _) (by exact map_get hpp) rfl ?_)
          refine ev_q rfl (q_loadA tA95 rfl rfl rfl ?_)
          refine ev_k rfl (k_alloc zA95 rfl ?_)
          refine ea rfl (by conv=>lhs;whnf) ?_
          refine ev_k rfl (k_store sz95 rfl (by conv=>lhs;whnf) rfl rfl rfl (Nat.le_of_ble_eq_true rfl) rfl ?_)
          refine ev_nil (hK20 _ ?_); clear hK20
          refine good_seq fun K21 hK21 => ?_
          refine good_draw 11 hmix (by kernel_rfl) rfl ?_
          refine qo_q rfl (q_loadA tA95 rfl rfl rfl ?_)
          refine qm rfl (by conv=>lhs;whnf) ?_
          refine qm rfl (by conv=>lhs;whnf) ?_
          refine qo_q rfl (q_idxO tE22 rfl rfl rfl (by exact Int.natCast_nonneg _) (by have := congrArg List.length ht; rw [List.length_append] at this; first | omega | (rw [toI_len]; omega) | (simp [toI_len]; omega)) rfl ?_)
          refine qo_q rfl (q_loadE tA2 rfl rfl (by exact toI_get hv) rfl ?_)
          refine qo_q rfl (q_call rfl rfl (rfl) (D_impl_Pipe_other ..) rfl ?_)
          refine qm rfl (by conv=>lhs;whnf) ?_
          refine qo_q rfl (q_extractI rfl rfl ?_)
          intro n22 hn22
          refine qo_q rfl (q_extractB rfl rfl ?_)
          intro b23 hb23; cases b23
          · first | replace hb23 := dF hb23 | skip
            refine qa rfl (by conv=>lhs;whnf) ?_
            refine qa rfl (by conv=>lhs;whnf) ?_
            refine qo_nil ?_
            refine ev_nil (hK21 _ ?_); clear hK21
            refine good_seq fun K24 hK24 => ?_
            refine gr rfl ?_
            refine em rfl (by conv=>lhs;whnf) ?_
            refine em rfl (by conv=>lhs;whnf) ?_
            refine ev_skip rfl ?_
            refine ev_skip rfl ?_
            refine ev_skip rfl ?_
            refine ev_skip rfl ?_
            refine ev_q rfl (q_pickF rfl (by conv=>lhs;whnf) ?_)
            refine ev_nil (hK24 _ ?_); clear hK24
            refine good_condF rfl ?_
            refine good_skip (hK19 _ ?_); clear hK19
            refine gr rfl ?_
            refine ei rfl rfl rfl ?_
            intro n25 hn25
            replace hn25 := in64 hn25 (by omega) (by omega)
            refine em rfl (by conv=>lhs;whnf) ?_
            refine ev_nil ?_
            clear hK4 hK11
            refine ⟨(i + 1, z), ?_, ?_, ?_⟩
            · refine ⟨by first | omega | (dsimp only; omega), hW, hP0, ?_, hZ⟩
              show wyI u _ _ z = _
              first | (have hE := wyE_F (i := i) (y := z) (oth_n (p := p) (u := u) (by omega) (by omega) (by assumption)); rw [hE] at hbd; exact hbd.symm.trans hB) | (have hox := oth_y (p := p) (u := u) (by omega) (by omega) (by assumption); rw [← hn22] at hox; have hE := wyE_M (i := i) (y := z) hox.1 ((toI_mem hox.2).1 (by assumption)); rw [hE] at hbd; exact hbd.symm.trans hB) | (exfalso; contradiction) | (exfalso; simp_all; done)
            · first | omega | (dsimp only; omega)
            · refine sub_weak ?_ ?_
              · exact weakH_box (boxEq (rfl)) rfl (weakH_row (rowEq (by first | rfl | exact toI_app hox.2)) (weakH_row (rowEq (by first | rfl | exact wyA_app hox.2)) (weakH_none _)))
              · refine weakE_upd ?e23 ?r23 (weakE_upd ?e22 ?r22 (weakE_upd ?e21 ?r21 (weakE_upd ?e7 ?r7 (weakE_upd ?e6 ?r6 (weakE_upd ?e5 ?r5 (weakE_upd ?e2 ?r2 (weakE_junk _ _)))))))
                case e2 => first | rfl | exact fI (by omega) | (simp_all)
                case r2 => intro h hh; simp [refs] at hh; subst hh; rfl
                case e5 => first | rfl | exact fI (by omega) | (first | rfl | exact ownEq (by simp))
                case r5 => intro h hh; simp [refs] at hh; subst hh; rfl
                case e6 => first | rfl | exact fI (by omega) | (first | rfl | exact ownEq (by simp [toI_len]))
                case r6 => intro h hh; simp [refs] at hh; subst hh; rfl
                case e7 => first | rfl | exact fI (by omega) | (simp_all)
                case r7 => intro h hh; cases hh
                case e21 => first | rfl | exact fI (by omega) | (simp_all)
                case r21 => intro h hh; cases hh
                case e22 => first | rfl | exact fI (by omega) | (simp_all)
                case r22 => intro h hh; cases hh
                case e23 => first | rfl | exact fI (by omega) | (simp_all)
                case r23 => intro h hh; cases hh
          · first | replace hb23 := dT hb23 | skip
            refine qa rfl (by conv=>lhs;whnf) ?_
            refine qa rfl (by conv=>lhs;whnf) ?_
            refine qo_nil ?_
            refine ev_nil (hK21 _ ?_); clear hK21
            refine good_seq fun K26 hK26 => ?_
            refine gr rfl ?_
            refine em rfl (by conv=>lhs;whnf) ?_
            refine em rfl (by conv=>lhs;whnf) ?_
            refine em rfl (by conv=>lhs;whnf) ?_
            refine em rfl (by conv=>lhs;whnf) ?_
            refine ev_q rfl (q_callB rfl rfl (by change ([.lst 1 (List.take (toI z.1).length ((toI z.1).map ci)), .s (.int .i64 (n22))] : List AV) = _; rw [takeMap]) (D_slices_Contains_int64_int64 _ (toI z.1) (by rw [toI_len]; omega)) ?_)
            intro b27 hb27; cases b27
            · first | replace hb27 := dF hb27 | skip
              refine ev_q rfl (q_not rfl rfl ?_)
              refine ev_q rfl (q_pickT rfl (by conv=>lhs;whnf) ?_)
              refine ev_nil (hK26 _ ?_); clear hK26
              refine good_condT rfl ?_
              refine good_seq fun K28 hK28 => ?_
              refine gr rfl ?_
              refine em rfl (by conv=>lhs;whnf) ?_
              refine em rfl (by conv=>lhs;whnf) ?_
              have hox := oth_y (p := p) (u := u) (by omega) (by omega) (by assumption)
              rw [← hn22] at hox
              have hnm : ¬ n22.toNat ∈ z.1 := fun h => absurd ((toI_mem hox.2).2 h) (by assumption)
              have hE := wyE_T (i := i) hox.1 hnm
              have hiN := bfE_inv (hlt (pe p) (List.mem_map_of_mem (List.mem_of_getElem? hpp))) (List.mem_map_of_mem (List.mem_of_getElem? hpp)) (List.mem_of_getElem? hv) hW
              rw [bfE_T hox.1 hnm] at hiN
              rw [hE] at hbd
              have hpN : ∃ t, z.1 ++ [n22.toNat] = y.1 ++ t := ⟨t ++ [n22.toNat], by rw [ht, List.append_assoc]⟩
              have hbN := hbd.symm.trans hB
              have hla := congrArg List.length ht
              rw [List.length_append] at hla
              refine ev_k rfl (k_lit tE22 zA2 rfl rfl (by decide) (by decide) rfl rfl rfl ?_)
              refine ev_k rfl (k_app tApp22 rfl rfl (by first | (simp; done) | (simp [toI_len]; done)) rfl (.inr rfl) (by first | (simp [maxLen]; omega) | (simp [maxLen, toI_len]; omega)) (by first | (simp; omega) | (simp [toI_len]; omega)) ?_)
              refine ea rfl (by conv=>lhs;whnf) ?_
              refine ev_nil (hK28 _ ?_); clear hK28
              refine gr rfl ?_
              refine em rfl (by conv=>lhs;whnf) ?_
              refine em rfl (by conv=>lhs;whnf) ?_
              refine em rfl (by conv=>lhs;whnf) ?_
              refine em rfl (by conv=>lhs;whnf) ?_
              refine ev_q rfl (q_idxO tE22 rfl rfl rfl (by exact Int.natCast_nonneg _) (by have := congrArg List.length ht; rw [List.length_append] at this; first | omega | (rw [toI_len]; omega) | (simp [toI_len]; omega)) rfl ?_)
              refine ev_q rfl (q_loadE tA2 rfl rfl (by exact wk_get hv) rfl ?_)
              refine em rfl (by conv=>lhs;whnf) ?_
              refine ev_k rfl (k_build zA103 pl103 (rfl) ?_)
              refine ev_k rfl (k_lit tE100 zA103 rfl rfl (by decide) (by decide) rfl rfl rfl ?_)
              refine ev_k rfl (k_app tApp100 rfl rfl (by first | (simp; done) | (simp [toI_len]; done)) rfl (.inr rfl) (by first | (simp [maxLen]; omega) | (simp [maxLen, toI_len]; omega)) (by first | (simp; omega) | (simp [toI_len]; omega)) ?_)
              refine ea rfl (by conv=>lhs;whnf) ?_
              refine ev_nil (hK19 _ ?_); clear hK19
              refine gr rfl ?_
              refine ei rfl rfl rfl ?_
              intro n29 hn29
              replace hn29 := in64 hn29 (by omega) (by omega)
              refine em rfl (by conv=>lhs;whnf) ?_
              refine ev_nil ?_
              clear hK4 hK11
              refine ⟨(i + 1, (z.1 ++ [n22.toNat], z.2 ++ [(n22.toNat, u, i)])), ?_, ?_, ?_⟩
              · exact ⟨by first | omega | (dsimp only; omega), hiN, hpN, hbN, by simp; omega⟩
              · first | omega | (dsimp only; omega)
              · refine sub_weak ?_ ?_
                · exact weakH_box (boxEq (rfl)) rfl (weakH_row (rowEq (by first | rfl | exact toI_app hox.2)) (weakH_row (rowEq (by first | rfl | exact wyA_app hox.2)) (weakH_none _)))
                · refine weakE_upd ?e23 ?r23 (weakE_upd ?e22 ?r22 (weakE_upd ?e21 ?r21 (weakE_upd ?e7 ?r7 (weakE_upd ?e6 ?r6 (weakE_upd ?e5 ?r5 (weakE_upd ?e2 ?r2 (weakE_junk _ _)))))))
                  case e2 => first | rfl | exact fI (by omega) | (simp_all)
                  case r2 => intro h hh; simp [refs] at hh; subst hh; rfl
                  case e5 => first | rfl | exact fI (by omega) | (first | rfl | exact ownEq (by simp))
                  case r5 => intro h hh; simp [refs] at hh; subst hh; rfl
                  case e6 => first | rfl | exact fI (by omega) | (first | rfl | exact ownEq (by simp [toI_len]))
                  case r6 => intro h hh; simp [refs] at hh; subst hh; rfl
                  case e7 => first | rfl | exact fI (by omega) | (simp_all)
                  case r7 => intro h hh; cases hh
                  case e21 => first | rfl | exact fI (by omega) | (simp_all)
                  case r21 => intro h hh; cases hh
                  case e22 => first | rfl | exact fI (by omega) | (simp_all)
                  case r22 => intro h hh; cases hh
                  case e23 => first | rfl | exact fI (by omega) | (simp_all)
                  case r23 => intro h hh; cases hh
            · first | replace hb27 := dT hb27 | skip
              refine ev_q rfl (q_not rfl rfl ?_)
              refine ev_q rfl (q_pickT rfl (by conv=>lhs;whnf) ?_)
              refine ev_nil (hK26 _ ?_); clear hK26
              refine good_condF rfl ?_
              refine good_skip (hK19 _ ?_); clear hK19
              refine gr rfl ?_
              refine ei rfl rfl rfl ?_
              intro n30 hn30
              replace hn30 := in64 hn30 (by omega) (by omega)
              refine em rfl (by conv=>lhs;whnf) ?_
              refine ev_nil ?_
              clear hK4 hK11
              refine ⟨(i + 1, z), ?_, ?_, ?_⟩
              · refine ⟨by first | omega | (dsimp only; omega), hW, hP0, ?_, hZ⟩
                show wyI u _ _ z = _
                first | (have hE := wyE_F (i := i) (y := z) (oth_n (p := p) (u := u) (by omega) (by omega) (by assumption)); rw [hE] at hbd; exact hbd.symm.trans hB) | (have hox := oth_y (p := p) (u := u) (by omega) (by omega) (by assumption); rw [← hn22] at hox; have hE := wyE_M (i := i) (y := z) hox.1 ((toI_mem hox.2).1 (by assumption)); rw [hE] at hbd; exact hbd.symm.trans hB) | (exfalso; contradiction) | (exfalso; simp_all; done)
              · first | omega | (dsimp only; omega)
              · refine sub_weak ?_ ?_
                · exact weakH_box (boxEq (rfl)) rfl (weakH_row (rowEq (by first | rfl | exact toI_app hox.2)) (weakH_row (rowEq (by first | rfl | exact wyA_app hox.2)) (weakH_none _)))
                · refine weakE_upd ?e23 ?r23 (weakE_upd ?e22 ?r22 (weakE_upd ?e21 ?r21 (weakE_upd ?e7 ?r7 (weakE_upd ?e6 ?r6 (weakE_upd ?e5 ?r5 (weakE_upd ?e2 ?r2 (weakE_junk _ _)))))))
                  case e2 => first | rfl | exact fI (by omega) | (simp_all)
                  case r2 => intro h hh; simp [refs] at hh; subst hh; rfl
                  case e5 => first | rfl | exact fI (by omega) | (first | rfl | exact ownEq (by simp))
                  case r5 => intro h hh; simp [refs] at hh; subst hh; rfl
                  case e6 => first | rfl | exact fI (by omega) | (first | rfl | exact ownEq (by simp [toI_len]))
                  case r6 => intro h hh; simp [refs] at hh; subst hh; rfl
                  case e7 => first | rfl | exact fI (by omega) | (simp_all)
                  case r7 => intro h hh; cases hh
                  case e21 => first | rfl | exact fI (by omega) | (simp_all)
                  case r21 => intro h hh; cases hh
                  case e22 => first | rfl | exact fI (by omega) | (simp_all)
                  case r22 => intro h hh; cases hh
                  case e23 => first | rfl | exact fI (by omega) | (simp_all)
                  case r23 => intro h hh; cases hh

-- (impl.way).along
theorem D_impl_way_along (ns : List Int) (ps : List Pi) (fl : List Int) (w : Nat × Nat × Nat) (p : Pi) (l : Int) (h2 : 0 ≤ p.tt) (hp : ps[w.2.2]? = some p) (hl : fl[w.2.2]? = some l) (hb : -100000 ≤ l ∧ l ≤ 100000) : Den Tryz.prog 87 [(wyA w), .agg [.lst 1 (ns.map ci), .lst 6 (ps.map piA)], .lst 1 (fl.map ci)] (.s (.int .i64 (flS (ps.map pe) fl w))) := by
  have hlp := (List.getElem?_eq_some_iff.1 hp).1
  have hll := (List.getElem?_eq_some_iff.1 hl).1
  have hfs := flS_y hp hl
  refine den_of_good Tryz.func87 (by decide) rfl (Nat.le_of_ble_eq_true rfl) (Nat.le_of_ble_eq_true rfl) ?_
  refine good_seq fun K1 hK1 => ?_
  refine gr rfl ?_
  refine ev_k rfl (k_box (by conv=>lhs;whnf) rfl rfl rfl ?_)
  refine ev_k rfl (k_box (by conv=>lhs;whnf) rfl rfl rfl ?_)
  refine ea rfl (by conv=>lhs;whnf) ?_
  refine ev_nil (hK1 _ ?_); clear hK1
  refine good_seq fun K2 hK2 => ?_
  refine good_seq fun K3 hK3 => ?_
  refine good_draw 10 hmix (by kernel_rfl) rfl ?_
  refine qo_q rfl (q_fieldAddrP fO31_1 rfl rfl ?_)
  refine qo_q rfl (q_load tA29 rfl ?_)
  refine qo_q rfl (q_fieldAddrP fO103_2 rfl rfl ?_)
  refine qo_q rfl (q_load tA3 rfl ?_)
  refine qo_q rfl (q_idx tE29 rfl rfl (by exact Int.natCast_nonneg _) (by exact map_get hp) rfl ?_)
  refine qo_q rfl (q_fieldAddr fO95_2 rfl rfl ?_)
  refine qo_q rfl (q_load tA2 rfl ?_)
  refine qo_q rfl (q_fieldAddrP fO103_0 rfl rfl ?_)
  refine qo_q rfl (q_load tA2 rfl ?_)
  refine qo_q rfl (q_int rfl rfl ?_)
  intro b4 hb4; cases b4
  · replace hb4 := eqF hb4
    refine qo_nil ?_
    refine ev_nil (hK3 _ ?_); clear hK3
    refine good_condF rfl ?_
    refine good_skip (hK2 _ ?_); clear hK2
    refine good_seq fun K5 hK5 => ?_
    refine gr rfl ?_
    refine em rfl (by conv=>lhs;whnf) ?_
    refine ev_q rfl (q_fieldAddrP fO103_2 rfl rfl ?_)
    refine ev_q rfl (q_load tA3 rfl ?_)
    refine ev_q rfl (q_idx tE22 rfl rfl (by exact Int.natCast_nonneg _) (by exact map_get hl) rfl ?_)
    refine ev_q rfl (q_load tA2 rfl ?_)
    refine ev_q rfl (q_neg rfl ?_)
    intro n6 hn6
    replace hn6 := neg64 hn6 (by omega) (by omega)
    refine ea rfl (by conv=>lhs;whnf) ?_
    refine ev_nil (hK5 _ ?_); clear hK5
    refine good_ret ?_
    repeat first|refine thenQ_ret ?_|refine blockQ_ret ?_
    refine ret_tmp (st := _) rfl (by conv=>lhs;whnf) rfl ?_
    first | exact fI (by rw [hfs, if_pos (by omega)]) | exact fI (by rw [hfs, if_neg (by omega)]; omega)
  · replace hb4 := eqT hb4
    refine qo_nil ?_
    refine ev_nil (hK3 _ ?_); clear hK3
    refine good_condT rfl ?_
    refine good_seq fun K7 hK7 => ?_
    refine gr rfl ?_
    refine em rfl (by conv=>lhs;whnf) ?_
    refine ev_q rfl (q_fieldAddrP fO103_2 rfl rfl ?_)
    refine ev_q rfl (q_load tA3 rfl ?_)
    refine ev_q rfl (q_idx tE22 rfl rfl (by exact Int.natCast_nonneg _) (by exact map_get hl) rfl ?_)
    refine ev_q rfl (q_load tA2 rfl ?_)
    refine ea rfl (by conv=>lhs;whnf) ?_
    refine ev_nil (hK7 _ ?_); clear hK7
    refine good_ret ?_
    repeat first|refine thenQ_ret ?_|refine blockQ_ret ?_
    refine ret_tmp (st := _) rfl (by conv=>lhs;whnf) rfl ?_
    clear hK2
    first | exact fI (by rw [hfs, if_pos (by omega)]) | exact fI (by rw [hfs, if_neg (by omega)]; omega)

end Go.Proofs.YtkgnbjgnddfojaaGreat.DFnBoiling
