/- Walks through the functions that FnExactNodeTemperatures reaches: what each answers. -/
import Derived.Test.YtkgnbjgnddfojaaDFnExactNodeTemperaturesb
set_option linter.unusedVariables false
set_option linter.unusedSimpArgs false
namespace Go.Proofs.Ytkgnbjgnddfojaa.DFnExactNodeTemperatures
open Go Go.RowKit Go.Proofs Go.Proofs.Ytkgnbjgnddfojaa Go.Proofs.Ytkgnbjgnddfojaa.Ev
theorem loB {lo le wa gr : Int} (h1 : 0 ≤ lo ∧ lo ≤ 5000) (h2 : 1 ≤ le ∧ le ≤ 10000) (h3 : -5000 ≤ wa ∧ wa ≤ 20000) (h4 : -5000 ≤ gr ∧ gr ≤ 20000) : (0 ≤ lo * le ∧ lo * le ≤ 50000000) ∧ (-1250000000000 ≤ lo * le * (wa - gr) ∧ lo * le * (wa - gr) ≤ 1250000000000) ∧ (-12500001 ≤ dr (lo * le * (wa - gr)) 100000 ∧ dr (lo * le * (wa - gr)) 100000 ≤ 12500001) := by
  have a1 := mulB (a := lo) (b := le) (A := 5000) (B := 10000) (by omega) (by omega) (by omega) (by omega)
  have a2 := mulS (a := lo * le) (b := wa - gr) (A := 50000000) (B := 25000) (by omega) (by omega) (by omega) (by omega)
  generalize lo * le * (wa - gr) = z at a2
  exact ⟨by omega, by omega, by simp only [dr, drP]; omega⟩

-- (impl.Pipe).loss
set_option maxRecDepth 20000 in
set_option maxHeartbeats 2000000 in
theorem D_impl_Pipe_loss (s : ByteArray) (fm tt le di lo : Int) (wa gr : Int) (h1 : 0 ≤ lo ∧ lo ≤ 5000) (h2 : 1 ≤ le ∧ le ≤ 10000) (h3 : -5000 ≤ wa ∧ wa ≤ 20000) (h4 : -5000 ≤ gr ∧ gr ≤ 20000) : Den Try.prog 127 [.agg [.s (.string s), .s (.int .i64 fm), .s (.int .i64 tt), .s (.int .i64 le), .s (.int .i64 di), .s (.int .i64 lo)], .s (.int .i64 wa), .s (.int .i64 gr)] (.s (.int .i64 (dr (lo * le * (wa - gr)) 100000))) := by
  have hb := loB h1 h2 h3 h4
  refine den_of_good Try.func127 (by decide) rfl (Nat.le_of_ble_eq_true rfl) (Nat.le_of_ble_eq_true rfl) ?_
  refine good_seq fun K1 hK1 => ?_
  refine good_region rfl ?_
  refine ev_k rfl (k_box (by conv => lhs; whnf) rfl rfl rfl ?_)
  refine ev_q rfl (q_assign (by conv => lhs; whnf) ?_)
  refine ev_nil (hK1 _ ?_); clear hK1
  refine good_seq fun K2 hK2 => ?_
  refine good_region rfl ?_
  refine ev_q rfl (q_fieldAddrP fO59_5 rfl rfl ?_)
  refine ev_q rfl (q_load tA2 rfl ?_)
  refine ev_q rfl (q_fieldAddrP fO59_3 rfl rfl ?_)
  refine ev_q rfl (q_load tA2 rfl ?_)
  refine ev_q rfl (q_int rfl rfl ?_)
  intro n3 hn3
  replace hn3 := in64 hn3 (by omega) (by omega)
  refine ev_q rfl (q_move (by conv => lhs; whnf) ?_)
  refine ev_q rfl (q_move (by conv => lhs; whnf) ?_)
  refine ev_q rfl (q_int rfl rfl ?_)
  intro n4 hn4
  replace hn4 := in64 hn4 (by omega) (by omega)
  refine ev_q rfl (q_int rfl rfl ?_)
  intro n5 hn5
  rw [hn3, hn4] at hn5
  replace hn5 := in64 hn5 (by omega) (by omega)
  refine ev_q rfl (q_callI rfl rfl (rfl) (D_impl_divRound _ _ (by omega) (by omega)) ?_)
  intro n6 hn6
  rw [hn5] at hn6
  refine ev_q rfl (q_assign (by conv => lhs; whnf) ?_)
  refine ev_nil (hK2 _ ?_); clear hK2
  refine good_ret ?_
  repeat (first | refine thenQ_ret ?_ | refine blockQ_ret ?_)
  refine ret_tmp (st := _) rfl (by conv => lhs; whnf) rfl ?_
  first | rfl | exact fI (by first | omega | grind) | (exfalso; first | omega | grind)

-- (impl.Pipe).endTemperature
set_option maxRecDepth 20000 in
set_option maxHeartbeats 2000000 in
theorem D_impl_Pipe_endTemperature (s : ByteArray) (fm tt le di lo : Int) (q wa gr : Int) (h1 : 0 ≤ lo ∧ lo ≤ 5000) (h2 : 1 ≤ le ∧ le ≤ 10000) (h3 : -5000 ≤ wa ∧ wa ≤ 20000) (h4 : -5000 ≤ gr ∧ gr ≤ 20000) (hq : 1 ≤ q ∧ q ≤ 100000) : Den Try.prog 62 [.agg [.s (.string s), .s (.int .i64 fm), .s (.int .i64 tt), .s (.int .i64 le), .s (.int .i64 di), .s (.int .i64 lo)], .s (.int .i64 q), .s (.int .i64 wa), .s (.int .i64 gr)] (.s (.int .i64 (enT lo le q wa gr))) := by
  have hL := enL_bd h1 h2 h3 h4
  refine den_of_good Try.func62 (by decide) rfl (Nat.le_of_ble_eq_true rfl) (Nat.le_of_ble_eq_true rfl) ?_
  refine good_seq fun K1 hK1 => ?_
  refine good_region rfl ?_
  refine ev_k rfl (k_box (by conv => lhs; whnf) rfl rfl rfl ?_)
  refine ev_q rfl (q_assign (by conv => lhs; whnf) ?_)
  refine ev_nil (hK1 _ ?_); clear hK1
  refine good_seq fun K2 hK2 => ?_
  refine good_seq fun K3 hK3 => ?_
  refine good_region rfl ?_
  refine ev_q rfl (q_move (by conv => lhs; whnf) ?_)
  refine ev_q rfl (q_int rfl rfl ?_)
  intro b4 hb4; cases b4
  · replace hb4 := eqF hb4
    refine ev_nil (hK3 _ ?_); clear hK3
    refine good_condF rfl ?_
    refine good_skip (hK2 _ ?_); clear hK2
    refine good_seq fun K5 hK5 => ?_
    refine good_region rfl ?_
    refine ev_q rfl (q_move (by conv => lhs; whnf) ?_)
    refine ev_q rfl (q_loadA tA59 rfl rfl rfl ?_)
    refine ev_q rfl (q_move (by conv => lhs; whnf) ?_)
    refine ev_q rfl (q_move (by conv => lhs; whnf) ?_)
    refine ev_q rfl (q_callI rfl rfl (rfl) (D_impl_Pipe_loss _ _ _ _ _ _ _ _ h1 h2 h3 h4) ?_)
    intro n6 hn6
    have hl0 : n6 = enL lo le wa gr := hn6
    refine ev_q rfl (q_int rfl rfl ?_)
    intro n7 hn7
    replace hn7 := in64 hn7 (by omega) (by omega)
    refine ev_q rfl (q_move (by conv => lhs; whnf) ?_)
    refine ev_q rfl (q_callI rfl rfl (rfl) (D_impl_abs _ (by omega)) ?_)
    intro n8 hn8
    refine ev_q rfl (q_int rfl rfl ?_)
    intro n9 hn9
    replace hn9 := in64 hn9 (by omega) (by omega)
    refine ev_q rfl (q_callI rfl rfl (rfl) (D_impl_divRound _ _ (by omega) (by omega)) ?_)
    intro n10 hn10
    have hdb := dr_bound (a := n7) (b := n9) (by omega)
    have hE : n10 = dr (100000 * enL lo le wa gr) (4186 * (q.natAbs : Int)) := by rw [hn10, show n7 = 100000 * enL lo le wa gr by omega, show n9 = 4186 * (q.natAbs : Int) by omega]
    rw [← hn10] at hdb
    refine ev_q rfl (q_int rfl rfl ?_)
    intro n11 hn11
    replace hn11 := in64 hn11 (by omega) (by omega)
    refine ev_q rfl (q_assign (by conv => lhs; whnf) ?_)
    refine ev_nil (hK5 _ ?_); clear hK5
    refine good_seq fun K12 hK12 => ?_
    refine good_seq fun K13 hK13 => ?_
    refine good_region rfl ?_
    refine ev_q rfl (q_move (by conv => lhs; whnf) ?_)
    refine ev_q rfl (q_move (by conv => lhs; whnf) ?_)
    refine ev_q rfl (q_int rfl rfl ?_)
    intro b14 hb14; cases b14
    · replace hb14 := dF hb14
      refine ev_nil (hK13 _ ?_); clear hK13
      refine good_condF rfl ?_
      refine good_skip (hK12 _ ?_); clear hK12
      refine good_seq fun K15 hK15 => ?_
      refine good_region rfl ?_
      refine ev_q rfl (q_move (by conv => lhs; whnf) ?_)
      refine ev_q rfl (q_move (by conv => lhs; whnf) ?_)
      refine ev_q rfl (q_min rfl rfl ?_)
      intro n16 hn16; simp only [mxI, mnI] at hn16
      refine ev_q rfl (q_assign (by conv => lhs; whnf) ?_)
      refine ev_nil (hK15 _ ?_); clear hK15
      refine good_ret ?_
      repeat (first | refine thenQ_ret ?_ | refine blockQ_ret ?_)
      refine ret_tmp (st := _) rfl (by conv => lhs; whnf) rfl ?_
      first | exact fI (by unfold enT; first | (rw [if_pos (by omega)]; unfold enE; rw [← hE]; first | (rw [if_pos (by omega)]; omega) | (rw [if_neg (by omega)]; omega) | (split <;> split <;> omega) | grind) | (rw [if_neg (by omega)]; unfold enE; rw [← hE]; first | (rw [if_pos (by omega)]; omega) | (rw [if_neg (by omega)]; omega) | (split <;> split <;> omega) | grind)) | (exfalso; omega)
    · replace hb14 := dT hb14
      refine ev_nil (hK13 _ ?_); clear hK13
      refine good_condT rfl ?_
      refine good_seq fun K17 hK17 => ?_
      refine good_region rfl ?_
      refine ev_q rfl (q_move (by conv => lhs; whnf) ?_)
      refine ev_q rfl (q_move (by conv => lhs; whnf) ?_)
      refine ev_q rfl (q_max rfl rfl ?_)
      intro n18 hn18; simp only [mxI, mnI] at hn18
      refine ev_q rfl (q_assign (by conv => lhs; whnf) ?_)
      refine ev_nil (hK17 _ ?_); clear hK17
      refine good_ret ?_
      repeat (first | refine thenQ_ret ?_ | refine blockQ_ret ?_)
      refine ret_tmp (st := _) rfl (by conv => lhs; whnf) rfl ?_
      clear hK12
      first | exact fI (by unfold enT; first | (rw [if_pos (by omega)]; unfold enE; rw [← hE]; first | (rw [if_pos (by omega)]; omega) | (rw [if_neg (by omega)]; omega) | (split <;> split <;> omega) | grind) | (rw [if_neg (by omega)]; unfold enE; rw [← hE]; first | (rw [if_pos (by omega)]; omega) | (rw [if_neg (by omega)]; omega) | (split <;> split <;> omega) | grind)) | (exfalso; omega)
  · replace hb4 := eqT hb4
    refine ev_nil (hK3 _ ?_); clear hK3
    refine good_condT rfl ?_
    refine good_seq fun K19 hK19 => ?_
    refine good_region rfl ?_
    refine ev_q rfl (q_move (by conv => lhs; whnf) ?_)
    refine ev_q rfl (q_assign (by conv => lhs; whnf) ?_)
    refine ev_nil (hK19 _ ?_); clear hK19
    refine good_ret ?_
    repeat (first | refine thenQ_ret ?_ | refine blockQ_ret ?_)
    refine ret_tmp (st := _) rfl (by conv => lhs; whnf) rfl ?_
    clear hK2
    first | exact fI (by unfold enT; first | (rw [if_pos (by omega)]; unfold enE; rw [← hE]; first | (rw [if_pos (by omega)]; omega) | (rw [if_neg (by omega)]; omega) | (split <;> split <;> omega) | grind) | (rw [if_neg (by omega)]; unfold enE; rw [← hE]; first | (rw [if_pos (by omega)]; omega) | (rw [if_neg (by omega)]; omega) | (split <;> split <;> omega) | grind)) | (exfalso; omega)

-- spec.l03Loss
set_option maxRecDepth 20000 in
set_option maxHeartbeats 2000000 in
theorem D_spec_l03Loss (s : ByteArray) (fm tt le di lo : Int) (wa gr : Int) (h1 : 0 ≤ lo ∧ lo ≤ 5000) (h2 : 1 ≤ le ∧ le ≤ 10000) (h3 : -5000 ≤ wa ∧ wa ≤ 20000) (h4 : -5000 ≤ gr ∧ gr ≤ 20000) : Den Try.prog 170 [.rp [.s (.string s), .s (.int .i64 fm), .s (.int .i64 tt), .s (.int .i64 le), .s (.int .i64 di), .s (.int .i64 lo)], .s (.int .i64 wa), .s (.int .i64 gr)] (.s (.int .i64 (enL lo le wa gr))) := by
  have hb := loB h1 h2 h3 h4
  refine den_of_good Try.func170 (by decide) rfl (Nat.le_of_ble_eq_true rfl) (Nat.le_of_ble_eq_true rfl) ?_
  refine good_seq fun K1 hK1 => ?_
  refine good_region rfl ?_
  refine ev_q rfl (q_assign (by conv => lhs; whnf) ?_)
  refine ev_nil (hK1 _ ?_); clear hK1
  refine good_seq fun K2 hK2 => ?_
  refine good_draw 15 hmix (by kernel_rfl) rfl ?_
  refine qo_q rfl (q_move (by conv => lhs; whnf) ?_)
  refine qo_q rfl (q_nilCheck (by conv => lhs; whnf) rfl ?_)
  refine qo_q rfl (q_fieldAddr fO59_5 rfl rfl ?_)
  refine qo_q rfl (q_load tA2 rfl ?_)
  refine qo_q rfl (q_move (by conv => lhs; whnf) ?_)
  refine qo_q rfl (q_nilCheck (by conv => lhs; whnf) rfl ?_)
  refine qo_q rfl (q_fieldAddr fO59_3 rfl rfl ?_)
  refine qo_q rfl (q_load tA2 rfl ?_)
  refine qo_q rfl (q_int rfl rfl ?_)
  intro n3 hn3
  replace hn3 := in64 hn3 (by omega) (by omega)
  refine qo_q rfl (q_move (by conv => lhs; whnf) ?_)
  refine qo_q rfl (q_move (by conv => lhs; whnf) ?_)
  refine qo_q rfl (q_int rfl rfl ?_)
  intro n4 hn4
  replace hn4 := in64 hn4 (by omega) (by omega)
  refine qo_q rfl (q_int rfl rfl ?_)
  intro n5 hn5
  rw [hn3, hn4] at hn5
  replace hn5 := in64 hn5 (by omega) (by omega)
  refine qo_q rfl (q_callI rfl rfl (rfl) (D_spec_l01Div _ _ (by omega) (by omega)) ?_)
  intro n6 hn6
  rw [hn5] at hn6
  refine qo_q rfl (q_assign (by conv => lhs; whnf) ?_)
  refine qo_nil ?_
  refine ev_nil (hK2 _ ?_); clear hK2
  refine good_ret ?_
  repeat (first | refine thenQ_ret ?_ | refine blockQ_ret ?_)
  refine ret_tmp (st := _) rfl (by conv => lhs; whnf) rfl ?_
  exact fI (by assumption)

-- spec.l03End
set_option maxRecDepth 20000 in
set_option maxHeartbeats 2000000 in
theorem D_spec_l03End (s : ByteArray) (fm tt le di lo : Int) (q wa gr : Int) (h1 : 0 ≤ lo ∧ lo ≤ 5000) (h2 : 1 ≤ le ∧ le ≤ 10000) (h3 : -5000 ≤ wa ∧ wa ≤ 20000) (h4 : -5000 ≤ gr ∧ gr ≤ 20000) (hq : 1 ≤ q ∧ q ≤ 100000) : Den Try.prog 119 [.rp [.s (.string s), .s (.int .i64 fm), .s (.int .i64 tt), .s (.int .i64 le), .s (.int .i64 di), .s (.int .i64 lo)], .s (.int .i64 q), .s (.int .i64 wa), .s (.int .i64 gr)] (.s (.int .i64 (enT lo le q wa gr))) := by
  have hL := enL_bd h1 h2 h3 h4
  refine den_of_good Try.func119 (by decide) rfl (Nat.le_of_ble_eq_true rfl) (Nat.le_of_ble_eq_true rfl) ?_
  refine good_seq fun K1 hK1 => ?_
  refine good_region rfl ?_
  refine ev_q rfl (q_assign (by conv => lhs; whnf) ?_)
  refine ev_nil (hK1 _ ?_); clear hK1
  refine good_seq fun K2 hK2 => ?_
  refine good_region rfl ?_
  refine ev_q rfl (q_move (by conv => lhs; whnf) ?_)
  refine ev_q rfl (q_move (by conv => lhs; whnf) ?_)
  refine ev_q rfl (q_move (by conv => lhs; whnf) ?_)
  refine ev_q rfl (q_callI rfl rfl (rfl) (D_spec_l03Loss _ _ _ _ _ _ _ _ h1 h2 h3 h4) ?_)
  intro n3 hn3
  have hl0 : n3 = enL lo le wa gr := hn3
  refine ev_q rfl (q_int rfl rfl ?_)
  intro n4 hn4
  replace hn4 := in64 hn4 (by omega) (by omega)
  refine ev_q rfl (q_move (by conv => lhs; whnf) ?_)
  refine ev_q rfl (q_callI rfl rfl (rfl) (D_spec_l03Abs _ (by omega)) ?_)
  intro n5 hn5
  refine ev_q rfl (q_int rfl rfl ?_)
  intro n6 hn6
  replace hn6 := in64 hn6 (by omega) (by omega)
  refine ev_q rfl (q_callI rfl rfl (rfl) (D_spec_l01Div _ _ (by omega) (by omega)) ?_)
  intro n7 hn7
  have hdb := dr_bound (a := n4) (b := n6) (by omega)
  have hE : n7 = dr (100000 * enL lo le wa gr) (4186 * (q.natAbs : Int)) := by rw [hn7, show n4 = 100000 * enL lo le wa gr by omega, show n6 = 4186 * (q.natAbs : Int) by omega]
  rw [← hn7] at hdb
  refine ev_q rfl (q_assign (by conv => lhs; whnf) ?_)
  refine ev_nil (hK2 _ ?_); clear hK2
  refine good_seq fun K8 hK8 => ?_
  refine good_region rfl ?_
  refine ev_q rfl (q_move (by conv => lhs; whnf) ?_)
  refine ev_q rfl (q_move (by conv => lhs; whnf) ?_)
  refine ev_q rfl (q_int rfl rfl ?_)
  intro n9 hn9
  replace hn9 := in64 hn9 (by omega) (by omega)
  refine ev_q rfl (q_assign (by conv => lhs; whnf) ?_)
  refine ev_nil (hK8 _ ?_); clear hK8
  refine good_seq fun K10 hK10 => ?_
  refine good_seq fun K11 hK11 => ?_
  refine good_region rfl ?_
  refine ev_q rfl (q_move (by conv => lhs; whnf) ?_)
  refine ev_q rfl (q_move (by conv => lhs; whnf) ?_)
  refine ev_q rfl (q_int rfl rfl ?_)
  intro b12 hb12; cases b12
  · replace hb12 := dF hb12
    refine ev_nil (hK11 _ ?_); clear hK11
    refine good_condF rfl ?_
    refine good_skip (hK10 _ ?_); clear hK10
    refine good_seq fun K13 hK13 => ?_
    refine good_region rfl ?_
    refine ev_q rfl (q_move (by conv => lhs; whnf) ?_)
    refine ev_q rfl (q_move (by conv => lhs; whnf) ?_)
    refine ev_q rfl (q_callI rfl rfl (rfl) (D_spec_l00Min ..) ?_)
    intro n14 hn14
    refine ev_q rfl (q_assign (by conv => lhs; whnf) ?_)
    refine ev_nil (hK13 _ ?_); clear hK13
    refine good_ret ?_
    repeat (first | refine thenQ_ret ?_ | refine blockQ_ret ?_)
    refine ret_tmp (st := _) rfl (by conv => lhs; whnf) rfl ?_
    first | exact fI (by unfold enT; first | (rw [if_pos (by omega)]; unfold enE; rw [← hE]; first | (rw [if_pos (by omega)]; omega) | (rw [if_neg (by omega)]; omega) | (split <;> split <;> omega) | grind) | (rw [if_neg (by omega)]; unfold enE; rw [← hE]; first | (rw [if_pos (by omega)]; omega) | (rw [if_neg (by omega)]; omega) | (split <;> split <;> omega) | grind)) | (exfalso; omega)
  · replace hb12 := dT hb12
    refine ev_nil (hK11 _ ?_); clear hK11
    refine good_condT rfl ?_
    refine good_seq fun K15 hK15 => ?_
    refine good_region rfl ?_
    refine ev_q rfl (q_move (by conv => lhs; whnf) ?_)
    refine ev_q rfl (q_move (by conv => lhs; whnf) ?_)
    refine ev_q rfl (q_callI rfl rfl (rfl) (D_spec_l00Max ..) ?_)
    intro n16 hn16
    refine ev_q rfl (q_assign (by conv => lhs; whnf) ?_)
    refine ev_nil (hK15 _ ?_); clear hK15
    refine good_ret ?_
    repeat (first | refine thenQ_ret ?_ | refine blockQ_ret ?_)
    refine ret_tmp (st := _) rfl (by conv => lhs; whnf) rfl ?_
    clear hK10
    first | exact fI (by unfold enT; first | (rw [if_pos (by omega)]; unfold enE; rw [← hE]; first | (rw [if_pos (by omega)]; omega) | (rw [if_neg (by omega)]; omega) | (split <;> split <;> omega) | grind) | (rw [if_neg (by omega)]; unfold enE; rw [← hE]; first | (rw [if_pos (by omega)]; omega) | (rw [if_neg (by omega)]; omega) | (split <;> split <;> omega) | grind)) | (exfalso; omega)

-- (impl.Network).ways
set_option maxRecDepth 20000 in
set_option maxHeartbeats 2000000 in
theorem D_impl_Network_ways (ns : List Int) (ps : List Pi) (s : Int) (hn : ns.length ≤ 17592186044416) (hp : ps.length ≤ 2513169434843) (hz : idSz ps) (ok : netOk ns ps) (hs : 0 ≤ s ∧ s < ns.length) : DenX Try.prog 60 [] [.agg [.lst 1 (ns.map ci), .lst 6 (ps.map piA)], .s (.int .i64 s)] [(900001, .row 94 3 ((waysF (ps.map pe) ns.length s.toNat).2.map wyA))] (.own 900001 (waysF (ps.map pe) ns.length s.toNat).2.length) := by
  have h16 := ok.1.1
  have h20 := ok.1.2.2
  have hlt := esF_lt ok
  refine denX_of_good Try.func60 (by decide) rfl (Nat.le_of_ble_eq_true rfl) (Nat.le_of_ble_eq_true rfl) rfl ?_
  refine good_seq fun K1 hK1 => ?_
  refine good_region rfl ?_
  refine ev_k rfl (k_box (by conv => lhs; whnf) rfl rfl rfl ?_)
  refine ev_q rfl (q_assign (by conv => lhs; whnf) ?_)
  refine ev_nil (hK1 _ ?_); clear hK1
  refine good_seq fun K2 hK2 => ?_
  refine good_region rfl ?_
  refine ev_q rfl (q_assign (by conv => lhs; whnf) ?_)
  refine ev_nil (hK2 _ ?_); clear hK2
  refine good_seq fun K3 hK3 => ?_
  refine good_region rfl ?_
  refine ev_q rfl (q_move (by conv => lhs; whnf) ?_)
  refine ev_k rfl (k_lit tE22 zA2 rfl rfl (by decide) (by decide) rfl rfl rfl ?_)
  refine ev_q rfl (q_assign (by conv => lhs; whnf) ?_)
  refine ev_nil (hK3 _ ?_); clear hK3
  refine good_seq fun K4 hK4 => ?_
  refine good_seq fun K5 hK5 => ?_
  refine good_region rfl ?_
  refine ev_q rfl (q_assign (by conv => lhs; whnf) ?_)
  refine ev_nil (hK5 _ ?_); clear hK5
  refine good_block ?_
  refine good_loop (α := Nat × (List Nat × List (Nat × Nat × Nat))) (fun (k, y) => { env := upd (upd (upd (upd ((fun _ => .junk)) 2 (.ptr 2 0)) 5 (.own 57 y.2.length)) 6 (.own 47 (toI y.1).length)) 7 (.s (.int .i64 ((k : Int)))), H := upd (upd (upd ((fun _ => none)) 57 (some (.row 94 3 (y.2.map wyA)))) 47 (some (.row 2 1 ((toI y.1).map ci)))) 2 (some (.box 31 [.lst 1 (ns.map ci), .lst 6 (ps.map piA)])) }) (fun (k, y) => (k ≤ y.1.length ∧ y.2.length ≤ y.1.length) ∧ Inv (ps.map pe) ns.length s.toNat y.1 ∧ wyO (ps.map pe) (ns.length - k) k y = (waysF (ps.map pe) ns.length s.toNat)) (fun (k, y) => ns.length - k) (0, ([s.toNat], [])) ?_ ?_ ?_
  · exact ⟨⟨by simp, by simp⟩, ⟨by simp, fun v hv => by have e : v = s.toNat := (by simpa using hv); rw [e]; omega, fun v hv => by have e : v = s.toNat := (by simpa using hv); rw [e]; exact .rfl _, by simp⟩, rfl⟩
  · refine Sub.trans (sub_move 6 13 47 rfl rfl rfl (by decide)) ?_
    refine Sub.trans (sub_nil 5 57 94 3 rfl rfl (by decide)) ?_
    refine sub_weak ?_ ?_
    · exact weakH_box (boxEq (rfl)) rfl (weakH_row (rowEq (by show [ci s] = [ci ((s.toNat : Nat) : Int)]; rw [show ((s.toNat : Nat) : Int) = s by omega])) (weakH_row (rowEq (rfl)) (weakH_none _)))
    · refine weakE_upd ?e7 ?r7 (weakE_upd ?e6 ?r6 (weakE_upd ?e5 ?r5 (weakE_upd ?e2 ?r2 (weakE_junk _ _))))
      case e2 => first | rfl | exact fI (by omega) | (simp_all)
      case r2 => intro h hh; simp [refs] at hh; subst hh; rfl
      case e5 => first | rfl | exact fI (by omega) | (simp_all)
      case r5 => intro h hh; simp [refs] at hh; subst hh; rfl
      case e6 => first | rfl | exact fI (by omega) | (simp_all)
      case r6 => intro h hh; simp [refs] at hh; subst hh; rfl
      case e7 => first | rfl | exact fI (by omega) | (simp_all)
      case r7 => intro h hh; cases hh
  · rintro ⟨k, y⟩ ⟨⟨hK, hK2⟩, hV, hF⟩
    refine good_seq fun K6 hK6 => ?_
    refine good_seq fun K7 hK7 => ?_
    refine good_region rfl ?_
    refine ev_q rfl (q_move (by conv => lhs; whnf) ?_)
    refine ev_q rfl (q_move (by conv => lhs; whnf) ?_)
    refine ev_q rfl (q_len tEs22 rfl ?_)
    intro n8 hn8
    try simp only [List.length_map] at hn8
    refine ev_q rfl (q_int rfl rfl ?_)
    intro b9 hb9; cases b9
    · replace hb9 := dF hb9
      have hkl : y.1.length ≤ k := by rw [toI_len] at *; omega
      have hln := len_le y.1 hV.nd hV.lt
      refine ev_nil (hK7 _ ?_); clear hK7
      refine good_condF rfl ?_
      refine good_exit ?_
      repeat (first | refine thenQ_exit ?_ | refine blockQ_pass rfl ?_)
      refine blockQ_exit (hK4 _ ?_); clear hK4
      refine good_seq fun K10 hK10 => ?_
      refine good_region rfl ?_
      refine ev_q rfl (q_move (by conv => lhs; whnf) ?_)
      refine ev_q rfl (q_assign (by conv => lhs; whnf) ?_)
      refine ev_nil (hK10 _ ?_); clear hK10
      refine good_weak (sub_move 4 57 900001 rfl rfl rfl (by decide)) ?_
      refine good_ret ?_
      repeat (first | refine thenQ_ret ?_ | refine blockQ_ret ?_)
      refine fx_tmp rfl (by conv => lhs; whnf) ?_
      clear hK6
      have e : (waysF (ps.map pe) ns.length s.toNat) = y := by rw [← hF]; exact wyO_e hkl
      exact ⟨_, conv_eq (by first | rfl | (rw [e]; done) | (rw [e]; rfl) | exact ownEq (by first | omega | simp_all)), weakH_row (rowEq (by first | (rw [e]; done) | (rw [e]; rfl))) (weakH_none _), refsIn_ok rfl⟩
    · replace hb9 := dT hb9
      have hkl : k < y.1.length := by rw [toI_len] at *; omega
      obtain ⟨u, hu⟩ : ∃ u, y.1[k]? = some u := ⟨_, List.getElem?_eq_getElem hkl⟩
      have hln := len_le y.1 hV.nd hV.lt
      refine ev_nil (hK7 _ ?_); clear hK7
      refine good_condT rfl ?_
      refine good_skip (hK6 _ ?_); clear hK6
      refine good_seq fun K11 hK11 => ?_
      refine good_block ?_
      refine good_seq fun K12 hK12 => ?_
      refine good_region rfl ?_
      refine ev_q rfl (q_fieldAddrP fO31_1 rfl rfl ?_)
      refine ev_q rfl (q_load tA29 rfl ?_)
      refine ev_q rfl (q_len tEs29 rfl ?_)
      intro n13 hn13
      try simp only [List.length_map] at hn13
      refine ev_q rfl (q_move (by conv => lhs; whnf) ?_)
      refine ev_nil (hK12 _ ?_); clear hK12
      refine good_block ?_
      refine good_loop (α := Nat × (List Nat × List (Nat × Nat × Nat))) (fun (i, z) => { env := upd (upd (upd (upd (upd (upd (upd ((fun _ => .junk)) 2 (.ptr 2 0)) 5 (.own 57 z.2.length)) 6 (.own 47 (toI z.1).length)) 7 (.s (.int .i64 ((k : Int))))) 21 (.lst 6 (ps.map piA))) 22 (.s (.int .i64 ((ps.length : Int))))) 23 (.s (.int .i64 ((i : Int)))), H := upd (upd (upd ((fun _ => none)) 57 (some (.row 94 3 (z.2.map wyA)))) 47 (some (.row 2 1 ((toI z.1).map ci)))) 2 (some (.box 31 [.lst 1 (ns.map ci), .lst 6 (ps.map piA)])) }) (fun (i, z) => i ≤ ps.length ∧ Inv (ps.map pe) ns.length s.toNat z.1 ∧ (∃ t, z.1 = y.1 ++ t) ∧ wyI u ((ps.map pe).drop i) i z = wyI u (ps.map pe) 0 y ∧ z.2.length ≤ z.1.length) (fun (i, z) => ps.length - i) (0, y) ?_ ?_ ?_
      · exact ⟨Nat.zero_le _, hV, ⟨[], by simp⟩, rfl, hK2⟩
      · refine sub_weak ?_ ?_
        · exact weakH_box (boxEq (rfl)) rfl (weakH_row (rowEq (rfl)) (weakH_row (rowEq (rfl)) (weakH_none _)))
        · refine weakE_upd ?e23 ?r23 (weakE_upd ?e22 ?r22 (weakE_upd ?e21 ?r21 (weakE_upd ?e7 ?r7 (weakE_upd ?e6 ?r6 (weakE_upd ?e5 ?r5 (weakE_upd ?e2 ?r2 (weakE_junk _ _)))))))
          case e2 => first | rfl | exact fI (by omega) | (simp_all)
          case r2 => intro h hh; simp [refs] at hh; subst hh; rfl
          case e5 => first | rfl | exact fI (by omega) | (first | rfl | exact ownEq (by simp))
          case r5 => intro h hh; simp [refs] at hh; subst hh; rfl
          case e6 => first | rfl | exact fI (by omega) | (first | rfl | exact ownEq (by simp [toI_len]))
          case r6 => intro h hh; simp [refs] at hh; subst hh; rfl
          case e7 => first | rfl | exact fI (by omega) | (simp_all)
          case r7 => intro h hh; cases hh
          case e21 => first | rfl | exact fI (by omega) | (simp_all)
          case r21 => intro h hh; cases hh
          case e22 => first | rfl | exact fI (by omega) | (simp_all)
          case r22 => intro h hh; cases hh
          case e23 => first | rfl | exact fI (by omega) | (simp_all)
          case r23 => intro h hh; cases hh
      · rintro ⟨i, z⟩ ⟨hI, hW, hP, hB, hZ⟩
        refine good_seq fun K14 hK14 => ?_
        refine good_region rfl ?_
        refine ev_q rfl (q_int rfl rfl ?_)
        intro b15 hb15; cases b15
        · replace hb15 := dF hb15
          refine ev_nil (hK14 _ ?_); clear hK14
          refine good_seq fun K16 hK16 => ?_
          refine good_condF rfl ?_
          refine good_exit ?_
          repeat (first | refine thenQ_exit ?_ | refine blockQ_pass rfl ?_)
          refine blockQ_exit (hK11 _ ?_); clear hK11
          refine good_region rfl ?_
          refine ev_q rfl (q_move (by conv => lhs; whnf) ?_)
          refine ev_q rfl (q_int rfl rfl ?_)
          intro n17 hn17
          replace hn17 := in64 hn17 (by omega) (by omega)
          refine ev_q rfl (q_assign (by conv => lhs; whnf) ?_)
          refine ev_nil ?_
          clear hK4 hK16
          refine ⟨(k + 1, z), ?_, ?_, ?_⟩
          · refine ⟨⟨?_, hZ⟩, hW, ?_⟩
            · obtain ⟨t, ht⟩ := hP
              have := congrArg List.length ht
              rw [List.length_append] at this
              show k + 1 ≤ z.1.length; omega
            · show wyO _ _ (k + 1) z = _
              rw [wyI_end (by omega)] at hB
              rw [← hF, wyO_s hu (by omega), hB]
          · first | omega | (dsimp only; omega)
          · refine sub_weak ?_ ?_
            · exact weakH_box (boxEq (rfl)) rfl (weakH_row (rowEq (rfl)) (weakH_row (rowEq (rfl)) (weakH_none _)))
            · refine weakE_upd ?e7 ?r7 (weakE_upd ?e6 ?r6 (weakE_upd ?e5 ?r5 (weakE_upd ?e2 ?r2 (weakE_junk _ _))))
              case e2 => first | rfl | exact fI (by omega) | (simp_all)
              case r2 => intro h hh; simp [refs] at hh; subst hh; rfl
              case e5 => first | rfl | exact fI (by omega) | (simp_all)
              case r5 => intro h hh; simp [refs] at hh; subst hh; rfl
              case e6 => first | rfl | exact fI (by omega) | (simp_all)
              case r6 => intro h hh; simp [refs] at hh; subst hh; rfl
              case e7 => first | rfl | exact fI (by omega) | (simp_all)
              case r7 => intro h hh; cases hh
        · replace hb15 := dT hb15
          obtain ⟨p, hpp⟩ := getL (xs := ps) (n := (i : Int)) (by omega) (by omega)
          replace hpp : ps[i]? = some p := hpp
          have hpo := (ok.2 i p hpp).1
          have hp1 := hpo.1.2.1
          have hp2 := hpo.1.2.2.1
          have hlv := len_le z.1 hW.nd hW.lt
          have hP0 := hP
          obtain ⟨t, ht⟩ := hP
          have hv : z.1[k]? = some u := by rw [ht, List.getElem?_append_left hkl]; exact hu
          have hbd := wyI_d (u := u) (y := z) hpp
          refine ev_nil (hK14 _ ?_); clear hK14
          refine good_seq fun K18 hK18 => ?_
          refine good_condT rfl ?_
          refine good_skip (hK18 _ ?_); clear hK18
          refine good_seq fun K19 hK19 => ?_
          refine good_block ?_
          refine good_seq fun K20 hK20 => ?_
          refine good_region rfl ?_
          refine ev_q rfl (q_move (by conv => lhs; whnf) ?_)
          refine ev_q rfl (q_idx tE29 rfl rfl (by exact Int.natCast_nonneg _) (by exact map_get hpp) rfl ?_)
          refine ev_q rfl (q_loadA tA59 rfl rfl rfl ?_)
          refine ev_k rfl (k_alloc zA59 rfl ?_)
          refine ev_q rfl (q_assign (by conv => lhs; whnf) ?_)
          refine ev_k rfl (k_store sz59 rfl (by conv => lhs; whnf) rfl rfl rfl (Nat.le_of_ble_eq_true rfl) rfl ?_)
          refine ev_nil (hK20 _ ?_); clear hK20
          refine good_seq fun K21 hK21 => ?_
          refine good_draw 11 hmix (by kernel_rfl) rfl ?_
          refine qo_q rfl (q_loadA tA59 rfl rfl rfl ?_)
          refine qo_q rfl (q_move (by conv => lhs; whnf) ?_)
          refine qo_q rfl (q_move (by conv => lhs; whnf) ?_)
          refine qo_q rfl (q_idxO tE22 rfl rfl rfl (by exact Int.natCast_nonneg _) (by have := congrArg List.length ht; rw [List.length_append] at this; first | omega | (rw [toI_len]; omega) | (simp [toI_len]; omega)) rfl ?_)
          refine qo_q rfl (q_loadE tA2 rfl rfl (by exact toI_get hv) rfl ?_)
          refine qo_q rfl (q_call rfl rfl (rfl) (D_impl_Pipe_other ..) rfl ?_)
          refine qo_q rfl (q_move (by conv => lhs; whnf) ?_)
          refine qo_q rfl (q_extractI rfl rfl ?_)
          intro n22 hn22
          refine qo_q rfl (q_extractB rfl rfl ?_)
          intro b23 hb23; cases b23
          · first | replace hb23 := dF hb23 | skip
            refine qo_q rfl (q_assign (by conv => lhs; whnf) ?_)
            refine qo_q rfl (q_assign (by conv => lhs; whnf) ?_)
            refine qo_nil ?_
            refine ev_nil (hK21 _ ?_); clear hK21
            refine good_seq fun K24 hK24 => ?_
            refine good_region rfl ?_
            refine ev_q rfl (q_move (by conv => lhs; whnf) ?_)
            refine ev_q rfl (q_move (by conv => lhs; whnf) ?_)
            refine ev_skip rfl ?_
            refine ev_skip rfl ?_
            refine ev_skip rfl ?_
            refine ev_skip rfl ?_
            refine ev_q rfl (q_pickF rfl (by conv => lhs; whnf) ?_)
            refine ev_nil (hK24 _ ?_); clear hK24
            refine good_condF rfl ?_
            refine good_skip (hK19 _ ?_); clear hK19
            refine good_region rfl ?_
            refine ev_q rfl (q_int rfl rfl ?_)
            intro n25 hn25
            replace hn25 := in64 hn25 (by omega) (by omega)
            refine ev_q rfl (q_move (by conv => lhs; whnf) ?_)
            refine ev_nil ?_
            clear hK4 hK11
            refine ⟨(i + 1, z), ?_, ?_, ?_⟩
            · refine ⟨by first | omega | (dsimp only; omega), hW, hP0, ?_, hZ⟩
              show wyI u _ _ z = _
              first | (have hE := wyE_F (i := i) (y := z) (oth_n (p := p) (u := u) (by omega) (by omega) (by assumption)); rw [hE] at hbd; exact hbd.symm.trans hB) | (have hox := oth_y (p := p) (u := u) (by omega) (by omega) (by assumption); rw [← hn22] at hox; have hE := wyE_M (i := i) (y := z) hox.1 ((toI_mem hox.2).1 (by assumption)); rw [hE] at hbd; exact hbd.symm.trans hB) | (exfalso; contradiction) | (exfalso; simp_all; done)
            · first | omega | (dsimp only; omega)
            · refine sub_weak ?_ ?_
              · exact weakH_box (boxEq (rfl)) rfl (weakH_row (rowEq (by first | rfl | exact toI_app hox.2)) (weakH_row (rowEq (by first | rfl | exact wyA_app hox.2)) (weakH_none _)))
              · refine weakE_upd ?e23 ?r23 (weakE_upd ?e22 ?r22 (weakE_upd ?e21 ?r21 (weakE_upd ?e7 ?r7 (weakE_upd ?e6 ?r6 (weakE_upd ?e5 ?r5 (weakE_upd ?e2 ?r2 (weakE_junk _ _)))))))
                case e2 => first | rfl | exact fI (by omega) | (simp_all)
                case r2 => intro h hh; simp [refs] at hh; subst hh; rfl
                case e5 => first | rfl | exact fI (by omega) | (first | rfl | exact ownEq (by simp))
                case r5 => intro h hh; simp [refs] at hh; subst hh; rfl
                case e6 => first | rfl | exact fI (by omega) | (first | rfl | exact ownEq (by simp [toI_len]))
                case r6 => intro h hh; simp [refs] at hh; subst hh; rfl
                case e7 => first | rfl | exact fI (by omega) | (simp_all)
                case r7 => intro h hh; cases hh
                case e21 => first | rfl | exact fI (by omega) | (simp_all)
                case r21 => intro h hh; cases hh
                case e22 => first | rfl | exact fI (by omega) | (simp_all)
                case r22 => intro h hh; cases hh
                case e23 => first | rfl | exact fI (by omega) | (simp_all)
                case r23 => intro h hh; cases hh
          · first | replace hb23 := dT hb23 | skip
            refine qo_q rfl (q_assign (by conv => lhs; whnf) ?_)
            refine qo_q rfl (q_assign (by conv => lhs; whnf) ?_)
            refine qo_nil ?_
            refine ev_nil (hK21 _ ?_); clear hK21
            refine good_seq fun K26 hK26 => ?_
            refine good_region rfl ?_
            refine ev_q rfl (q_move (by conv => lhs; whnf) ?_)
            refine ev_q rfl (q_move (by conv => lhs; whnf) ?_)
            refine ev_q rfl (q_move (by conv => lhs; whnf) ?_)
            refine ev_q rfl (q_move (by conv => lhs; whnf) ?_)
            refine ev_q rfl (q_callB rfl rfl (by change ([.lst 1 (List.take (toI z.1).length ((toI z.1).map ci)), .s (.int .i64 (n22))] : List AV) = _; rw [takeMap]) (D_slices_Contains_int64_int64 _ (toI z.1) (by rw [toI_len]; omega)) ?_)
            intro b27 hb27; cases b27
            · first | replace hb27 := dF hb27 | skip
              refine ev_q rfl (q_not rfl rfl ?_)
              refine ev_q rfl (q_pickT rfl (by conv => lhs; whnf) ?_)
              refine ev_nil (hK26 _ ?_); clear hK26
              refine good_condT rfl ?_
              refine good_seq fun K28 hK28 => ?_
              refine good_region rfl ?_
              refine ev_q rfl (q_move (by conv => lhs; whnf) ?_)
              refine ev_q rfl (q_move (by conv => lhs; whnf) ?_)
              have hox := oth_y (p := p) (u := u) (by omega) (by omega) (by assumption)
              rw [← hn22] at hox
              have hnm : ¬ n22.toNat ∈ z.1 := fun h => absurd ((toI_mem hox.2).2 h) (by assumption)
              have hE := wyE_T (i := i) hox.1 hnm
              have hiN := bfE_inv (hlt (pe p) (List.mem_map_of_mem (List.mem_of_getElem? hpp))) (List.mem_map_of_mem (List.mem_of_getElem? hpp)) (List.mem_of_getElem? hv) hW
              rw [bfE_T hox.1 hnm] at hiN
              rw [hE] at hbd
              have hpN : ∃ t, z.1 ++ [n22.toNat] = y.1 ++ t := ⟨t ++ [n22.toNat], by rw [ht, List.append_assoc]⟩
              have hbN := hbd.symm.trans hB
              have hla := congrArg List.length ht
              rw [List.length_append] at hla
              refine ev_k rfl (k_lit tE22 zA2 rfl rfl (by decide) (by decide) rfl rfl rfl ?_)
              refine ev_k rfl (k_app tApp22 rfl rfl (by first | (simp; done) | (simp [toI_len]; done)) rfl (.inr rfl) (by first | (simp [maxLen]; omega) | (simp [maxLen, toI_len]; omega)) (by first | (simp; omega) | (simp [toI_len]; omega)) ?_)
              refine ev_q rfl (q_assign (by conv => lhs; whnf) ?_)
              refine ev_nil (hK28 _ ?_); clear hK28
              refine good_region rfl ?_
              refine ev_q rfl (q_move (by conv => lhs; whnf) ?_)
              refine ev_q rfl (q_move (by conv => lhs; whnf) ?_)
              refine ev_q rfl (q_move (by conv => lhs; whnf) ?_)
              refine ev_q rfl (q_move (by conv => lhs; whnf) ?_)
              refine ev_q rfl (q_idxO tE22 rfl rfl rfl (by exact Int.natCast_nonneg _) (by have := congrArg List.length ht; rw [List.length_append] at this; first | omega | (rw [toI_len]; omega) | (simp [toI_len]; omega)) rfl ?_)
              refine ev_q rfl (q_loadE tA2 rfl rfl (by exact wk_get hv) rfl ?_)
              refine ev_q rfl (q_move (by conv => lhs; whnf) ?_)
              refine ev_k rfl (k_build zA94 pl94 (rfl) ?_)
              refine ev_k rfl (k_lit tE91 zA94 rfl rfl (by decide) (by decide) rfl rfl rfl ?_)
              refine ev_k rfl (k_app tApp91 rfl rfl (by first | (simp; done) | (simp [toI_len]; done)) rfl (.inr rfl) (by first | (simp [maxLen]; omega) | (simp [maxLen, toI_len]; omega)) (by first | (simp; omega) | (simp [toI_len]; omega)) ?_)
              refine ev_q rfl (q_assign (by conv => lhs; whnf) ?_)
              refine ev_nil (hK19 _ ?_); clear hK19
              refine good_region rfl ?_
              refine ev_q rfl (q_int rfl rfl ?_)
              intro n29 hn29
              replace hn29 := in64 hn29 (by omega) (by omega)
              refine ev_q rfl (q_move (by conv => lhs; whnf) ?_)
              refine ev_nil ?_
              clear hK4 hK11
              refine ⟨(i + 1, (z.1 ++ [n22.toNat], z.2 ++ [(n22.toNat, u, i)])), ?_, ?_, ?_⟩
              · exact ⟨by first | omega | (dsimp only; omega), hiN, hpN, hbN, by simp; omega⟩
              · first | omega | (dsimp only; omega)
              · refine sub_weak ?_ ?_
                · exact weakH_box (boxEq (rfl)) rfl (weakH_row (rowEq (by first | rfl | exact toI_app hox.2)) (weakH_row (rowEq (by first | rfl | exact wyA_app hox.2)) (weakH_none _)))
                · refine weakE_upd ?e23 ?r23 (weakE_upd ?e22 ?r22 (weakE_upd ?e21 ?r21 (weakE_upd ?e7 ?r7 (weakE_upd ?e6 ?r6 (weakE_upd ?e5 ?r5 (weakE_upd ?e2 ?r2 (weakE_junk _ _)))))))
                  case e2 => first | rfl | exact fI (by omega) | (simp_all)
                  case r2 => intro h hh; simp [refs] at hh; subst hh; rfl
                  case e5 => first | rfl | exact fI (by omega) | (first | rfl | exact ownEq (by simp))
                  case r5 => intro h hh; simp [refs] at hh; subst hh; rfl
                  case e6 => first | rfl | exact fI (by omega) | (first | rfl | exact ownEq (by simp [toI_len]))
                  case r6 => intro h hh; simp [refs] at hh; subst hh; rfl
                  case e7 => first | rfl | exact fI (by omega) | (simp_all)
                  case r7 => intro h hh; cases hh
                  case e21 => first | rfl | exact fI (by omega) | (simp_all)
                  case r21 => intro h hh; cases hh
                  case e22 => first | rfl | exact fI (by omega) | (simp_all)
                  case r22 => intro h hh; cases hh
                  case e23 => first | rfl | exact fI (by omega) | (simp_all)
                  case r23 => intro h hh; cases hh
            · first | replace hb27 := dT hb27 | skip
              refine ev_q rfl (q_not rfl rfl ?_)
              refine ev_q rfl (q_pickT rfl (by conv => lhs; whnf) ?_)
              refine ev_nil (hK26 _ ?_); clear hK26
              refine good_condF rfl ?_
              refine good_skip (hK19 _ ?_); clear hK19
              refine good_region rfl ?_
              refine ev_q rfl (q_int rfl rfl ?_)
              intro n30 hn30
              replace hn30 := in64 hn30 (by omega) (by omega)
              refine ev_q rfl (q_move (by conv => lhs; whnf) ?_)
              refine ev_nil ?_
              clear hK4 hK11
              refine ⟨(i + 1, z), ?_, ?_, ?_⟩
              · refine ⟨by first | omega | (dsimp only; omega), hW, hP0, ?_, hZ⟩
                show wyI u _ _ z = _
                first | (have hE := wyE_F (i := i) (y := z) (oth_n (p := p) (u := u) (by omega) (by omega) (by assumption)); rw [hE] at hbd; exact hbd.symm.trans hB) | (have hox := oth_y (p := p) (u := u) (by omega) (by omega) (by assumption); rw [← hn22] at hox; have hE := wyE_M (i := i) (y := z) hox.1 ((toI_mem hox.2).1 (by assumption)); rw [hE] at hbd; exact hbd.symm.trans hB) | (exfalso; contradiction) | (exfalso; simp_all; done)
              · first | omega | (dsimp only; omega)
              · refine sub_weak ?_ ?_
                · exact weakH_box (boxEq (rfl)) rfl (weakH_row (rowEq (by first | rfl | exact toI_app hox.2)) (weakH_row (rowEq (by first | rfl | exact wyA_app hox.2)) (weakH_none _)))
                · refine weakE_upd ?e23 ?r23 (weakE_upd ?e22 ?r22 (weakE_upd ?e21 ?r21 (weakE_upd ?e7 ?r7 (weakE_upd ?e6 ?r6 (weakE_upd ?e5 ?r5 (weakE_upd ?e2 ?r2 (weakE_junk _ _)))))))
                  case e2 => first | rfl | exact fI (by omega) | (simp_all)
                  case r2 => intro h hh; simp [refs] at hh; subst hh; rfl
                  case e5 => first | rfl | exact fI (by omega) | (first | rfl | exact ownEq (by simp))
                  case r5 => intro h hh; simp [refs] at hh; subst hh; rfl
                  case e6 => first | rfl | exact fI (by omega) | (first | rfl | exact ownEq (by simp [toI_len]))
                  case r6 => intro h hh; simp [refs] at hh; subst hh; rfl
                  case e7 => first | rfl | exact fI (by omega) | (simp_all)
                  case r7 => intro h hh; cases hh
                  case e21 => first | rfl | exact fI (by omega) | (simp_all)
                  case r21 => intro h hh; cases hh
                  case e22 => first | rfl | exact fI (by omega) | (simp_all)
                  case r22 => intro h hh; cases hh
                  case e23 => first | rfl | exact fI (by omega) | (simp_all)
                  case r23 => intro h hh; cases hh

-- (impl.way).along
set_option maxRecDepth 20000 in
set_option maxHeartbeats 2000000 in
theorem D_impl_way_along (ns : List Int) (ps : List Pi) (fl : List Int) (w : Nat × Nat × Nat) (p : Pi) (l : Int) (h2 : 0 ≤ p.tt) (hp : ps[w.2.2]? = some p) (hl : fl[w.2.2]? = some l) (hb : -100000 ≤ l ∧ l ≤ 100000) : Den Try.prog 61 [(wyA w), .agg [.lst 1 (ns.map ci), .lst 6 (ps.map piA)], .lst 1 (fl.map ci)] (.s (.int .i64 (flS (ps.map pe) fl w))) := by
  have hlp := (List.getElem?_eq_some_iff.1 hp).1
  have hll := (List.getElem?_eq_some_iff.1 hl).1
  have hfs := flS_y hp hl
  refine den_of_good Try.func61 (by decide) rfl (Nat.le_of_ble_eq_true rfl) (Nat.le_of_ble_eq_true rfl) ?_
  refine good_seq fun K1 hK1 => ?_
  refine good_region rfl ?_
  refine ev_k rfl (k_box (by conv => lhs; whnf) rfl rfl rfl ?_)
  refine ev_k rfl (k_box (by conv => lhs; whnf) rfl rfl rfl ?_)
  refine ev_q rfl (q_assign (by conv => lhs; whnf) ?_)
  refine ev_nil (hK1 _ ?_); clear hK1
  refine good_seq fun K2 hK2 => ?_
  refine good_seq fun K3 hK3 => ?_
  refine good_draw 10 hmix (by kernel_rfl) rfl ?_
  refine qo_q rfl (q_fieldAddrP fO31_1 rfl rfl ?_)
  refine qo_q rfl (q_load tA29 rfl ?_)
  refine qo_q rfl (q_fieldAddrP fO94_2 rfl rfl ?_)
  refine qo_q rfl (q_load tA3 rfl ?_)
  refine qo_q rfl (q_idx tE29 rfl rfl (by exact Int.natCast_nonneg _) (by exact map_get hp) rfl ?_)
  refine qo_q rfl (q_fieldAddr fO59_2 rfl rfl ?_)
  refine qo_q rfl (q_load tA2 rfl ?_)
  refine qo_q rfl (q_fieldAddrP fO94_0 rfl rfl ?_)
  refine qo_q rfl (q_load tA2 rfl ?_)
  refine qo_q rfl (q_int rfl rfl ?_)
  intro b4 hb4; cases b4
  · replace hb4 := eqF hb4
    refine qo_nil ?_
    refine ev_nil (hK3 _ ?_); clear hK3
    refine good_condF rfl ?_
    refine good_skip (hK2 _ ?_); clear hK2
    refine good_seq fun K5 hK5 => ?_
    refine good_region rfl ?_
    refine ev_q rfl (q_move (by conv => lhs; whnf) ?_)
    refine ev_q rfl (q_fieldAddrP fO94_2 rfl rfl ?_)
    refine ev_q rfl (q_load tA3 rfl ?_)
    refine ev_q rfl (q_idx tE22 rfl rfl (by exact Int.natCast_nonneg _) (by exact map_get hl) rfl ?_)
    refine ev_q rfl (q_load tA2 rfl ?_)
    refine ev_q rfl (q_neg rfl ?_)
    intro n6 hn6
    replace hn6 := neg64 hn6 (by omega) (by omega)
    refine ev_q rfl (q_assign (by conv => lhs; whnf) ?_)
    refine ev_nil (hK5 _ ?_); clear hK5
    refine good_ret ?_
    repeat (first | refine thenQ_ret ?_ | refine blockQ_ret ?_)
    refine ret_tmp (st := _) rfl (by conv => lhs; whnf) rfl ?_
    first | exact fI (by rw [hfs, if_pos (by omega)]) | exact fI (by rw [hfs, if_neg (by omega)]; omega)
  · replace hb4 := eqT hb4
    refine qo_nil ?_
    refine ev_nil (hK3 _ ?_); clear hK3
    refine good_condT rfl ?_
    refine good_seq fun K7 hK7 => ?_
    refine good_region rfl ?_
    refine ev_q rfl (q_move (by conv => lhs; whnf) ?_)
    refine ev_q rfl (q_fieldAddrP fO94_2 rfl rfl ?_)
    refine ev_q rfl (q_load tA3 rfl ?_)
    refine ev_q rfl (q_idx tE22 rfl rfl (by exact Int.natCast_nonneg _) (by exact map_get hl) rfl ?_)
    refine ev_q rfl (q_load tA2 rfl ?_)
    refine ev_q rfl (q_assign (by conv => lhs; whnf) ?_)
    refine ev_nil (hK7 _ ?_); clear hK7
    refine good_ret ?_
    repeat (first | refine thenQ_ret ?_ | refine blockQ_ret ?_)
    refine ret_tmp (st := _) rfl (by conv => lhs; whnf) rfl ?_
    clear hK2
    first | exact fI (by rw [hfs, if_pos (by omega)]) | exact fI (by rw [hfs, if_neg (by omega)]; omega)

-- spec.l07Order
set_option maxRecDepth 20000 in
set_option maxHeartbeats 2000000 in
theorem D_spec_l07Order (ns : List Int) (ps : List Pi) (s : Int) (hn : ns.length ≤ 17592186044416) (hp : ps.length ≤ 2513169434843) (hz : idSz ps) (ok : netOk ns ps) (hs : 0 ≤ s ∧ s < ns.length) : DenX Try.prog 117 [] [.rp [.lst 1 (ns.map ci), .lst 6 (ps.map piA)], .s (.int .i64 s)] [(900001, .row 2 1 ((toI (waysF (ps.map pe) ns.length s.toNat).1).map ci)), (900002, .row 2 1 ((byL (ps.map pe) (waysF (ps.map pe) ns.length s.toNat).2 ns.length).map ci))] (.tup [.own 900001 (toI (waysF (ps.map pe) ns.length s.toNat).1).length, .own 900002 ns.length]) := by
  have h16 := ok.1.1
  have h20 := ok.1.2.2
  have hlt := esF_lt ok
  refine denX_of_good Try.func117 (by decide) rfl (Nat.le_of_ble_eq_true rfl) (Nat.le_of_ble_eq_true rfl) rfl ?_
  refine good_seq fun K1 hK1 => ?_
  refine good_region rfl ?_
  refine ev_q rfl (q_assign (by conv => lhs; whnf) ?_)
  refine ev_q rfl (q_assign (by conv => lhs; whnf) ?_)
  refine ev_nil (hK1 _ ?_); clear hK1
  refine good_seq fun K2 hK2 => ?_
  refine good_region rfl ?_
  refine ev_q rfl (q_move (by conv => lhs; whnf) ?_)
  refine ev_k rfl (k_lit tE22 zA2 rfl rfl (by decide) (by decide) rfl rfl rfl ?_)
  refine ev_q rfl (q_assign (by conv => lhs; whnf) ?_)
  refine ev_nil (hK2 _ ?_); clear hK2
  refine good_seq fun K3 hK3 => ?_
  refine good_region rfl ?_
  refine ev_q rfl (q_move (by conv => lhs; whnf) ?_)
  refine ev_q rfl (q_nilCheck (by conv => lhs; whnf) rfl ?_)
  refine ev_q rfl (q_fieldAddr fO31_0 rfl rfl ?_)
  refine ev_q rfl (q_load tA22 rfl ?_)
  refine ev_q rfl (q_len tEs22 rfl ?_)
  intro n4 hn4
  try simp only [List.length_map] at hn4
  refine ev_k rfl (k_make tE22 rfl rfl zA2 tBy2 rfl (by omega) (by omega) (by omega) rfl (by show _ = ns.length; omega) ?_)
  refine ev_q rfl (q_assign (by conv => lhs; whnf) ?_)
  refine ev_nil (hK3 _ ?_); clear hK3
  refine good_seq fun K5 hK5 => ?_
  refine good_region rfl ?_
  refine ev_q rfl (q_move (by conv => lhs; whnf) ?_)
  refine ev_q rfl (q_nilCheck (by conv => lhs; whnf) rfl ?_)
  refine ev_q rfl (q_fieldAddr fO31_0 rfl rfl ?_)
  refine ev_q rfl (q_load tA22 rfl ?_)
  refine ev_q rfl (q_len tEs22 rfl ?_)
  intro n6 hn6
  try simp only [List.length_map] at hn6
  refine ev_k rfl (k_make tE180 rfl rfl zA4 tBy4 rfl (by omega) (by omega) (by omega) rfl (by show _ = ns.length; omega) ?_)
  refine ev_q rfl (q_assign (by conv => lhs; whnf) ?_)
  refine ev_nil (hK5 _ ?_); clear hK5
  refine good_seq fun K7 hK7 => ?_
  refine good_region rfl ?_
  refine ev_q rfl (q_move (by conv => lhs; whnf) ?_)
  refine ev_q rfl (q_move (by conv => lhs; whnf) ?_)
  refine ev_q rfl (q_idxO tE180 rfl rfl rfl (by first | exact Int.natCast_nonneg _ | omega) (by first | omega | (rw [toI_len]; have := congrArg List.length ht; rw [List.length_append] at this; omega) | (have := congrArg List.length ht; rw [List.length_append] at this; simp [toI_len]; omega)) rfl ?_)
  refine ev_k rfl (k_storeE sz4 rfl (by conv => lhs; whnf) rfl rfl rfl (Nat.le_of_ble_eq_true rfl) rfl (by exact repG (by omega)) (Nat.le_of_ble_eq_true rfl) rfl ?_)
  refine ev_nil (hK7 _ ?_); clear hK7
  refine good_seq fun K8 hK8 => ?_
  refine good_seq fun K9 hK9 => ?_
  refine good_region rfl ?_
  refine ev_q rfl (q_assign (by conv => lhs; whnf) ?_)
  refine ev_nil (hK9 _ ?_); clear hK9
  refine good_block ?_
  refine good_loop (α := Nat × (List Nat × List (Nat × Nat × Nat))) (fun (k, y) => { env := upd (upd (upd (upd (upd ((fun _ => .junk)) 0 (.rp [.lst 1 (ns.map ci), .lst 6 (ps.map piA)])) 6 (.own 89 (toI y.1).length)) 7 (.own 19 ns.length)) 8 (.own 25 ns.length)) 9 (.s (.int .i64 ((k : Int)))), H := upd (upd (upd ((fun _ => none)) 25 (some (.row 4 1 (seR y.1 ns.length)))) 19 (some (.row 2 1 ((byL (ps.map pe) y.2 ns.length).map ci)))) 89 (some (.row 2 1 ((toI y.1).map ci))) }) (fun (k, y) => k ≤ y.1.length ∧ (Inv (ps.map pe) ns.length s.toNat y.1 ∧ WInv (ps.map pe) s.toNat y) ∧ wyO (ps.map pe) (ns.length - k) k y = (waysF (ps.map pe) ns.length s.toNat)) (fun (k, y) => ns.length - k) (0, ([s.toNat], [])) ?_ ?_ ?_
  · exact ⟨by simp, ⟨⟨by simp, fun v hv => by have e : v = s.toNat := (by simpa using hv); rw [e]; omega, fun v hv => by have e : v = s.toNat := (by simpa using hv); rw [e]; exact .rfl _, by simp⟩, ⟨rfl, fun w hw => by cases hw⟩⟩, rfl⟩
  · first | refine Sub.trans (sub_move 6 13 89 rfl rfl rfl (by decide)) ?_ | skip
    refine sub_weak ?_ ?_
    · exact weakH_row (rowEq (by show [ci s] = [ci ((s.toNat : Nat) : Int)]; rw [Int.toNat_of_nonneg hs.1])) (weakH_row (rowEq (by first | (rw [byL_0]; exact repI))) (weakH_row (rowEq (by first | exact (congrArg (fun l => List.set l s.toNat (.s (.bool true))) seR_0).trans (seR_set (ks := []) (n := ns.length) (v := s.toNat) (by omega)))) (weakH_none _)))
    · refine weakE_upd ?e9 ?r9 (weakE_upd ?e8 ?r8 (weakE_upd ?e7 ?r7 (weakE_upd ?e6 ?r6 (weakE_upd ?e0 ?r0 (weakE_junk _ _)))))
      case e0 => first | rfl | exact fI (by omega) | (simp_all)
      case r0 => intro h hh; cases hh
      case e6 => first | rfl | exact fI (by omega) | (simp_all)
      case r6 => intro h hh; simp [refs] at hh; subst hh; rfl
      case e7 => first | rfl | exact fI (by omega) | (simp_all)
      case r7 => intro h hh; simp [refs] at hh; subst hh; rfl
      case e8 => first | rfl | exact fI (by omega) | (simp_all)
      case r8 => intro h hh; simp [refs] at hh; subst hh; rfl
      case e9 => first | rfl | exact fI (by omega) | (simp_all)
      case r9 => intro h hh; cases hh
  · rintro ⟨k, y⟩ ⟨hK, hV, hF⟩
    refine good_seq fun K10 hK10 => ?_
    refine good_seq fun K11 hK11 => ?_
    refine good_region rfl ?_
    refine ev_q rfl (q_move (by conv => lhs; whnf) ?_)
    refine ev_q rfl (q_move (by conv => lhs; whnf) ?_)
    refine ev_q rfl (q_len tEs22 rfl ?_)
    intro n12 hn12
    try simp only [List.length_map] at hn12
    refine ev_q rfl (q_int rfl rfl ?_)
    intro b13 hb13; cases b13
    · replace hb13 := dF hb13
      have hkl : y.1.length ≤ k := by rw [toI_len] at *; omega
      have hln := len_le y.1 hV.1.nd hV.1.lt
      refine ev_nil (hK11 _ ?_); clear hK11
      refine good_condF rfl ?_
      refine good_exit ?_
      repeat (first | refine thenQ_exit ?_ | refine blockQ_pass rfl ?_)
      refine blockQ_exit (hK8 _ ?_); clear hK8
      refine good_seq fun K14 hK14 => ?_
      refine good_region rfl ?_
      refine ev_q rfl (q_move (by conv => lhs; whnf) ?_)
      refine ev_q rfl (q_move (by conv => lhs; whnf) ?_)
      refine ev_q rfl (q_assign (by conv => lhs; whnf) ?_)
      refine ev_q rfl (q_assign (by conv => lhs; whnf) ?_)
      refine ev_nil (hK14 _ ?_); clear hK14
      refine good_weak (sub_move 4 89 900001 rfl rfl rfl (by decide)) ?_
      refine good_weak (sub_move 5 19 900002 rfl rfl rfl (by decide)) ?_
      refine good_ret ?_
      repeat (first | refine thenQ_ret ?_ | refine blockQ_ret ?_)
      refine fx_many rfl ?_
      refine fxs_tmp (by conv => lhs; whnf) ?_
      refine fxs_tmp (by conv => lhs; whnf) ?_
      refine fx_nil ?_
      clear hK10
      have e : (waysF (ps.map pe) ns.length s.toNat) = y := by rw [← hF]; exact wyO_e hkl
      exact ⟨_, .tup (.cons (conv_eq (by first | rfl | (rw [e]; done) | (rw [e]; rfl) | exact ownEq (by first | omega | simp_all))) (.cons (conv_eq (by first | rfl | (rw [e]; done) | (rw [e]; rfl) | exact ownEq (by first | omega | simp_all))) (.nil))), weakH_row (rowEq (by first | (rw [e]; done) | (rw [e]; rfl))) (weakH_row (rowEq (by first | (rw [e]; done) | (rw [e]; rfl))) (weakH_none _)), refsIn_ok rfl⟩
    · replace hb13 := dT hb13
      have hkl : k < y.1.length := by rw [toI_len] at *; omega
      obtain ⟨u, hu⟩ : ∃ u, y.1[k]? = some u := ⟨_, List.getElem?_eq_getElem hkl⟩
      have hln := len_le y.1 hV.1.nd hV.1.lt
      refine ev_nil (hK11 _ ?_); clear hK11
      refine good_condT rfl ?_
      refine good_skip (hK10 _ ?_); clear hK10
      refine good_seq fun K15 hK15 => ?_
      refine good_block ?_
      refine good_seq fun K16 hK16 => ?_
      refine good_region rfl ?_
      refine ev_q rfl (q_assign (by conv => lhs; whnf) ?_)
      refine ev_nil (hK16 _ ?_); clear hK16
      refine good_block ?_
      refine good_loop (α := Nat × (List Nat × List (Nat × Nat × Nat))) (fun (i, z) => { env := upd (upd (upd (upd (upd (upd ((fun _ => .junk)) 0 (.rp [.lst 1 (ns.map ci), .lst 6 (ps.map piA)])) 6 (.own 89 (toI z.1).length)) 7 (.own 19 ns.length)) 8 (.own 25 ns.length)) 9 (.s (.int .i64 ((k : Int))))) 10 (.s (.int .i64 ((i : Int)))), H := upd (upd (upd ((fun _ => none)) 25 (some (.row 4 1 (seR z.1 ns.length)))) 19 (some (.row 2 1 ((byL (ps.map pe) z.2 ns.length).map ci)))) 89 (some (.row 2 1 ((toI z.1).map ci))) }) (fun (i, z) => i ≤ ps.length ∧ (Inv (ps.map pe) ns.length s.toNat z.1 ∧ WInv (ps.map pe) s.toNat z) ∧ (∃ t, z.1 = y.1 ++ t) ∧ wyI u ((ps.map pe).drop i) i z = wyI u (ps.map pe) 0 y) (fun (i, z) => ps.length - i) (0, y) ?_ ?_ ?_
      · exact ⟨Nat.zero_le _, hV, ⟨[], by simp⟩, rfl⟩
      · refine sub_weak ?_ ?_
        · exact weakH_row (rowEq (rfl)) (weakH_row (rowEq (rfl)) (weakH_row (rowEq (rfl)) (weakH_none _)))
        · refine weakE_upd ?e10 ?r10 (weakE_upd ?e9 ?r9 (weakE_upd ?e8 ?r8 (weakE_upd ?e7 ?r7 (weakE_upd ?e6 ?r6 (weakE_upd ?e0 ?r0 (weakE_junk _ _))))))
          case e0 => first | rfl | exact fI (by omega) | (simp_all)
          case r0 => intro h hh; cases hh
          case e6 => first | rfl | exact fI (by omega) | (first | rfl | exact ownEq (by simp [toI_len]))
          case r6 => intro h hh; simp [refs] at hh; subst hh; rfl
          case e7 => first | rfl | exact fI (by omega) | (simp_all)
          case r7 => intro h hh; simp [refs] at hh; subst hh; rfl
          case e8 => first | rfl | exact fI (by omega) | (simp_all)
          case r8 => intro h hh; simp [refs] at hh; subst hh; rfl
          case e9 => first | rfl | exact fI (by omega) | (simp_all)
          case r9 => intro h hh; cases hh
          case e10 => first | rfl | exact fI (by omega) | (simp_all)
          case r10 => intro h hh; cases hh
      · rintro ⟨i, z⟩ ⟨hI, hW, hP, hB⟩
        refine good_seq fun K17 hK17 => ?_
        refine good_seq fun K18 hK18 => ?_
        refine good_region rfl ?_
        refine ev_q rfl (q_move (by conv => lhs; whnf) ?_)
        refine ev_q rfl (q_move (by conv => lhs; whnf) ?_)
        refine ev_q rfl (q_nilCheck (by conv => lhs; whnf) rfl ?_)
        refine ev_q rfl (q_fieldAddr fO31_1 rfl rfl ?_)
        refine ev_q rfl (q_load tA29 rfl ?_)
        refine ev_q rfl (q_len tEs29 rfl ?_)
        intro n19 hn19
        try simp only [List.length_map] at hn19
        refine ev_q rfl (q_int rfl rfl ?_)
        intro b20 hb20; cases b20
        · replace hb20 := dF hb20
          refine ev_nil (hK18 _ ?_); clear hK18
          refine good_condF rfl ?_
          refine good_exit ?_
          repeat (first | refine thenQ_exit ?_ | refine blockQ_pass rfl ?_)
          refine blockQ_exit (hK15 _ ?_); clear hK15
          refine good_region rfl ?_
          refine ev_q rfl (q_move (by conv => lhs; whnf) ?_)
          refine ev_q rfl (q_int rfl rfl ?_)
          intro n21 hn21
          replace hn21 := in64 hn21 (by omega) (by omega)
          refine ev_q rfl (q_assign (by conv => lhs; whnf) ?_)
          refine ev_nil ?_
          clear hK8 hK17
          refine ⟨(k + 1, z), ?_, ?_, ?_⟩
          · refine ⟨?_, hW, ?_⟩
            · obtain ⟨t, ht⟩ := hP
              have := congrArg List.length ht
              rw [List.length_append] at this
              show k + 1 ≤ z.1.length; omega
            · show wyO _ _ (k + 1) z = _
              rw [wyI_end (by omega)] at hB
              rw [← hF, wyO_s hu (by omega), hB]
          · first | omega | (dsimp only; omega)
          · refine sub_weak ?_ ?_
            · exact weakH_row (rowEq (rfl)) (weakH_row (rowEq (rfl)) (weakH_row (rowEq (rfl)) (weakH_none _)))
            · refine weakE_upd ?e9 ?r9 (weakE_upd ?e8 ?r8 (weakE_upd ?e7 ?r7 (weakE_upd ?e6 ?r6 (weakE_upd ?e0 ?r0 (weakE_junk _ _)))))
              case e0 => first | rfl | exact fI (by omega) | (simp_all)
              case r0 => intro h hh; cases hh
              case e6 => first | rfl | exact fI (by omega) | (simp_all)
              case r6 => intro h hh; simp [refs] at hh; subst hh; rfl
              case e7 => first | rfl | exact fI (by omega) | (simp_all)
              case r7 => intro h hh; simp [refs] at hh; subst hh; rfl
              case e8 => first | rfl | exact fI (by omega) | (simp_all)
              case r8 => intro h hh; simp [refs] at hh; subst hh; rfl
              case e9 => first | rfl | exact fI (by omega) | (simp_all)
              case r9 => intro h hh; cases hh
        · replace hb20 := dT hb20
          obtain ⟨p, hpp⟩ := getL (xs := ps) (n := (i : Int)) (by omega) (by omega)
          replace hpp : ps[i]? = some p := hpp
          have hpo := (ok.2 i p hpp).1
          have hp1 := hpo.1.2.1
          have hp2 := hpo.1.2.2.1
          have hp3 := hpo.1.2.2.2.1
          have hlv := len_le z.1 hW.1.nd hW.1.lt
          have hP0 := hP
          obtain ⟨t, ht⟩ := hP
          have hv : z.1[k]? = some u := by rw [ht, List.getElem?_append_left hkl]; exact hu
          have hbd := wyI_d (u := u) (y := z) hpp
          refine ev_nil (hK18 _ ?_); clear hK18
          refine good_condT rfl ?_
          refine good_skip (hK17 _ ?_); clear hK17
          refine good_seq fun K22 hK22 => ?_
          refine good_block ?_
          refine good_seq fun K23 hK23 => ?_
          refine good_region rfl ?_
          refine ev_q rfl (q_move (by conv => lhs; whnf) ?_)
          refine ev_q rfl (q_nilCheck (by conv => lhs; whnf) rfl ?_)
          refine ev_q rfl (q_fieldAddr fO31_1 rfl rfl ?_)
          refine ev_q rfl (q_load tA29 rfl ?_)
          refine ev_q rfl (q_move (by conv => lhs; whnf) ?_)
          refine ev_q rfl (q_idx tE29 rfl rfl (by first | exact Int.natCast_nonneg _ | omega) (by exact map_get hpp) rfl ?_)
          refine ev_q rfl (q_assign (by conv => lhs; whnf) ?_)
          refine ev_nil (hK23 _ ?_); clear hK23
          refine good_seq fun K24 hK24 => ?_
          refine good_seq fun K25 hK25 => ?_
          refine good_draw 19 hmix (by kernel_rfl) rfl ?_
          refine qo_q rfl (q_move (by conv => lhs; whnf) ?_)
          refine qo_q rfl (q_nilCheck (by conv => lhs; whnf) rfl ?_)
          refine qo_q rfl (q_fieldAddr fO59_1 rfl rfl ?_)
          refine qo_q rfl (q_load tA2 rfl ?_)
          refine qo_q rfl (q_move (by conv => lhs; whnf) ?_)
          refine qo_q rfl (q_move (by conv => lhs; whnf) ?_)
          refine qo_q rfl (q_idxO tE22 rfl rfl rfl (by first | exact Int.natCast_nonneg _ | omega) (by first | omega | (rw [toI_len]; have := congrArg List.length ht; rw [List.length_append] at this; omega) | (have := congrArg List.length ht; rw [List.length_append] at this; simp [toI_len]; omega)) rfl ?_)
          refine qo_q rfl (q_loadE tA2 rfl rfl (by exact toI_get hv) rfl ?_)
          refine qo_q rfl (q_int rfl rfl ?_)
          intro b26 hb26; cases b26
          · replace hb26 := eqF hb26
            refine qo_q rfl (q_move (by conv => lhs; whnf) ?_)
            refine qo_skip rfl ?_
            refine qo_skip rfl ?_
            refine qo_skip rfl ?_
            refine qo_skip rfl ?_
            refine qo_skip rfl ?_
            refine qo_skip rfl ?_
            refine qo_skip rfl ?_
            refine qo_skip rfl ?_
            refine qo_q rfl (q_pickF rfl (by conv => lhs; whnf) ?_)
            refine qo_nil ?_
            refine ev_nil (hK25 _ ?_); clear hK25
            refine good_condF rfl ?_
            refine good_skip (hK24 _ ?_); clear hK24
            refine good_seq fun K27 hK27 => ?_
            refine good_draw 19 hmix (by kernel_rfl) rfl ?_
            refine qo_q rfl (q_move (by conv => lhs; whnf) ?_)
            refine qo_q rfl (q_nilCheck (by conv => lhs; whnf) rfl ?_)
            refine qo_q rfl (q_fieldAddr fO59_2 rfl rfl ?_)
            refine qo_q rfl (q_load tA2 rfl ?_)
            refine qo_q rfl (q_move (by conv => lhs; whnf) ?_)
            refine qo_q rfl (q_move (by conv => lhs; whnf) ?_)
            refine qo_q rfl (q_idxO tE22 rfl rfl rfl (by first | exact Int.natCast_nonneg _ | omega) (by first | omega | (rw [toI_len]; have := congrArg List.length ht; rw [List.length_append] at this; omega) | (have := congrArg List.length ht; rw [List.length_append] at this; simp [toI_len]; omega)) rfl ?_)
            refine qo_q rfl (q_loadE tA2 rfl rfl (by first | exact toI_get hv | exact wk_get hv) rfl ?_)
            refine qo_q rfl (q_int rfl rfl ?_)
            intro b28 hb28; cases b28
            · replace hb28 := eqF hb28
              refine qo_q rfl (q_move (by conv => lhs; whnf) ?_)
              refine qo_skip rfl ?_
              refine qo_skip rfl ?_
              refine qo_skip rfl ?_
              refine qo_skip rfl ?_
              refine qo_skip rfl ?_
              refine qo_skip rfl ?_
              refine qo_skip rfl ?_
              refine qo_skip rfl ?_
              refine qo_q rfl (q_pickF rfl (by conv => lhs; whnf) ?_)
              refine qo_nil ?_
              refine ev_nil (hK27 _ ?_); clear hK27
              refine good_condF rfl ?_
              refine good_skip (hK22 _ ?_); clear hK22
              refine good_region rfl ?_
              refine ev_q rfl (q_move (by conv => lhs; whnf) ?_)
              refine ev_q rfl (q_int rfl rfl ?_)
              intro n29 hn29
              replace hn29 := in64 hn29 (by omega) (by omega)
              refine ev_q rfl (q_assign (by conv => lhs; whnf) ?_)
              refine ev_nil ?_
              clear hK8 hK15
              refine ⟨(i + 1, z), ?_, ?_, ?_⟩
              · refine ⟨by first | omega | (dsimp only; omega), hW, hP0, ?_⟩
                show wyI u _ _ z = _
                have hE := wyE_F (i := i) (y := z) (nx_n (p := p) (u := u) (by omega) (by omega) (by omega) (by omega))
                rw [hE] at hbd; exact hbd.symm.trans hB
              · first | omega | (dsimp only; omega)
              · first | refine Sub.trans (sub_move 6 130 89 rfl rfl rfl (by decide)) ?_ | skip
                refine sub_weak ?_ ?_
                · exact weakH_row (rowEq (by first | rfl | exact toI_app (by omega))) (weakH_row (rowEq (by first | rfl | exact hby)) (weakH_row (rowEq (by first | rfl | exact hss)) (weakH_none _)))
                · refine weakE_upd ?e10 ?r10 (weakE_upd ?e9 ?r9 (weakE_upd ?e8 ?r8 (weakE_upd ?e7 ?r7 (weakE_upd ?e6 ?r6 (weakE_upd ?e0 ?r0 (weakE_junk _ _))))))
                  case e0 => first | rfl | exact fI (by omega) | (simp_all)
                  case r0 => intro h hh; cases hh
                  case e6 => first | rfl | exact fI (by omega) | (first | rfl | exact ownEq (by simp [toI_len]))
                  case r6 => intro h hh; simp [refs] at hh; subst hh; rfl
                  case e7 => first | rfl | exact fI (by omega) | (simp_all)
                  case r7 => intro h hh; simp [refs] at hh; subst hh; rfl
                  case e8 => first | rfl | exact fI (by omega) | (simp_all)
                  case r8 => intro h hh; simp [refs] at hh; subst hh; rfl
                  case e9 => first | rfl | exact fI (by omega) | (simp_all)
                  case r9 => intro h hh; cases hh
                  case e10 => first | rfl | exact fI (by omega) | (simp_all)
                  case r10 => intro h hh; cases hh
            · replace hb28 := eqT hb28
              refine qo_q rfl (q_move (by conv => lhs; whnf) ?_)
              refine qo_q rfl (q_move (by conv => lhs; whnf) ?_)
              refine qo_q rfl (q_move (by conv => lhs; whnf) ?_)
              refine qo_q rfl (q_nilCheck (by conv => lhs; whnf) rfl ?_)
              refine qo_q rfl (q_fieldAddr fO59_1 rfl rfl ?_)
              refine qo_q rfl (q_load tA2 rfl ?_)
              refine qo_q rfl (q_idxO tE180 rfl rfl rfl (by first | exact Int.natCast_nonneg _ | omega) (by first | omega | (rw [toI_len]; have := congrArg List.length ht; rw [List.length_append] at this; omega) | (have := congrArg List.length ht; rw [List.length_append] at this; simp [toI_len]; omega)) rfl ?_)
              refine qo_q rfl (q_loadE tA4 rfl rfl (by first | exact seR_get (by omega) | (rw [hss]; exact seR_get (by omega))) rfl ?_)
              refine qo_q rfl (q_not rfl rfl ?_)
              cases hd107 : decide (p.fm.toNat ∈ z.1)
              · refine qo_q rfl (q_pickT rfl (by conv => lhs; whnf) ?_)
                refine qo_nil ?_
                refine ev_nil (hK27 _ ?_); clear hK27
                refine good_condT rfl ?_
                refine good_seq fun K30 hK30 => ?_
                refine good_region rfl ?_
                have hnm : ¬ p.fm.toNat ∈ z.1 := by first | exact of_decide_eq_false (by assumption) | (simpa using (by assumption))
                have hnx : nxt (pe p) u = some p.fm.toNat := by first | exact nx_f (by omega) | exact nx_t (by omega) (by omega) (by omega)
                have hE := wyE_T (i := i) hnx hnm
                rw [hE] at hbd
                have hiN := bfE_inv (hlt (pe p) (List.mem_map_of_mem (List.mem_of_getElem? hpp))) (List.mem_map_of_mem (List.mem_of_getElem? hpp)) (List.mem_of_getElem? hv) hW.1
                rw [bfE_T hnx hnm] at hiN
                have hwN := wyE_inv (es := (ps.map pe)) (s := s.toNat) (i := i) (e := pe p) (by rw [List.getElem?_map, hpp]; rfl) (List.mem_of_getElem? hv) hW.2
                rw [hE] at hwN
                have hpN : ∃ t, z.1 ++ [p.fm.toNat] = y.1 ++ t := ⟨t ++ [p.fm.toNat], by rw [ht, List.append_assoc]⟩
                have hbN := hbd.symm.trans hB
                have hsg := sg_t (v := p.fm.toNat) (i := i) hpp (u := u) (by omega) (by omega)
                have hbs := byL_set (n := ns.length) (w := (p.fm.toNat, u, i)) (show p.fm.toNat < ns.length by omega) (not_nodes hW.2 hnm) (es := (ps.map pe))
                rw [hsg] at hbs
                have hss := seR_set (ks := z.1) (n := ns.length) (v := p.fm.toNat) (by omega)
                refine ev_q rfl (q_move (by conv => lhs; whnf) ?_)
                refine ev_q rfl (q_move (by conv => lhs; whnf) ?_)
                refine ev_q rfl (q_nilCheck (by conv => lhs; whnf) rfl ?_)
                refine ev_q rfl (q_fieldAddr fO59_1 rfl rfl ?_)
                refine ev_q rfl (q_load tA2 rfl ?_)
                refine ev_q rfl (q_idxO tE180 rfl rfl rfl (by first | exact Int.natCast_nonneg _ | omega) (by first | omega | (rw [toI_len]; have := congrArg List.length ht; rw [List.length_append] at this; omega) | (have := congrArg List.length ht; rw [List.length_append] at this; simp [toI_len]; omega)) rfl ?_)
                refine ev_k rfl (k_storeE sz4 rfl (by conv => lhs; whnf) rfl rfl rfl (Nat.le_of_ble_eq_true rfl) rfl (by exact seR_get (by omega)) (Nat.le_of_ble_eq_true rfl) rfl ?_)
                refine ev_nil (hK30 _ ?_); clear hK30
                refine good_seq fun K31 hK31 => ?_
                refine good_region rfl ?_
                refine ev_q rfl (q_move (by conv => lhs; whnf) ?_)
                refine ev_q rfl (q_move (by conv => lhs; whnf) ?_)
                refine ev_q rfl (q_nilCheck (by conv => lhs; whnf) rfl ?_)
                refine ev_q rfl (q_fieldAddr fO59_1 rfl rfl ?_)
                refine ev_q rfl (q_load tA2 rfl ?_)
                refine ev_q rfl (q_move (by conv => lhs; whnf) ?_)
                refine ev_q rfl (q_neg rfl ?_)
                intro n32 hn32
                replace hn32 := neg64 hn32 (by omega) (by omega)
                refine ev_q rfl (q_int rfl rfl ?_)
                intro n33 hn33
                replace hn33 := in64 hn33 (by omega) (by omega)
                have hby : ((byL (ps.map pe) z.2 ns.length).map ci).set p.fm.toNat (ci n33) = (byL (ps.map pe) (z.2 ++ [(p.fm.toNat, u, i)]) ns.length).map ci := by rw [mapSet, show n33 = -((i : Int) + 1) by omega, hbs]
                refine ev_q rfl (q_idxO tE22 rfl rfl rfl (by first | exact Int.natCast_nonneg _ | omega) (by first | omega | (rw [toI_len]; have := congrArg List.length ht; rw [List.length_append] at this; omega) | (have := congrArg List.length ht; rw [List.length_append] at this; simp [toI_len]; omega)) rfl ?_)
                refine ev_k rfl (k_storeE sz2 rfl (by conv => lhs; whnf) rfl rfl rfl (Nat.le_of_ble_eq_true rfl) rfl (by exact byG (by omega)) (Nat.le_of_ble_eq_true rfl) rfl ?_)
                refine ev_nil (hK31 _ ?_); clear hK31
                refine good_region rfl ?_
                refine ev_q rfl (q_move (by conv => lhs; whnf) ?_)
                refine ev_q rfl (q_move (by conv => lhs; whnf) ?_)
                refine ev_q rfl (q_nilCheck (by conv => lhs; whnf) rfl ?_)
                refine ev_q rfl (q_fieldAddr fO59_1 rfl rfl ?_)
                refine ev_q rfl (q_load tA2 rfl ?_)
                refine ev_k rfl (k_lit tE22 zA2 rfl rfl (by decide) (by decide) rfl rfl rfl ?_)
                refine ev_k rfl (k_app tApp22 rfl rfl (by first | (simp; done) | (simp [toI_len]; done)) rfl (.inl rfl) (by first | (simp [maxLen]; omega) | (simp [maxLen, toI_len]; omega)) (by first | (simp; omega) | (simp [toI_len]; omega)) ?_)
                refine ev_q rfl (q_assign (by conv => lhs; whnf) ?_)
                refine ev_nil (hK22 _ ?_); clear hK22
                refine good_region rfl ?_
                refine ev_q rfl (q_move (by conv => lhs; whnf) ?_)
                refine ev_q rfl (q_int rfl rfl ?_)
                intro n34 hn34
                replace hn34 := in64 hn34 (by omega) (by omega)
                refine ev_q rfl (q_assign (by conv => lhs; whnf) ?_)
                refine ev_nil ?_
                clear hK8 hK15
                refine ⟨(i + 1, (z.1 ++ [p.fm.toNat], z.2 ++ [(p.fm.toNat, u, i)])), ?_, ?_, ?_⟩
                · exact ⟨by first | omega | (dsimp only; omega), ⟨hiN, hwN⟩, hpN, hbN⟩
                · first | omega | (dsimp only; omega)
                · first | refine Sub.trans (sub_move 6 130 89 rfl rfl rfl (by decide)) ?_ | skip
                  refine sub_weak ?_ ?_
                  · exact weakH_row (rowEq (by first | rfl | exact toI_app (by omega))) (weakH_row (rowEq (by first | rfl | exact hby)) (weakH_row (rowEq (by first | rfl | exact hss)) (weakH_none _)))
                  · refine weakE_upd ?e10 ?r10 (weakE_upd ?e9 ?r9 (weakE_upd ?e8 ?r8 (weakE_upd ?e7 ?r7 (weakE_upd ?e6 ?r6 (weakE_upd ?e0 ?r0 (weakE_junk _ _))))))
                    case e0 => first | rfl | exact fI (by omega) | (simp_all)
                    case r0 => intro h hh; cases hh
                    case e6 => first | rfl | exact fI (by omega) | (first | rfl | exact ownEq (by simp [toI_len]))
                    case r6 => intro h hh; simp [refs] at hh; subst hh; rfl
                    case e7 => first | rfl | exact fI (by omega) | (simp_all)
                    case r7 => intro h hh; simp [refs] at hh; subst hh; rfl
                    case e8 => first | rfl | exact fI (by omega) | (simp_all)
                    case r8 => intro h hh; simp [refs] at hh; subst hh; rfl
                    case e9 => first | rfl | exact fI (by omega) | (simp_all)
                    case r9 => intro h hh; cases hh
                    case e10 => first | rfl | exact fI (by omega) | (simp_all)
                    case r10 => intro h hh; cases hh
              · refine qo_q rfl (q_pickT rfl (by conv => lhs; whnf) ?_)
                refine qo_nil ?_
                refine ev_nil (hK27 _ ?_); clear hK27
                refine good_condF rfl ?_
                refine good_skip (hK22 _ ?_); clear hK22
                refine good_region rfl ?_
                refine ev_q rfl (q_move (by conv => lhs; whnf) ?_)
                refine ev_q rfl (q_int rfl rfl ?_)
                intro n35 hn35
                replace hn35 := in64 hn35 (by omega) (by omega)
                refine ev_q rfl (q_assign (by conv => lhs; whnf) ?_)
                refine ev_nil ?_
                clear hK8 hK15
                refine ⟨(i + 1, z), ?_, ?_, ?_⟩
                · refine ⟨by first | omega | (dsimp only; omega), hW, hP0, ?_⟩
                  show wyI u _ _ z = _
                  have hE := wyE_M (i := i) (y := z) (nx_t (p := p) (u := u) (by omega) (by omega) (by omega)) (of_decide_eq_true hd107)
                  rw [hE] at hbd; exact hbd.symm.trans hB
                · first | omega | (dsimp only; omega)
                · first | refine Sub.trans (sub_move 6 130 89 rfl rfl rfl (by decide)) ?_ | skip
                  refine sub_weak ?_ ?_
                  · exact weakH_row (rowEq (by first | rfl | exact toI_app (by omega))) (weakH_row (rowEq (by first | rfl | exact hby)) (weakH_row (rowEq (by first | rfl | exact hss)) (weakH_none _)))
                  · refine weakE_upd ?e10 ?r10 (weakE_upd ?e9 ?r9 (weakE_upd ?e8 ?r8 (weakE_upd ?e7 ?r7 (weakE_upd ?e6 ?r6 (weakE_upd ?e0 ?r0 (weakE_junk _ _))))))
                    case e0 => first | rfl | exact fI (by omega) | (simp_all)
                    case r0 => intro h hh; cases hh
                    case e6 => first | rfl | exact fI (by omega) | (first | rfl | exact ownEq (by simp [toI_len]))
                    case r6 => intro h hh; simp [refs] at hh; subst hh; rfl
                    case e7 => first | rfl | exact fI (by omega) | (simp_all)
                    case r7 => intro h hh; simp [refs] at hh; subst hh; rfl
                    case e8 => first | rfl | exact fI (by omega) | (simp_all)
                    case r8 => intro h hh; simp [refs] at hh; subst hh; rfl
                    case e9 => first | rfl | exact fI (by omega) | (simp_all)
                    case r9 => intro h hh; cases hh
                    case e10 => first | rfl | exact fI (by omega) | (simp_all)
                    case r10 => intro h hh; cases hh
          · replace hb26 := eqT hb26
            refine qo_q rfl (q_move (by conv => lhs; whnf) ?_)
            refine qo_q rfl (q_move (by conv => lhs; whnf) ?_)
            refine qo_q rfl (q_move (by conv => lhs; whnf) ?_)
            refine qo_q rfl (q_nilCheck (by conv => lhs; whnf) rfl ?_)
            refine qo_q rfl (q_fieldAddr fO59_2 rfl rfl ?_)
            refine qo_q rfl (q_load tA2 rfl ?_)
            refine qo_q rfl (q_idxO tE180 rfl rfl rfl (by first | exact Int.natCast_nonneg _ | omega) (by first | omega | (rw [toI_len]; have := congrArg List.length ht; rw [List.length_append] at this; omega) | (have := congrArg List.length ht; rw [List.length_append] at this; simp [toI_len]; omega)) rfl ?_)
            refine qo_q rfl (q_loadE tA4 rfl rfl (by exact seR_get (by omega)) rfl ?_)
            refine qo_q rfl (q_not rfl rfl ?_)
            cases hd67 : decide (p.tt.toNat ∈ z.1)
            · refine qo_q rfl (q_pickT rfl (by conv => lhs; whnf) ?_)
              refine qo_nil ?_
              refine ev_nil (hK25 _ ?_); clear hK25
              refine good_condT rfl ?_
              refine good_seq fun K36 hK36 => ?_
              refine good_region rfl ?_
              have hnm : ¬ p.tt.toNat ∈ z.1 := by first | exact of_decide_eq_false (by assumption) | (simpa using (by assumption))
              have hnx : nxt (pe p) u = some p.tt.toNat := by first | exact nx_f (by omega) | exact nx_t (by omega) (by omega) (by omega)
              have hE := wyE_T (i := i) hnx hnm
              rw [hE] at hbd
              have hiN := bfE_inv (hlt (pe p) (List.mem_map_of_mem (List.mem_of_getElem? hpp))) (List.mem_map_of_mem (List.mem_of_getElem? hpp)) (List.mem_of_getElem? hv) hW.1
              rw [bfE_T hnx hnm] at hiN
              have hwN := wyE_inv (es := (ps.map pe)) (s := s.toNat) (i := i) (e := pe p) (by rw [List.getElem?_map, hpp]; rfl) (List.mem_of_getElem? hv) hW.2
              rw [hE] at hwN
              have hpN : ∃ t, z.1 ++ [p.tt.toNat] = y.1 ++ t := ⟨t ++ [p.tt.toNat], by rw [ht, List.append_assoc]⟩
              have hbN := hbd.symm.trans hB
              have hsg := sg_f (v := p.tt.toNat) (i := i) hpp (u := u) (by omega)
              have hbs := byL_set (n := ns.length) (w := (p.tt.toNat, u, i)) (show p.tt.toNat < ns.length by omega) (not_nodes hW.2 hnm) (es := (ps.map pe))
              rw [hsg] at hbs
              have hss := seR_set (ks := z.1) (n := ns.length) (v := p.tt.toNat) (by omega)
              refine ev_q rfl (q_move (by conv => lhs; whnf) ?_)
              refine ev_q rfl (q_move (by conv => lhs; whnf) ?_)
              refine ev_q rfl (q_nilCheck (by conv => lhs; whnf) rfl ?_)
              refine ev_q rfl (q_fieldAddr fO59_2 rfl rfl ?_)
              refine ev_q rfl (q_load tA2 rfl ?_)
              refine ev_q rfl (q_idxO tE180 rfl rfl rfl (by first | exact Int.natCast_nonneg _ | omega) (by first | omega | (rw [toI_len]; have := congrArg List.length ht; rw [List.length_append] at this; omega) | (have := congrArg List.length ht; rw [List.length_append] at this; simp [toI_len]; omega)) rfl ?_)
              refine ev_k rfl (k_storeE sz4 rfl (by conv => lhs; whnf) rfl rfl rfl (Nat.le_of_ble_eq_true rfl) rfl (by exact seR_get (by omega)) (Nat.le_of_ble_eq_true rfl) rfl ?_)
              refine ev_nil (hK36 _ ?_); clear hK36
              refine good_seq fun K37 hK37 => ?_
              refine good_region rfl ?_
              refine ev_q rfl (q_move (by conv => lhs; whnf) ?_)
              refine ev_q rfl (q_move (by conv => lhs; whnf) ?_)
              refine ev_q rfl (q_nilCheck (by conv => lhs; whnf) rfl ?_)
              refine ev_q rfl (q_fieldAddr fO59_2 rfl rfl ?_)
              refine ev_q rfl (q_load tA2 rfl ?_)
              refine ev_q rfl (q_move (by conv => lhs; whnf) ?_)
              refine ev_q rfl (q_int rfl rfl ?_)
              intro n38 hn38
              replace hn38 := in64 hn38 (by omega) (by omega)
              have hby : ((byL (ps.map pe) z.2 ns.length).map ci).set p.tt.toNat (ci n38) = (byL (ps.map pe) (z.2 ++ [(p.tt.toNat, u, i)]) ns.length).map ci := by rw [mapSet, show n38 = (i : Int) + 1 by omega, hbs]
              refine ev_q rfl (q_idxO tE22 rfl rfl rfl (by first | exact Int.natCast_nonneg _ | omega) (by first | omega | (rw [toI_len]; have := congrArg List.length ht; rw [List.length_append] at this; omega) | (have := congrArg List.length ht; rw [List.length_append] at this; simp [toI_len]; omega)) rfl ?_)
              refine ev_k rfl (k_storeE sz2 rfl (by conv => lhs; whnf) rfl rfl rfl (Nat.le_of_ble_eq_true rfl) rfl (by exact byG (by omega)) (Nat.le_of_ble_eq_true rfl) rfl ?_)
              refine ev_nil (hK37 _ ?_); clear hK37
              refine good_region rfl ?_
              refine ev_q rfl (q_move (by conv => lhs; whnf) ?_)
              refine ev_q rfl (q_move (by conv => lhs; whnf) ?_)
              refine ev_q rfl (q_nilCheck (by conv => lhs; whnf) rfl ?_)
              refine ev_q rfl (q_fieldAddr fO59_2 rfl rfl ?_)
              refine ev_q rfl (q_load tA2 rfl ?_)
              refine ev_k rfl (k_lit tE22 zA2 rfl rfl (by decide) (by decide) rfl rfl rfl ?_)
              refine ev_k rfl (k_app tApp22 rfl rfl (by first | (simp; done) | (simp [toI_len]; done)) rfl (.inr rfl) (by first | (simp [maxLen]; omega) | (simp [maxLen, toI_len]; omega)) (by first | (simp; omega) | (simp [toI_len]; omega)) ?_)
              refine ev_q rfl (q_assign (by conv => lhs; whnf) ?_)
              refine ev_nil (hK24 _ ?_); clear hK24
              refine good_seq fun K39 hK39 => ?_
              refine good_draw 19 hmix (by kernel_rfl) rfl ?_
              refine qo_q rfl (q_move (by conv => lhs; whnf) ?_)
              refine qo_q rfl (q_nilCheck (by conv => lhs; whnf) rfl ?_)
              refine qo_q rfl (q_fieldAddr fO59_2 rfl rfl ?_)
              refine qo_q rfl (q_load tA2 rfl ?_)
              refine qo_q rfl (q_move (by conv => lhs; whnf) ?_)
              refine qo_q rfl (q_move (by conv => lhs; whnf) ?_)
              refine qo_q rfl (q_idxO tE22 rfl rfl rfl (by first | exact Int.natCast_nonneg _ | omega) (by first | omega | (rw [toI_len]; have := congrArg List.length ht; rw [List.length_append] at this; omega) | (have := congrArg List.length ht; rw [List.length_append] at this; simp [toI_len]; omega)) rfl ?_)
              refine qo_q rfl (q_loadE tA2 rfl rfl (by first | exact toI_get hv | exact wk_get hv) rfl ?_)
              refine qo_q rfl (q_int rfl rfl ?_)
              intro b40 hb40; cases b40
              · replace hb40 := eqF hb40
                refine qo_q rfl (q_move (by conv => lhs; whnf) ?_)
                refine qo_skip rfl ?_
                refine qo_skip rfl ?_
                refine qo_skip rfl ?_
                refine qo_skip rfl ?_
                refine qo_skip rfl ?_
                refine qo_skip rfl ?_
                refine qo_skip rfl ?_
                refine qo_skip rfl ?_
                refine qo_q rfl (q_pickF rfl (by conv => lhs; whnf) ?_)
                refine qo_nil ?_
                refine ev_nil (hK39 _ ?_); clear hK39
                refine good_condF rfl ?_
                refine good_skip (hK22 _ ?_); clear hK22
                refine good_region rfl ?_
                refine ev_q rfl (q_move (by conv => lhs; whnf) ?_)
                refine ev_q rfl (q_int rfl rfl ?_)
                intro n41 hn41
                replace hn41 := in64 hn41 (by omega) (by omega)
                refine ev_q rfl (q_assign (by conv => lhs; whnf) ?_)
                refine ev_nil ?_
                clear hK8 hK15
                refine ⟨(i + 1, (z.1 ++ [p.tt.toNat], z.2 ++ [(p.tt.toNat, u, i)])), ?_, ?_, ?_⟩
                · exact ⟨by first | omega | (dsimp only; omega), ⟨hiN, hwN⟩, hpN, hbN⟩
                · first | omega | (dsimp only; omega)
                · first | refine Sub.trans (sub_move 6 130 89 rfl rfl rfl (by decide)) ?_ | skip
                  refine sub_weak ?_ ?_
                  · exact weakH_row (rowEq (by first | rfl | exact toI_app (by omega))) (weakH_row (rowEq (by first | rfl | exact hby)) (weakH_row (rowEq (by first | rfl | exact hss)) (weakH_none _)))
                  · refine weakE_upd ?e10 ?r10 (weakE_upd ?e9 ?r9 (weakE_upd ?e8 ?r8 (weakE_upd ?e7 ?r7 (weakE_upd ?e6 ?r6 (weakE_upd ?e0 ?r0 (weakE_junk _ _))))))
                    case e0 => first | rfl | exact fI (by omega) | (simp_all)
                    case r0 => intro h hh; cases hh
                    case e6 => first | rfl | exact fI (by omega) | (first | rfl | exact ownEq (by simp [toI_len]))
                    case r6 => intro h hh; simp [refs] at hh; subst hh; rfl
                    case e7 => first | rfl | exact fI (by omega) | (simp_all)
                    case r7 => intro h hh; simp [refs] at hh; subst hh; rfl
                    case e8 => first | rfl | exact fI (by omega) | (simp_all)
                    case r8 => intro h hh; simp [refs] at hh; subst hh; rfl
                    case e9 => first | rfl | exact fI (by omega) | (simp_all)
                    case r9 => intro h hh; cases hh
                    case e10 => first | rfl | exact fI (by omega) | (simp_all)
                    case r10 => intro h hh; cases hh
              · replace hb40 := eqT hb40
                exfalso; omega
            · refine qo_q rfl (q_pickT rfl (by conv => lhs; whnf) ?_)
              refine qo_nil ?_
              refine ev_nil (hK25 _ ?_); clear hK25
              refine good_condF rfl ?_
              refine good_skip (hK24 _ ?_); clear hK24
              refine good_seq fun K42 hK42 => ?_
              refine good_draw 19 hmix (by kernel_rfl) rfl ?_
              refine qo_q rfl (q_move (by conv => lhs; whnf) ?_)
              refine qo_q rfl (q_nilCheck (by conv => lhs; whnf) rfl ?_)
              refine qo_q rfl (q_fieldAddr fO59_2 rfl rfl ?_)
              refine qo_q rfl (q_load tA2 rfl ?_)
              refine qo_q rfl (q_move (by conv => lhs; whnf) ?_)
              refine qo_q rfl (q_move (by conv => lhs; whnf) ?_)
              refine qo_q rfl (q_idxO tE22 rfl rfl rfl (by first | exact Int.natCast_nonneg _ | omega) (by first | omega | (rw [toI_len]; have := congrArg List.length ht; rw [List.length_append] at this; omega) | (have := congrArg List.length ht; rw [List.length_append] at this; simp [toI_len]; omega)) rfl ?_)
              refine qo_q rfl (q_loadE tA2 rfl rfl (by first | exact toI_get hv | exact wk_get hv) rfl ?_)
              refine qo_q rfl (q_int rfl rfl ?_)
              intro b43 hb43; cases b43
              · replace hb43 := eqF hb43
                refine qo_q rfl (q_move (by conv => lhs; whnf) ?_)
                refine qo_skip rfl ?_
                refine qo_skip rfl ?_
                refine qo_skip rfl ?_
                refine qo_skip rfl ?_
                refine qo_skip rfl ?_
                refine qo_skip rfl ?_
                refine qo_skip rfl ?_
                refine qo_skip rfl ?_
                refine qo_q rfl (q_pickF rfl (by conv => lhs; whnf) ?_)
                refine qo_nil ?_
                refine ev_nil (hK42 _ ?_); clear hK42
                refine good_condF rfl ?_
                refine good_skip (hK22 _ ?_); clear hK22
                refine good_region rfl ?_
                refine ev_q rfl (q_move (by conv => lhs; whnf) ?_)
                refine ev_q rfl (q_int rfl rfl ?_)
                intro n44 hn44
                replace hn44 := in64 hn44 (by omega) (by omega)
                refine ev_q rfl (q_assign (by conv => lhs; whnf) ?_)
                refine ev_nil ?_
                clear hK8 hK15
                refine ⟨(i + 1, z), ?_, ?_, ?_⟩
                · refine ⟨by first | omega | (dsimp only; omega), hW, hP0, ?_⟩
                  show wyI u _ _ z = _
                  have hE := wyE_M (i := i) (y := z) (nx_f (p := p) (u := u) (by omega)) (of_decide_eq_true hd67)
                  rw [hE] at hbd; exact hbd.symm.trans hB
                · first | omega | (dsimp only; omega)
                · first | refine Sub.trans (sub_move 6 130 89 rfl rfl rfl (by decide)) ?_ | skip
                  refine sub_weak ?_ ?_
                  · exact weakH_row (rowEq (by first | rfl | exact toI_app (by omega))) (weakH_row (rowEq (by first | rfl | exact hby)) (weakH_row (rowEq (by first | rfl | exact hss)) (weakH_none _)))
                  · refine weakE_upd ?e10 ?r10 (weakE_upd ?e9 ?r9 (weakE_upd ?e8 ?r8 (weakE_upd ?e7 ?r7 (weakE_upd ?e6 ?r6 (weakE_upd ?e0 ?r0 (weakE_junk _ _))))))
                    case e0 => first | rfl | exact fI (by omega) | (simp_all)
                    case r0 => intro h hh; cases hh
                    case e6 => first | rfl | exact fI (by omega) | (first | rfl | exact ownEq (by simp [toI_len]))
                    case r6 => intro h hh; simp [refs] at hh; subst hh; rfl
                    case e7 => first | rfl | exact fI (by omega) | (simp_all)
                    case r7 => intro h hh; simp [refs] at hh; subst hh; rfl
                    case e8 => first | rfl | exact fI (by omega) | (simp_all)
                    case r8 => intro h hh; simp [refs] at hh; subst hh; rfl
                    case e9 => first | rfl | exact fI (by omega) | (simp_all)
                    case r9 => intro h hh; cases hh
                    case e10 => first | rfl | exact fI (by omega) | (simp_all)
                    case r10 => intro h hh; cases hh
              · replace hb43 := eqT hb43
                exfalso; omega

-- spec.l07Along
set_option maxRecDepth 20000 in
set_option maxHeartbeats 2000000 in
theorem D_spec_l07Along_P (fl : List Int) (i : Nat) (l : Int) (hl : fl[i]? = some l) (hb : -100000 ≤ l ∧ l ≤ 100000) (hi : i ≤ 1000) : Den Try.prog 118 [.lst 1 (fl.map ci), .s (.int .i64 ((i : Int) + 1))] (.s (.int .i64 l)) := by
  have hll := (List.getElem?_eq_some_iff.1 hl).1
  refine den_of_good Try.func118 (by decide) rfl (Nat.le_of_ble_eq_true rfl) (Nat.le_of_ble_eq_true rfl) ?_
  refine good_seq fun K1 hK1 => ?_
  refine good_region rfl ?_
  refine ev_q rfl (q_assign (by conv => lhs; whnf) ?_)
  refine ev_nil (hK1 _ ?_); clear hK1
  refine good_seq fun K2 hK2 => ?_
  refine good_seq fun K3 hK3 => ?_
  refine good_region rfl ?_
  refine ev_q rfl (q_move (by conv => lhs; whnf) ?_)
  refine ev_q rfl (q_int rfl rfl ?_)
  intro b4 hb4; cases b4
  · replace hb4 := dF hb4
    exfalso; omega
  · replace hb4 := dT hb4
    refine ev_nil (hK3 _ ?_); clear hK3
    refine good_condT rfl ?_
    refine good_seq fun K5 hK5 => ?_
    refine good_region rfl ?_
    refine ev_q rfl (q_move (by conv => lhs; whnf) ?_)
    refine ev_q rfl (q_move (by conv => lhs; whnf) ?_)
    refine ev_q rfl (q_int rfl rfl ?_)
    intro n6 hn6
    replace hn6 := in64 hn6 (by omega) (by omega)
    refine ev_q rfl (q_idx tE22 rfl rfl (by omega) (by exact map_get (show fl[n6.toNat]? = some l by rw [← hl]; congr 1; omega)) rfl ?_)
    refine ev_q rfl (q_load tA2 rfl ?_)
    refine ev_q rfl (q_assign (by conv => lhs; whnf) ?_)
    refine ev_nil (hK5 _ ?_); clear hK5
    refine good_ret ?_
    repeat (first | refine thenQ_ret ?_ | refine blockQ_ret ?_)
    refine ret_tmp (st := _) rfl (by conv => lhs; whnf) rfl ?_
    clear hK2
    first | rfl | exact fI (by omega)

-- spec.l07Before
set_option maxRecDepth 20000 in
set_option maxHeartbeats 2000000 in
theorem D_spec_l07Before_P (ns : List Int) (ps : List Pi) (i : Nat) (p : Pi) (hp : ps[i]? = some p) (hi : i ≤ 1000) : Den Try.prog 121 [.rp [.lst 1 (ns.map ci), .lst 6 (ps.map piA)], .s (.int .i64 ((i : Int) + 1))] (.s (.int .i64 (p.fm))) := by
  have hll := (List.getElem?_eq_some_iff.1 hp).1
  refine den_of_good Try.func121 (by decide) rfl (Nat.le_of_ble_eq_true rfl) (Nat.le_of_ble_eq_true rfl) ?_
  refine good_seq fun K1 hK1 => ?_
  refine good_region rfl ?_
  refine ev_q rfl (q_assign (by conv => lhs; whnf) ?_)
  refine ev_nil (hK1 _ ?_); clear hK1
  refine good_seq fun K2 hK2 => ?_
  refine good_seq fun K3 hK3 => ?_
  refine good_region rfl ?_
  refine ev_q rfl (q_move (by conv => lhs; whnf) ?_)
  refine ev_q rfl (q_int rfl rfl ?_)
  intro b4 hb4; cases b4
  · replace hb4 := dF hb4
    exfalso; omega
  · replace hb4 := dT hb4
    refine ev_nil (hK3 _ ?_); clear hK3
    refine good_condT rfl ?_
    refine good_seq fun K5 hK5 => ?_
    refine good_region rfl ?_
    refine ev_q rfl (q_move (by conv => lhs; whnf) ?_)
    refine ev_q rfl (q_nilCheck (by conv => lhs; whnf) rfl ?_)
    refine ev_q rfl (q_fieldAddr fO31_1 rfl rfl ?_)
    refine ev_q rfl (q_load tA29 rfl ?_)
    refine ev_q rfl (q_move (by conv => lhs; whnf) ?_)
    refine ev_q rfl (q_int rfl rfl ?_)
    intro n6 hn6
    replace hn6 := in64 hn6 (by omega) (by omega)
    refine ev_q rfl (q_idx tE29 rfl rfl (by omega) (by exact map_get (show ps[n6.toNat]? = some p by rw [← hp]; congr 1; omega)) rfl ?_)
    refine ev_q rfl (q_fieldAddr fO59_1 rfl rfl ?_)
    refine ev_q rfl (q_load tA2 rfl ?_)
    refine ev_q rfl (q_assign (by conv => lhs; whnf) ?_)
    refine ev_nil (hK5 _ ?_); clear hK5
    refine good_ret ?_
    repeat (first | refine thenQ_ret ?_ | refine blockQ_ret ?_)
    refine ret_tmp (st := _) rfl (by conv => lhs; whnf) rfl ?_
    clear hK2
    first | rfl | exact fI (by omega)

-- spec.l07Pipe
set_option maxRecDepth 20000 in
set_option maxHeartbeats 2000000 in
theorem D_spec_l07Pipe_P (ns : List Int) (ps : List Pi) (i : Nat) (p : Pi) (hp : ps[i]? = some p) (hi : i ≤ 1000) : Den Try.prog 120 [.rp [.lst 1 (ns.map ci), .lst 6 (ps.map piA)], .s (.int .i64 ((i : Int) + 1))] (.rp [.s (.string p.id), .s (.int .i64 (p.fm)), .s (.int .i64 (p.tt)), .s (.int .i64 (p.le)), .s (.int .i64 (p.di)), .s (.int .i64 (p.lo))]) := by
  have hll := (List.getElem?_eq_some_iff.1 hp).1
  refine den_of_good Try.func120 (by decide) rfl (Nat.le_of_ble_eq_true rfl) (Nat.le_of_ble_eq_true rfl) ?_
  refine good_seq fun K1 hK1 => ?_
  refine good_region rfl ?_
  refine ev_q rfl (q_assign (by conv => lhs; whnf) ?_)
  refine ev_nil (hK1 _ ?_); clear hK1
  refine good_seq fun K2 hK2 => ?_
  refine good_draw 9 hmix (by kernel_rfl) rfl ?_
  refine qo_q rfl (q_move (by conv => lhs; whnf) ?_)
  refine qo_q rfl (q_nilCheck (by conv => lhs; whnf) rfl ?_)
  refine qo_q rfl (q_fieldAddr fO31_1 rfl rfl ?_)
  refine qo_q rfl (q_load tA29 rfl ?_)
  refine qo_q rfl (q_move (by conv => lhs; whnf) ?_)
  refine qo_q rfl (q_callI rfl rfl (rfl) (D_spec_l03Abs _ (by omega)) ?_)
  intro n3 hn3
  refine qo_q rfl (q_int rfl rfl ?_)
  intro n4 hn4
  replace hn4 := in64 hn4 (by omega) (by omega)
  refine qo_q rfl (q_idx tE29 rfl rfl (by omega) (by exact map_get (show ps[n4.toNat]? = some p by rw [← hp]; congr 1; omega)) rfl ?_)
  refine qo_q rfl (q_assign (by conv => lhs; whnf) ?_)
  refine qo_nil ?_
  refine ev_nil (hK2 _ ?_); clear hK2
  refine good_ret ?_
  repeat (first | refine thenQ_ret ?_ | refine blockQ_ret ?_)
  refine ret_tmp (st := _) rfl (by conv => lhs; whnf) rfl ?_
  rfl

-- spec.l07Along
set_option maxRecDepth 20000 in
set_option maxHeartbeats 2000000 in
theorem D_spec_l07Along_M (fl : List Int) (i : Nat) (l : Int) (hl : fl[i]? = some l) (hb : -100000 ≤ l ∧ l ≤ 100000) (hi : i ≤ 1000) : Den Try.prog 118 [.lst 1 (fl.map ci), .s (.int .i64 (-((i : Int) + 1)))] (.s (.int .i64 (-l))) := by
  have hll := (List.getElem?_eq_some_iff.1 hl).1
  refine den_of_good Try.func118 (by decide) rfl (Nat.le_of_ble_eq_true rfl) (Nat.le_of_ble_eq_true rfl) ?_
  refine good_seq fun K1 hK1 => ?_
  refine good_region rfl ?_
  refine ev_q rfl (q_assign (by conv => lhs; whnf) ?_)
  refine ev_nil (hK1 _ ?_); clear hK1
  refine good_seq fun K2 hK2 => ?_
  refine good_seq fun K3 hK3 => ?_
  refine good_region rfl ?_
  refine ev_q rfl (q_move (by conv => lhs; whnf) ?_)
  refine ev_q rfl (q_int rfl rfl ?_)
  intro b4 hb4; cases b4
  · replace hb4 := dF hb4
    refine ev_nil (hK3 _ ?_); clear hK3
    refine good_condF rfl ?_
    refine good_skip (hK2 _ ?_); clear hK2
    refine good_seq fun K5 hK5 => ?_
    refine good_region rfl ?_
    refine ev_q rfl (q_move (by conv => lhs; whnf) ?_)
    refine ev_q rfl (q_move (by conv => lhs; whnf) ?_)
    refine ev_q rfl (q_neg rfl ?_)
    intro n6 hn6
    replace hn6 := neg64 hn6 (by omega) (by omega)
    refine ev_q rfl (q_int rfl rfl ?_)
    intro n7 hn7
    replace hn7 := in64 hn7 (by omega) (by omega)
    refine ev_q rfl (q_idx tE22 rfl rfl (by omega) (by exact map_get (show fl[n7.toNat]? = some l by rw [← hl]; congr 1; omega)) rfl ?_)
    refine ev_q rfl (q_load tA2 rfl ?_)
    refine ev_q rfl (q_neg rfl ?_)
    intro n8 hn8
    replace hn8 := neg64 hn8 (by omega) (by omega)
    refine ev_q rfl (q_assign (by conv => lhs; whnf) ?_)
    refine ev_nil (hK5 _ ?_); clear hK5
    refine good_ret ?_
    repeat (first | refine thenQ_ret ?_ | refine blockQ_ret ?_)
    refine ret_tmp (st := _) rfl (by conv => lhs; whnf) rfl ?_
    first | rfl | exact fI (by omega)
  · replace hb4 := dT hb4
    exfalso; omega

-- spec.l07Before
set_option maxRecDepth 20000 in
set_option maxHeartbeats 2000000 in
theorem D_spec_l07Before_M (ns : List Int) (ps : List Pi) (i : Nat) (p : Pi) (hp : ps[i]? = some p) (hi : i ≤ 1000) : Den Try.prog 121 [.rp [.lst 1 (ns.map ci), .lst 6 (ps.map piA)], .s (.int .i64 (-((i : Int) + 1)))] (.s (.int .i64 (p.tt))) := by
  have hll := (List.getElem?_eq_some_iff.1 hp).1
  refine den_of_good Try.func121 (by decide) rfl (Nat.le_of_ble_eq_true rfl) (Nat.le_of_ble_eq_true rfl) ?_
  refine good_seq fun K1 hK1 => ?_
  refine good_region rfl ?_
  refine ev_q rfl (q_assign (by conv => lhs; whnf) ?_)
  refine ev_nil (hK1 _ ?_); clear hK1
  refine good_seq fun K2 hK2 => ?_
  refine good_seq fun K3 hK3 => ?_
  refine good_region rfl ?_
  refine ev_q rfl (q_move (by conv => lhs; whnf) ?_)
  refine ev_q rfl (q_int rfl rfl ?_)
  intro b4 hb4; cases b4
  · replace hb4 := dF hb4
    refine ev_nil (hK3 _ ?_); clear hK3
    refine good_condF rfl ?_
    refine good_skip (hK2 _ ?_); clear hK2
    refine good_seq fun K5 hK5 => ?_
    refine good_region rfl ?_
    refine ev_q rfl (q_move (by conv => lhs; whnf) ?_)
    refine ev_q rfl (q_nilCheck (by conv => lhs; whnf) rfl ?_)
    refine ev_q rfl (q_fieldAddr fO31_1 rfl rfl ?_)
    refine ev_q rfl (q_load tA29 rfl ?_)
    refine ev_q rfl (q_move (by conv => lhs; whnf) ?_)
    refine ev_q rfl (q_neg rfl ?_)
    intro n6 hn6
    replace hn6 := neg64 hn6 (by omega) (by omega)
    refine ev_q rfl (q_int rfl rfl ?_)
    intro n7 hn7
    replace hn7 := in64 hn7 (by omega) (by omega)
    refine ev_q rfl (q_idx tE29 rfl rfl (by omega) (by exact map_get (show ps[n7.toNat]? = some p by rw [← hp]; congr 1; omega)) rfl ?_)
    refine ev_q rfl (q_fieldAddr fO59_2 rfl rfl ?_)
    refine ev_q rfl (q_load tA2 rfl ?_)
    refine ev_q rfl (q_assign (by conv => lhs; whnf) ?_)
    refine ev_nil (hK5 _ ?_); clear hK5
    refine good_ret ?_
    repeat (first | refine thenQ_ret ?_ | refine blockQ_ret ?_)
    refine ret_tmp (st := _) rfl (by conv => lhs; whnf) rfl ?_
    first | rfl | exact fI (by omega)
  · replace hb4 := dT hb4
    exfalso; omega

-- spec.l07Pipe
set_option maxRecDepth 20000 in
set_option maxHeartbeats 2000000 in
theorem D_spec_l07Pipe_M (ns : List Int) (ps : List Pi) (i : Nat) (p : Pi) (hp : ps[i]? = some p) (hi : i ≤ 1000) : Den Try.prog 120 [.rp [.lst 1 (ns.map ci), .lst 6 (ps.map piA)], .s (.int .i64 (-((i : Int) + 1)))] (.rp [.s (.string p.id), .s (.int .i64 (p.fm)), .s (.int .i64 (p.tt)), .s (.int .i64 (p.le)), .s (.int .i64 (p.di)), .s (.int .i64 (p.lo))]) := by
  have hll := (List.getElem?_eq_some_iff.1 hp).1
  refine den_of_good Try.func120 (by decide) rfl (Nat.le_of_ble_eq_true rfl) (Nat.le_of_ble_eq_true rfl) ?_
  refine good_seq fun K1 hK1 => ?_
  refine good_region rfl ?_
  refine ev_q rfl (q_assign (by conv => lhs; whnf) ?_)
  refine ev_nil (hK1 _ ?_); clear hK1
  refine good_seq fun K2 hK2 => ?_
  refine good_draw 9 hmix (by kernel_rfl) rfl ?_
  refine qo_q rfl (q_move (by conv => lhs; whnf) ?_)
  refine qo_q rfl (q_nilCheck (by conv => lhs; whnf) rfl ?_)
  refine qo_q rfl (q_fieldAddr fO31_1 rfl rfl ?_)
  refine qo_q rfl (q_load tA29 rfl ?_)
  refine qo_q rfl (q_move (by conv => lhs; whnf) ?_)
  refine qo_q rfl (q_callI rfl rfl (rfl) (D_spec_l03Abs _ (by omega)) ?_)
  intro n3 hn3
  refine qo_q rfl (q_int rfl rfl ?_)
  intro n4 hn4
  replace hn4 := in64 hn4 (by omega) (by omega)
  refine qo_q rfl (q_idx tE29 rfl rfl (by omega) (by exact map_get (show ps[n4.toNat]? = some p by rw [← hp]; congr 1; omega)) rfl ?_)
  refine qo_q rfl (q_assign (by conv => lhs; whnf) ?_)
  refine qo_nil ?_
  refine ev_nil (hK2 _ ?_); clear hK2
  refine good_ret ?_
  repeat (first | refine thenQ_ret ?_ | refine blockQ_ret ?_)
  refine ret_tmp (st := _) rfl (by conv => lhs; whnf) rfl ?_
  rfl

theorem D_along (ps : List Pi) (ns fl : List Int) (w : Nat × Nat × Nat) (p : Pi) (l : Int) (hw : WayOf ns ps w p) (h20 : ps.length ≤ 20) (hl : fl[w.2.2]? = some l) (hb : -100000 ≤ l ∧ l ≤ 100000) (hne : ¬ p.fm = p.tt) : Den Try.prog 118 [.lst 1 (fl.map ci), .s (.int .i64 (sgW (ps.map pe) w))] (.s (.int .i64 (flS (ps.map pe) fl w))) := by
  have hi := (List.getElem?_eq_some_iff.1 hw.hp).1
  have hf := flS_y hw.hp hl
  rcases hw.sg with ⟨e, e1, e2⟩ | ⟨e, e1, e2⟩
  · rw [e, hf, if_pos (by omega)]; exact D_spec_l07Along_P fl w.2.2 l hl hb (by omega)
  · rw [e, hf, if_neg (by omega)]; exact D_spec_l07Along_M fl w.2.2 l hl hb (by omega)
theorem D_before (ns : List Int) (ps : List Pi) (w : Nat × Nat × Nat) (p : Pi) (hw : WayOf ns ps w p) (h20 : ps.length ≤ 20) : Den Try.prog 121 [.rp [.lst 1 (ns.map ci), .lst 6 (ps.map piA)], .s (.int .i64 (sgW (ps.map pe) w))] (.s (.int .i64 (w.2.1 : Int))) := by
  have hi := (List.getElem?_eq_some_iff.1 hw.hp).1
  rcases hw.sg with ⟨e, e1, e2⟩ | ⟨e, e1, e2⟩
  · rw [e, ← e1]; exact D_spec_l07Before_P ns ps w.2.2 p hw.hp (by omega)
  · rw [e, ← e1]; exact D_spec_l07Before_M ns ps w.2.2 p hw.hp (by omega)
theorem D_pipe (ns : List Int) (ps : List Pi) (w : Nat × Nat × Nat) (p : Pi) (hw : WayOf ns ps w p) (h20 : ps.length ≤ 20) : Den Try.prog 120 [.rp [.lst 1 (ns.map ci), .lst 6 (ps.map piA)], .s (.int .i64 (sgW (ps.map pe) w))] (.rp [.s (.string p.id), .s (.int .i64 p.fm), .s (.int .i64 p.tt), .s (.int .i64 p.le), .s (.int .i64 p.di), .s (.int .i64 p.lo)]) := by
  have hi := (List.getElem?_eq_some_iff.1 hw.hp).1
  rcases hw.sg with ⟨e, e1, e2⟩ | ⟨e, e1, e2⟩
  · rw [e]; exact D_spec_l07Pipe_P ns ps w.2.2 p hw.hp (by omega)
  · rw [e]; exact D_spec_l07Pipe_M ns ps w.2.2 p hw.hp (by omega)

-- spec.l07Temperatures
set_option maxRecDepth 20000 in
set_option maxHeartbeats 2000000 in
theorem D_spec_l07Temperatures (ns : List Int) (ps : List Pi) (s : Int) (fl : List Int) (su gr : Int) (hn : ns.length ≤ 17592186044416) (hp : ps.length ≤ 2513169434843) (hz : idSz ps) (hf : fl.length ≤ 17592186044416) (ok : netOk ns ps) (hs : 0 ≤ s ∧ s < ns.length) (hfl : flP ps fl) (hsu : -5000 ≤ su ∧ su ≤ 20000) (hgr : -5000 ≤ gr ∧ gr ≤ 20000) : DenX Try.prog 55 [] [.rp [.lst 1 (ns.map ci), .lst 6 (ps.map piA)], .s (.int .i64 s), .lst 1 (fl.map ci), .s (.int .i64 su), .s (.int .i64 gr)] [(900003, .row 2 1 ((wyR (tpF ps fl gr) (ps.map pe) ns.length s.toNat su (waysF (ps.map pe) ns.length s.toNat).2.length).map ci))] (.own 900003 ns.length) := by
  have h16 := ok.1.1
  have h20 := ok.1.2.2
  have hol := ord_len (es := (ps.map pe)) (n := ns.length) (s := s.toNat)
  have hwl := ways_le (s := s.toNat) (esF_lt ok) (by omega)
  refine denX_of_good Try.func55 (by decide) rfl (Nat.le_of_ble_eq_true rfl) (Nat.le_of_ble_eq_true rfl) rfl ?_
  refine good_seq fun K1 hK1 => ?_
  refine good_region rfl ?_
  refine ev_q rfl (q_assign (by conv => lhs; whnf) ?_)
  refine ev_nil (hK1 _ ?_); clear hK1
  refine good_seq fun K2 hK2 => ?_
  refine good_region rfl ?_
  refine ev_q rfl (q_move (by conv => lhs; whnf) ?_)
  refine ev_q rfl (q_move (by conv => lhs; whnf) ?_)
  refine ev_k rfl (k_callX [(900001, 900001), (900002, 900002)] (D_spec_l07Order ns ps s hn hp hz ok hs) rfl (rfl) (rfl) trivial ⟨⟨rfl, show (900001 : Nat) < 1000000 by decide⟩, ⟨⟨rfl, show (900002 : Nat) < 1000000 by decide⟩, trivial⟩⟩ rfl rfl rfl ?_)
  refine ev_q rfl (q_move (by conv => lhs; whnf) ?_)
  refine ev_q rfl (q_extract rfl rfl ?_)
  refine ev_q rfl (q_extract rfl rfl ?_)
  refine ev_q rfl (q_assign (by conv => lhs; whnf) ?_)
  refine ev_q rfl (q_assign (by conv => lhs; whnf) ?_)
  refine ev_nil (hK2 _ ?_); clear hK2
  refine good_seq fun K3 hK3 => ?_
  refine good_region rfl ?_
  refine ev_q rfl (q_move (by conv => lhs; whnf) ?_)
  refine ev_q rfl (q_nilCheck (by conv => lhs; whnf) rfl ?_)
  refine ev_q rfl (q_fieldAddr fO31_0 rfl rfl ?_)
  refine ev_q rfl (q_load tA22 rfl ?_)
  refine ev_q rfl (q_len tEs22 rfl ?_)
  intro n4 hn4
  try simp only [List.length_map] at hn4
  refine ev_k rfl (k_make tE22 rfl rfl zA2 tBy2 rfl (by omega) (by omega) (by omega) rfl (by show _ = ns.length; omega) ?_)
  refine ev_q rfl (q_assign (by conv => lhs; whnf) ?_)
  refine ev_nil (hK3 _ ?_); clear hK3
  refine good_seq fun K5 hK5 => ?_
  refine good_region rfl ?_
  refine ev_q rfl (q_move (by conv => lhs; whnf) ?_)
  refine ev_q rfl (q_move (by conv => lhs; whnf) ?_)
  refine ev_q rfl (q_move (by conv => lhs; whnf) ?_)
  refine ev_q rfl (q_idxO tE22 rfl rfl rfl (by omega) (by first | omega | (simp; omega)) rfl ?_)
  refine ev_k rfl (k_storeE sz2 rfl (by conv => lhs; whnf) rfl rfl rfl (Nat.le_of_ble_eq_true rfl) rfl (by exact repG (by omega)) (Nat.le_of_ble_eq_true rfl) rfl ?_)
  refine ev_nil (hK5 _ ?_); clear hK5
  refine good_seq fun K6 hK6 => ?_
  refine good_seq fun K7 hK7 => ?_
  refine good_region rfl ?_
  refine ev_q rfl (q_assign (by conv => lhs; whnf) ?_)
  refine ev_nil (hK7 _ ?_); clear hK7
  refine good_block ?_
  refine good_loop (α := Nat) (fun m => { env := upd (upd (upd (upd (upd (upd (upd ((fun _ => .junk)) 0 (.rp [.lst 1 (ns.map ci), .lst 6 (ps.map piA)])) 2 (.lst 1 (fl.map ci))) 4 (.s (.int .i64 gr))) 11 (.own 900001 (toI (waysF (ps.map pe) ns.length s.toNat).1).length)) 12 (.own 900002 ns.length)) 13 (.own 28 ns.length)) 14 (.s (.int .i64 ((m : Int) + 1))), H := upd (upd (upd ((fun _ => none)) 28 (some (.row 2 1 ((wyR (tpF ps fl gr) (ps.map pe) ns.length s.toNat su m).map ci)))) 900002 (some (.row 2 1 ((byL (ps.map pe) (waysF (ps.map pe) ns.length s.toNat).2 ns.length).map ci)))) 900001 (some (.row 2 1 ((toI (waysF (ps.map pe) ns.length s.toNat).1).map ci))) }) (fun m => m ≤ (waysF (ps.map pe) ns.length s.toNat).2.length) (fun m => (waysF (ps.map pe) ns.length s.toNat).2.length - m) 0 ?_ ?_ ?_
  · exact Nat.zero_le _
  · refine sub_weak ?_ ?_
    · exact weakH_row (rowEq (rfl)) (weakH_row (rowEq (rfl)) (weakH_row (rowEq (by first | exact wyR_0)) (weakH_none _)))
    · refine weakE_upd ?e14 ?r14 (weakE_upd ?e13 ?r13 (weakE_upd ?e12 ?r12 (weakE_upd ?e11 ?r11 (weakE_upd ?e4 ?r4 (weakE_upd ?e2 ?r2 (weakE_upd ?e0 ?r0 (weakE_junk _ _)))))))
      case e0 => first | rfl | exact fI (by omega) | (simp_all)
      case r0 => intro h hh; cases hh
      case e2 => first | rfl | exact fI (by omega) | (simp_all)
      case r2 => intro h hh; cases hh
      case e4 => first | rfl | exact fI (by omega) | (simp_all)
      case r4 => intro h hh; cases hh
      case e11 => first | rfl | exact fI (by omega) | (simp_all)
      case r11 => intro h hh; simp [refs] at hh; subst hh; rfl
      case e12 => first | rfl | exact fI (by omega) | (simp_all)
      case r12 => intro h hh; simp [refs] at hh; subst hh; rfl
      case e13 => first | rfl | exact fI (by omega) | (simp_all)
      case r13 => intro h hh; simp [refs] at hh; subst hh; rfl
      case e14 => first | rfl | exact fI (by omega) | (first | rfl | exact fI (by omega))
      case r14 => intro h hh; cases hh
  · rintro m hI
    refine good_seq fun K8 hK8 => ?_
    refine good_seq fun K9 hK9 => ?_
    refine good_region rfl ?_
    refine ev_q rfl (q_move (by conv => lhs; whnf) ?_)
    refine ev_q rfl (q_move (by conv => lhs; whnf) ?_)
    refine ev_q rfl (q_len tEs22 rfl ?_)
    intro n10 hn10
    try simp only [List.length_map] at hn10
    refine ev_q rfl (q_int rfl rfl ?_)
    intro b11 hb11; cases b11
    · replace hb11 := dF hb11
      refine ev_nil (hK9 _ ?_); clear hK9
      refine good_condF rfl ?_
      refine good_exit ?_
      repeat (first | refine thenQ_exit ?_ | refine blockQ_pass rfl ?_)
      refine blockQ_exit (hK6 _ ?_); clear hK6
      refine good_seq fun K12 hK12 => ?_
      refine good_region rfl ?_
      refine ev_q rfl (q_move (by conv => lhs; whnf) ?_)
      refine ev_q rfl (q_assign (by conv => lhs; whnf) ?_)
      refine ev_nil (hK12 _ ?_); clear hK12
      refine good_weak (sub_move 10 28 900003 rfl rfl rfl (by decide)) ?_
      refine good_ret ?_
      repeat (first | refine thenQ_ret ?_ | refine blockQ_ret ?_)
      refine fx_tmp rfl (by conv => lhs; whnf) ?_
      clear hK8
      exact ⟨_, conv_eq (by first | rfl | (rw [e]; done) | (rw [e]; rfl) | exact ownEq (by first | omega | simp_all)), weakH_row (rowEq (by rw [show (waysF (ps.map pe) ns.length s.toNat).2.length = m by omega])) (weakH_none _), refsIn_ok rfl⟩
    · replace hb11 := dT hb11
      obtain ⟨w, hw⟩ : ∃ w, (waysF (ps.map pe) ns.length s.toNat).2[m]? = some w := ⟨_, List.getElem?_eq_getElem (by omega)⟩
      have hwm := List.mem_of_getElem? hw
      obtain ⟨p, hW⟩ := wayOf ok (show s.toNat < ns.length by omega) hwm
      have hpp := hW.hp
      have hw1 := hW.l1
      have hw2 := hW.l2
      have hwn := hW.ne
      have hpl := (List.getElem?_eq_some_iff.1 hpp).1
      have hpo := (ok.2 _ p hpp).1
      have hp1 := hpo.1.2.1
      have hp2 := hpo.1.2.2.1
      have hp3 := hpo.1.2.2.2.1
      have hp4 := hpo.1.2.2.2.2.1
      have hp5 := hpo.1.2.2.2.2.2.1
      have hp6 := hpo.1.2.2.2.2.2.2
      obtain ⟨l, hl⟩ : ∃ l, fl[w.2.2]? = some l := ⟨_, List.getElem?_eq_getElem (by have := hfl.1; omega)⟩
      have hlb := hfl.2 _ _ hl
      have hfs := flS_y hpp hl
      have hfb : -100000 ≤ flS (ps.map pe) fl w ∧ flS (ps.map pe) fl w ≤ 100000 := by rw [hfs]; split <;> omega
      have hst := wyR_s (f := tpF ps fl gr) (n := ns.length) (s := s.toNat) (x := su) hw
      have hln := wyR_len (f := tpF ps fl gr) (es := (ps.map pe)) (n := ns.length) (s := s.toNat) (m := m) (x := su)
      have htb := wyR_all (f := tpF ps fl gr) (es := (ps.map pe)) (n := ns.length) (s := s.toNat) (m := m) (x := su) (Q := fun a => -5000 ≤ a ∧ a ≤ 20000) (by omega) hsu (fun w _ a ha => tpF_bd ok hgr ha) w.2.1
      refine ev_nil (hK9 _ ?_); clear hK9
      refine good_condT rfl ?_
      refine good_skip (hK8 _ ?_); clear hK8
      refine good_seq fun K13 hK13 => ?_
      refine good_block ?_
      refine good_seq fun K14 hK14 => ?_
      refine good_region rfl ?_
      refine ev_q rfl (q_move (by conv => lhs; whnf) ?_)
      refine ev_q rfl (q_move (by conv => lhs; whnf) ?_)
      refine ev_q rfl (q_idxO tE22 rfl rfl rfl (by omega) (by first | omega | (simp; omega)) rfl ?_)
      refine ev_q rfl (q_loadE tA2 rfl rfl (by exact ord_get hw) rfl ?_)
      refine ev_q rfl (q_assign (by conv => lhs; whnf) ?_)
      refine ev_nil (hK14 _ ?_); clear hK14
      refine good_seq fun K15 hK15 => ?_
      refine good_region rfl ?_
      refine ev_q rfl (q_move (by conv => lhs; whnf) ?_)
      refine ev_q rfl (q_move (by conv => lhs; whnf) ?_)
      refine ev_q rfl (q_move (by conv => lhs; whnf) ?_)
      refine ev_q rfl (q_idxO tE22 rfl rfl rfl (by omega) (by first | omega | (simp; omega)) rfl ?_)
      refine ev_q rfl (q_loadE tA2 rfl rfl (by exact by_get ok (by omega) hwm rfl) rfl ?_)
      refine ev_q rfl (q_callI rfl rfl (rfl) (D_along ps ns fl w p l hW (by omega) hl hlb hp3) ?_)
      intro n16 hn16
      refine ev_q rfl (q_assign (by conv => lhs; whnf) ?_)
      refine ev_nil (hK15 _ ?_); clear hK15
      refine good_seq fun K17 hK17 => ?_
      refine good_region rfl ?_
      refine ev_q rfl (q_move (by conv => lhs; whnf) ?_)
      refine ev_q rfl (q_move (by conv => lhs; whnf) ?_)
      refine ev_q rfl (q_move (by conv => lhs; whnf) ?_)
      refine ev_q rfl (q_idxO tE22 rfl rfl rfl (by omega) (by first | omega | (simp; omega)) rfl ?_)
      refine ev_k rfl (k_storeE sz2 rfl (by conv => lhs; whnf) rfl rfl rfl (Nat.le_of_ble_eq_true rfl) rfl (by exact getG (by omega)) (Nat.le_of_ble_eq_true rfl) rfl ?_)
      refine ev_nil (hK17 _ ?_); clear hK17
      refine good_seq fun K18 hK18 => ?_
      refine good_region rfl ?_
      refine ev_q rfl (q_move (by conv => lhs; whnf) ?_)
      refine ev_q rfl (q_int rfl rfl ?_)
      intro b19 hb19; cases b19
      · replace hb19 := dF hb19
        have hpf := tpF_F (fl := fl) (gr := gr) (a := (wyR (tpF ps fl gr) (ps.map pe) ns.length s.toNat su m).getD w.2.1 0) hpp (by omega)
        rw [hpf] at hst
        have hS : ((wyR (tpF ps fl gr) (ps.map pe) ns.length s.toNat su m).map ci).set w.1 (ci gr) = (wyR (tpF ps fl gr) (ps.map pe) ns.length s.toNat su (m + 1)).map ci := by rw [mapSet, hst]
        refine ev_nil (hK18 _ ?_); clear hK18
        refine good_condF rfl ?_
        refine good_skip (hK13 _ ?_); clear hK13
        refine good_region rfl ?_
        refine ev_q rfl (q_move (by conv => lhs; whnf) ?_)
        refine ev_q rfl (q_int rfl rfl ?_)
        intro n20 hn20
        replace hn20 := in64 hn20 (by omega) (by omega)
        refine ev_q rfl (q_assign (by conv => lhs; whnf) ?_)
        refine ev_nil ?_
        clear hK6
        refine ⟨m + 1, ?_, ?_, ?_⟩
        · show _ ≤ _; omega
        · first | omega | (simp only []; omega) | (dsimp only; omega)
        · refine sub_weak ?_ ?_
          · exact weakH_row (rowEq (rfl)) (weakH_row (rowEq (rfl)) (weakH_row (rowEq (by exact hS)) (weakH_none _)))
          · refine weakE_upd ?e14 ?r14 (weakE_upd ?e13 ?r13 (weakE_upd ?e12 ?r12 (weakE_upd ?e11 ?r11 (weakE_upd ?e4 ?r4 (weakE_upd ?e2 ?r2 (weakE_upd ?e0 ?r0 (weakE_junk _ _)))))))
            case e0 => first | rfl | exact fI (by omega) | (simp_all)
            case r0 => intro h hh; cases hh
            case e2 => first | rfl | exact fI (by omega) | (simp_all)
            case r2 => intro h hh; cases hh
            case e4 => first | rfl | exact fI (by omega) | (simp_all)
            case r4 => intro h hh; cases hh
            case e11 => first | rfl | exact fI (by omega) | (simp_all)
            case r11 => intro h hh; simp [refs] at hh; subst hh; rfl
            case e12 => first | rfl | exact fI (by omega) | (simp_all)
            case r12 => intro h hh; simp [refs] at hh; subst hh; rfl
            case e13 => first | rfl | exact fI (by omega) | (simp_all)
            case r13 => intro h hh; simp [refs] at hh; subst hh; rfl
            case e14 => first | rfl | exact fI (by omega) | (first | rfl | exact fI (by omega))
            case r14 => intro h hh; cases hh
      · replace hb19 := dT hb19
        have hpf := tpF_T (fl := fl) (gr := gr) (a := (wyR (tpF ps fl gr) (ps.map pe) ns.length s.toNat su m).getD w.2.1 0) hpp (by omega)
        rw [hpf] at hst
        refine ev_nil (hK18 _ ?_); clear hK18
        refine good_condT rfl ?_
        refine good_draw 21 hmix (by kernel_rfl) rfl ?_
        refine qo_q rfl (q_move (by conv => lhs; whnf) ?_)
        refine qo_q rfl (q_move (by conv => lhs; whnf) ?_)
        refine qo_q rfl (q_move (by conv => lhs; whnf) ?_)
        refine qo_q rfl (q_move (by conv => lhs; whnf) ?_)
        refine qo_q rfl (q_move (by conv => lhs; whnf) ?_)
        refine qo_q rfl (q_idxO tE22 rfl rfl rfl (by omega) (by first | omega | (simp; omega)) rfl ?_)
        refine qo_q rfl (q_loadE tA2 rfl rfl (by exact by_get ok (by omega) hwm rfl) rfl ?_)
        refine qo_q rfl (q_call rfl rfl (rfl) (D_pipe ns ps w p hW (by omega)) rfl ?_)
        refine qo_q rfl (q_move (by conv => lhs; whnf) ?_)
        refine qo_q rfl (q_move (by conv => lhs; whnf) ?_)
        refine qo_q rfl (q_move (by conv => lhs; whnf) ?_)
        refine qo_q rfl (q_move (by conv => lhs; whnf) ?_)
        refine qo_q rfl (q_move (by conv => lhs; whnf) ?_)
        refine qo_q rfl (q_idxO tE22 rfl rfl rfl (by omega) (by first | omega | (simp; omega)) rfl ?_)
        refine qo_q rfl (q_loadE tA2 rfl rfl (by exact by_get ok (by omega) hwm rfl) rfl ?_)
        refine qo_q rfl (q_callI rfl rfl (rfl) (D_before ns ps w p hW (by omega)) ?_)
        intro n21 hn21
        refine qo_q rfl (q_idxO tE22 rfl rfl rfl (by omega) (by first | omega | (simp; omega)) rfl ?_)
        refine qo_q rfl (q_loadE tA2 rfl rfl (by exact getSv (v := w.2.1) (a := w.1) (by omega) hwn (by assumption)) rfl ?_)
        refine qo_q rfl (q_move (by conv => lhs; whnf) ?_)
        refine qo_q rfl (q_callI rfl rfl (rfl) (D_spec_l03End _ _ _ _ _ _ _ _ _ hp6 hp4 htb hgr (by omega)) ?_)
        intro n22 hn22
        have hS : (((wyR (tpF ps fl gr) (ps.map pe) ns.length s.toNat su m).map ci).set w.1 (ci gr)).set w.1 (ci n22) = (wyR (tpF ps fl gr) (ps.map pe) ns.length s.toNat su (m + 1)).map ci := by rw [hn22, hn16, List.set_set, mapSet, hst]
        refine qo_q rfl (q_idxO tE22 rfl rfl rfl (by omega) (by first | omega | (simp; omega)) rfl ?_)
        refine qo_nil ?_
        refine ev_k rfl (k_storeE sz2 rfl (by conv => lhs; whnf) rfl rfl rfl (Nat.le_of_ble_eq_true rfl) rfl (by exact getM (by simp; omega)) (Nat.le_of_ble_eq_true rfl) rfl ?_)
        refine ev_nil (hK13 _ ?_); clear hK13
        refine good_region rfl ?_
        refine ev_q rfl (q_move (by conv => lhs; whnf) ?_)
        refine ev_q rfl (q_int rfl rfl ?_)
        intro n23 hn23
        replace hn23 := in64 hn23 (by omega) (by omega)
        refine ev_q rfl (q_assign (by conv => lhs; whnf) ?_)
        refine ev_nil ?_
        clear hK6
        refine ⟨m + 1, ?_, ?_, ?_⟩
        · show _ ≤ _; omega
        · first | omega | (simp only []; omega) | (dsimp only; omega)
        · refine sub_weak ?_ ?_
          · exact weakH_row (rowEq (rfl)) (weakH_row (rowEq (rfl)) (weakH_row (rowEq (by exact hS)) (weakH_none _)))
          · refine weakE_upd ?e14 ?r14 (weakE_upd ?e13 ?r13 (weakE_upd ?e12 ?r12 (weakE_upd ?e11 ?r11 (weakE_upd ?e4 ?r4 (weakE_upd ?e2 ?r2 (weakE_upd ?e0 ?r0 (weakE_junk _ _)))))))
            case e0 => first | rfl | exact fI (by omega) | (simp_all)
            case r0 => intro h hh; cases hh
            case e2 => first | rfl | exact fI (by omega) | (simp_all)
            case r2 => intro h hh; cases hh
            case e4 => first | rfl | exact fI (by omega) | (simp_all)
            case r4 => intro h hh; cases hh
            case e11 => first | rfl | exact fI (by omega) | (simp_all)
            case r11 => intro h hh; simp [refs] at hh; subst hh; rfl
            case e12 => first | rfl | exact fI (by omega) | (simp_all)
            case r12 => intro h hh; simp [refs] at hh; subst hh; rfl
            case e13 => first | rfl | exact fI (by omega) | (simp_all)
            case r13 => intro h hh; simp [refs] at hh; subst hh; rfl
            case e14 => first | rfl | exact fI (by omega) | (first | rfl | exact fI (by omega))
            case r14 => intro h hh; cases hh

-- impl.degreesOk
set_option maxRecDepth 20000 in
set_option maxHeartbeats 2000000 in
theorem D_impl_degreesOk (a : Int)  : Den Try.prog 58 [.s (.int .i64 a)] (.s (.bool (decide (-5000 ≤ a ∧ a ≤ 20000)))) := by
  refine den_of_good Try.func58 (by decide) rfl (Nat.le_of_ble_eq_true rfl) (Nat.le_of_ble_eq_true rfl) ?_
  refine good_seq fun K1 hK1 => ?_
  refine good_region rfl ?_
  refine ev_q rfl (q_assign (by conv => lhs; whnf) ?_)
  refine ev_nil (hK1 _ ?_); clear hK1
  refine good_seq fun K2 hK2 => ?_
  refine good_region rfl ?_
  refine ev_q rfl (q_move (by conv => lhs; whnf) ?_)
  refine ev_q rfl (q_callB rfl rfl (rfl) (D_impl_within ..) ?_)
  intro b3 hb3; cases b3
  · first | replace hb3 := dF hb3 | skip
    refine ev_q rfl (q_assign (by conv => lhs; whnf) ?_)
    refine ev_nil (hK2 _ ?_); clear hK2
    refine good_ret ?_
    repeat (first | refine thenQ_ret ?_ | refine blockQ_ret ?_)
    refine ret_tmp (st := _) rfl (by conv => lhs; whnf) rfl ?_
    first | rfl | exact fT (by first | omega | grind) | exact fF (by first | omega | grind) | exact fT' (by first | omega | grind) | (exfalso; first | omega | grind)
  · first | replace hb3 := dT hb3 | skip
    refine ev_q rfl (q_assign (by conv => lhs; whnf) ?_)
    refine ev_nil (hK2 _ ?_); clear hK2
    refine good_ret ?_
    repeat (first | refine thenQ_ret ?_ | refine blockQ_ret ?_)
    refine ret_tmp (st := _) rfl (by conv => lhs; whnf) rfl ?_
    first | rfl | exact fT (by first | omega | grind) | exact fF (by first | omega | grind) | exact fT' (by first | omega | grind) | (exfalso; first | omega | grind)

-- spec.l03Degrees
set_option maxRecDepth 20000 in
set_option maxHeartbeats 2000000 in
theorem D_spec_l03Degrees (a : Int)  : Den Try.prog 53 [.s (.int .i64 a)] (.s (.bool (decide (-5000 ≤ a ∧ a ≤ 20000)))) := by
  refine den_of_good Try.func53 (by decide) rfl (Nat.le_of_ble_eq_true rfl) (Nat.le_of_ble_eq_true rfl) ?_
  refine good_seq fun K1 hK1 => ?_
  refine good_region rfl ?_
  refine ev_q rfl (q_assign (by conv => lhs; whnf) ?_)
  refine ev_nil (hK1 _ ?_); clear hK1
  refine good_seq fun K2 hK2 => ?_
  refine good_region rfl ?_
  refine ev_q rfl (q_move (by conv => lhs; whnf) ?_)
  refine ev_q rfl (q_callB rfl rfl (rfl) (D_spec_l00In ..) ?_)
  intro b3 hb3; cases b3
  · first | replace hb3 := dF hb3 | skip
    refine ev_q rfl (q_assign (by conv => lhs; whnf) ?_)
    refine ev_nil (hK2 _ ?_); clear hK2
    refine good_ret ?_
    repeat (first | refine thenQ_ret ?_ | refine blockQ_ret ?_)
    refine ret_tmp (st := _) rfl (by conv => lhs; whnf) rfl ?_
    first | rfl | exact fT (by first | omega | grind) | exact fF (by first | omega | grind) | exact fT' (by first | omega | grind) | (exfalso; first | omega | grind)
  · first | replace hb3 := dT hb3 | skip
    refine ev_q rfl (q_assign (by conv => lhs; whnf) ?_)
    refine ev_nil (hK2 _ ?_); clear hK2
    refine good_ret ?_
    repeat (first | refine thenQ_ret ?_ | refine blockQ_ret ?_)
    refine ret_tmp (st := _) rfl (by conv => lhs; whnf) rfl ?_
    first | rfl | exact fT (by first | omega | grind) | exact fF (by first | omega | grind) | exact fT' (by first | omega | grind) | (exfalso; first | omega | grind)

-- spec.NodeTemperatures
set_option maxRecDepth 20000 in
set_option maxHeartbeats 2000000 in
theorem D_spec_NodeTemperatures_X (ns : List Int) (ps : List Pi) (s : Int) (fl : List Int) (su gr : Int) (hn : ns.length ≤ 17592186044416) (hp : ps.length ≤ 2513169434843) (hz : idSz ps) (hf : fl.length ≤ 17592186044416) : DenX Try.prog 9 [] [.agg [.lst 1 (ns.map ci), .lst 6 (ps.map piA)], .s (.int .i64 s), .lst 1 (fl.map ci), .s (.int .i64 su), .s (.int .i64 gr)] [(900003, .row 2 1 ((ntR ns ps s fl su gr).map ci))] (.tup [.own 900003 (ntR ns ps s fl su gr).length, .s (.int .i64 (ntC ns ps s fl su gr))]) := by
  refine denX_of_good Try.func9 (by decide) rfl (Nat.le_of_ble_eq_true rfl) (Nat.le_of_ble_eq_true rfl) rfl ?_
  refine good_seq fun K1 hK1 => ?_
  refine good_region rfl ?_
  refine ev_k rfl (k_box (by conv => lhs; whnf) rfl rfl rfl ?_)
  refine ev_q rfl (q_assign (by conv => lhs; whnf) ?_)
  refine ev_q rfl (q_assign (by conv => lhs; whnf) ?_)
  refine ev_nil (hK1 _ ?_); clear hK1
  refine good_seq fun K2 hK2 => ?_
  refine good_region rfl ?_
  refine ev_q rfl (q_move (by conv => lhs; whnf) ?_)
  refine ev_q rfl (q_callI rfl rfl (rfl) (D_spec_l07Ask ns ps s hn hp hz) ?_)
  intro n3 hn3
  have hask := ask_y (fl := fl) hn3
  have hnk := nt_ask (fl := fl) (su := su) (gr := gr) hn3
  refine ev_q rfl (q_assign (by conv => lhs; whnf) ?_)
  refine ev_nil (hK2 _ ?_); clear hK2
  refine good_seq fun K4 hK4 => ?_
  refine good_seq fun K5 hK5 => ?_
  refine good_region rfl ?_
  refine ev_q rfl (q_move (by conv => lhs; whnf) ?_)
  refine ev_q rfl (q_int rfl rfl ?_)
  intro b6 hb6; cases b6
  · replace hb6 := neF hb6
    obtain ⟨hok, hsr⟩ := hask.1 (by omega)
    refine ev_nil (hK5 _ ?_); clear hK5
    refine good_condF rfl ?_
    refine good_skip (hK4 _ ?_); clear hK4
    refine good_seq fun K7 hK7 => ?_
    refine good_seq fun K8 hK8 => ?_
    refine good_region rfl ?_
    refine ev_q rfl (q_move (by conv => lhs; whnf) ?_)
    refine ev_q rfl (q_callB rfl rfl (rfl) (D_spec_l03Degrees ..) ?_)
    intro b9 hb9; cases b9
    · first | replace hb9 := dF hb9 | skip
      refine ev_q rfl (q_not rfl rfl ?_)
      refine ev_q rfl (q_move (by conv => lhs; whnf) ?_)
      refine ev_skip rfl ?_
      refine ev_skip rfl ?_
      refine ev_skip rfl ?_
      refine ev_q rfl (q_pickT rfl (by conv => lhs; whnf) ?_)
      refine ev_nil (hK8 _ ?_); clear hK8
      refine good_condT rfl ?_
      refine good_seq fun K10 hK10 => ?_
      refine good_region rfl ?_
      refine ev_q rfl (q_assign (by conv => lhs; whnf) ?_)
      refine ev_q rfl (q_assign (by conv => lhs; whnf) ?_)
      refine ev_nil (hK10 _ ?_); clear hK10
      refine good_ret ?_
      repeat (first | refine thenQ_ret ?_ | refine blockQ_ret ?_)
      refine fx_many rfl ?_
      refine fxs_tmp (by conv => lhs; whnf) ?_
      refine fxs_tmp (by conv => lhs; whnf) ?_
      refine fx_nil ?_
      clear hK7
      obtain ⟨e2, e⟩ := (by first | exact hn0 | exact hn3 | exact nt_2 (s := s) (fl := fl) (su := su) (gr := gr) hok (by omega) | exact hnk (by omega) : ntC ns ps s fl su gr = _ ∧ ntR ns ps s fl su gr = _)
      have hwl := wyR_len (f := tpF ps fl gr) (es := (ps.map pe)) (n := ns.length) (s := s.toNat) (x := su) (m := (waysF (ps.map pe) ns.length s.toNat).2.length)
      exact ⟨_, .tup (.cons (conv_nil rfl (by decide) (by rw [e]; rfl)) (.cons (conv_eq (by first | rfl | exact fI (by omega) | (exfalso; first | omega | grind))) (.nil))), weakH_row (rowEq (by first | (rw [e]; done) | (rw [e]; rfl))) (weakH_none _), refsIn_ok rfl⟩
    · first | replace hb9 := dT hb9 | skip
      refine ev_q rfl (q_not rfl rfl ?_)
      refine ev_q rfl (q_move (by conv => lhs; whnf) ?_)
      refine ev_q rfl (q_move (by conv => lhs; whnf) ?_)
      refine ev_q rfl (q_callB rfl rfl (rfl) (D_spec_l03Degrees ..) ?_)
      intro b11 hb11; cases b11
      · first | replace hb11 := dF hb11 | skip
        refine ev_q rfl (q_not rfl rfl ?_)
        refine ev_q rfl (q_pickF rfl (by conv => lhs; whnf) ?_)
        refine ev_nil (hK8 _ ?_); clear hK8
        refine good_condT rfl ?_
        refine good_seq fun K12 hK12 => ?_
        refine good_region rfl ?_
        refine ev_q rfl (q_assign (by conv => lhs; whnf) ?_)
        refine ev_q rfl (q_assign (by conv => lhs; whnf) ?_)
        refine ev_nil (hK12 _ ?_); clear hK12
        refine good_ret ?_
        repeat (first | refine thenQ_ret ?_ | refine blockQ_ret ?_)
        refine fx_many rfl ?_
        refine fxs_tmp (by conv => lhs; whnf) ?_
        refine fxs_tmp (by conv => lhs; whnf) ?_
        refine fx_nil ?_
        clear hK7
        obtain ⟨e2, e⟩ := (by first | exact hn0 | exact hn3 | exact nt_2 (s := s) (fl := fl) (su := su) (gr := gr) hok (by omega) | exact hnk (by omega) : ntC ns ps s fl su gr = _ ∧ ntR ns ps s fl su gr = _)
        have hwl := wyR_len (f := tpF ps fl gr) (es := (ps.map pe)) (n := ns.length) (s := s.toNat) (x := su) (m := (waysF (ps.map pe) ns.length s.toNat).2.length)
        exact ⟨_, .tup (.cons (conv_nil rfl (by decide) (by rw [e]; rfl)) (.cons (conv_eq (by first | rfl | exact fI (by omega) | (exfalso; first | omega | grind))) (.nil))), weakH_row (rowEq (by first | (rw [e]; done) | (rw [e]; rfl))) (weakH_none _), refsIn_ok rfl⟩
      · first | replace hb11 := dT hb11 | skip
        refine ev_q rfl (q_not rfl rfl ?_)
        refine ev_q rfl (q_pickF rfl (by conv => lhs; whnf) ?_)
        refine ev_nil (hK8 _ ?_); clear hK8
        refine good_condF rfl ?_
        refine good_skip (hK7 _ ?_); clear hK7
        refine good_seq fun K13 hK13 => ?_
        refine good_region rfl ?_
        refine ev_q rfl (q_move (by conv => lhs; whnf) ?_)
        refine ev_q rfl (q_move (by conv => lhs; whnf) ?_)
        refine ev_q rfl (q_callI rfl rfl (rfl) (D_spec_l07Given ns ps s fl hn hp hz hf) ?_)
        intro n14 hn14
        refine ev_q rfl (q_assign (by conv => lhs; whnf) ?_)
        refine ev_nil (hK13 _ ?_); clear hK13
        refine good_seq fun K15 hK15 => ?_
        refine good_seq fun K16 hK16 => ?_
        refine good_region rfl ?_
        refine ev_q rfl (q_move (by conv => lhs; whnf) ?_)
        refine ev_q rfl (q_int rfl rfl ?_)
        intro b17 hb17; cases b17
        · replace hb17 := neF hb17
          have hf0 := fc_0 (hn14.symm.trans (by omega))
          have hn0 := nt_0 (su := su) (gr := gr) hok (by omega) hn14 (by omega)
          refine ev_nil (hK16 _ ?_); clear hK16
          refine good_condF rfl ?_
          refine good_skip (hK15 _ ?_); clear hK15
          refine good_seq fun K18 hK18 => ?_
          refine good_region rfl ?_
          refine ev_q rfl (q_move (by conv => lhs; whnf) ?_)
          refine ev_q rfl (q_move (by conv => lhs; whnf) ?_)
          refine ev_q rfl (q_move (by conv => lhs; whnf) ?_)
          refine ev_q rfl (q_move (by conv => lhs; whnf) ?_)
          refine ev_k rfl (k_callXc [(900003, 900003)] (D_spec_l07Temperatures ns ps s fl su gr hn hp hz hf hf0.1 hf0.2.1 hf0.2.2.1 (by omega) (by omega)) rfl (rfl) (⟨rfl, ⟨pure_ci, trivial⟩⟩) trivial ⟨⟨rfl, show (900003 : Nat) < 1000000 by decide⟩, trivial⟩ rfl rfl rfl ?_)
          refine ev_q rfl (q_assign (by conv => lhs; whnf) ?_)
          refine ev_q rfl (q_assign (by conv => lhs; whnf) ?_)
          refine ev_nil (hK18 _ ?_); clear hK18
          refine good_ret ?_
          repeat (first | refine thenQ_ret ?_ | refine blockQ_ret ?_)
          refine fx_many rfl ?_
          refine fxs_tmp (by conv => lhs; whnf) ?_
          refine fxs_tmp (by conv => lhs; whnf) ?_
          refine fx_nil ?_
          obtain ⟨e2, e⟩ := (by first | exact hn0 | exact hn3 | exact nt_2 (s := s) (fl := fl) (su := su) (gr := gr) hok (by omega) | exact hnk (by omega) : ntC ns ps s fl su gr = _ ∧ ntR ns ps s fl su gr = _)
          have hwl := wyR_len (f := tpF ps fl gr) (es := (ps.map pe)) (n := ns.length) (s := s.toNat) (x := su) (m := (waysF (ps.map pe) ns.length s.toNat).2.length)
          exact ⟨_, .tup (.cons (conv_eq (by first | rfl | (rw [e]; done) | (rw [e]; rfl) | exact ownEq (by first | omega | simp_all))) (.cons (conv_eq (by first | rfl | exact fI (by omega) | (exfalso; first | omega | grind))) (.nil))), weakH_row (rowEq (by first | (rw [e]; done) | (rw [e]; rfl))) (weakH_none _), refsIn_ok rfl⟩
        · replace hb17 := neT hb17
          have hn3 := nt_3 (su := su) (gr := gr) hok (by omega) hn14 (by omega)
          refine ev_nil (hK16 _ ?_); clear hK16
          refine good_condT rfl ?_
          refine good_seq fun K19 hK19 => ?_
          refine good_region rfl ?_
          refine ev_q rfl (q_move (by conv => lhs; whnf) ?_)
          refine ev_q rfl (q_assign (by conv => lhs; whnf) ?_)
          refine ev_q rfl (q_assign (by conv => lhs; whnf) ?_)
          refine ev_nil (hK19 _ ?_); clear hK19
          refine good_ret ?_
          repeat (first | refine thenQ_ret ?_ | refine blockQ_ret ?_)
          refine fx_many rfl ?_
          refine fxs_tmp (by conv => lhs; whnf) ?_
          refine fxs_tmp (by conv => lhs; whnf) ?_
          refine fx_nil ?_
          clear hK15
          obtain ⟨e2, e⟩ := (by first | exact hn0 | exact hn3 | exact nt_2 (s := s) (fl := fl) (su := su) (gr := gr) hok (by omega) | exact hnk (by omega) : ntC ns ps s fl su gr = _ ∧ ntR ns ps s fl su gr = _)
          have hwl := wyR_len (f := tpF ps fl gr) (es := (ps.map pe)) (n := ns.length) (s := s.toNat) (x := su) (m := (waysF (ps.map pe) ns.length s.toNat).2.length)
          exact ⟨_, .tup (.cons (conv_nil rfl (by decide) (by rw [e]; rfl)) (.cons (conv_eq (by first | rfl | exact fI (by omega) | (exfalso; first | omega | grind))) (.nil))), weakH_row (rowEq (by first | (rw [e]; done) | (rw [e]; rfl))) (weakH_none _), refsIn_ok rfl⟩
  · replace hb6 := neT hb6
    refine ev_nil (hK5 _ ?_); clear hK5
    refine good_condT rfl ?_
    refine good_seq fun K20 hK20 => ?_
    refine good_region rfl ?_
    refine ev_q rfl (q_move (by conv => lhs; whnf) ?_)
    refine ev_q rfl (q_assign (by conv => lhs; whnf) ?_)
    refine ev_q rfl (q_assign (by conv => lhs; whnf) ?_)
    refine ev_nil (hK20 _ ?_); clear hK20
    refine good_ret ?_
    repeat (first | refine thenQ_ret ?_ | refine blockQ_ret ?_)
    refine fx_many rfl ?_
    refine fxs_tmp (by conv => lhs; whnf) ?_
    refine fxs_tmp (by conv => lhs; whnf) ?_
    refine fx_nil ?_
    clear hK4
    obtain ⟨e2, e⟩ := (by first | exact hn0 | exact hn3 | exact nt_2 (s := s) (fl := fl) (su := su) (gr := gr) hok (by omega) | exact hnk (by omega) : ntC ns ps s fl su gr = _ ∧ ntR ns ps s fl su gr = _)
    have hwl := wyR_len (f := tpF ps fl gr) (es := (ps.map pe)) (n := ns.length) (s := s.toNat) (x := su) (m := (waysF (ps.map pe) ns.length s.toNat).2.length)
    exact ⟨_, .tup (.cons (conv_nil rfl (by decide) (by rw [e]; rfl)) (.cons (conv_eq (by first | rfl | exact fI (by omega) | (exfalso; first | omega | grind))) (.nil))), weakH_row (rowEq (by first | (rw [e]; done) | (rw [e]; rfl))) (weakH_none _), refsIn_ok rfl⟩
theorem D_spec_NodeTemperatures (ns : List Int) (ps : List Pi) (s : Int) (fl : List Int) (su gr : Int) (hn : ns.length ≤ 17592186044416) (hp : ps.length ≤ 2513169434843) (hz : idSz ps) (hf : fl.length ≤ 17592186044416) : Den Try.prog 9 [.agg [.lst 1 (ns.map ci), .lst 6 (ps.map piA)], .s (.int .i64 s), .lst 1 (fl.map ci), .s (.int .i64 su), .s (.int .i64 gr)] (.tup [.lst 1 ((ntR ns ps s fl su gr).map ci), .s (.int .i64 (ntC ns ps s fl su gr))]) :=
  den_of_denX (D_spec_NodeTemperatures_X ns ps s fl su gr hn hp hz hf) (by change (some (.tup [.lst 1 (List.take (ntR ns ps s fl su gr).length ((ntR ns ps s fl su gr).map ci)), .s (.int .i64 (ntC ns ps s fl su gr))]) : Option AV) = some (.tup [.lst 1 ((ntR ns ps s fl su gr).map ci), .s (.int .i64 (ntC ns ps s fl su gr))]); simp only [takeMap])

-- impl.NodeTemperatures
set_option maxRecDepth 20000 in
set_option maxHeartbeats 2000000 in
theorem D_impl_NodeTemperatures_X (ns : List Int) (ps : List Pi) (s : Int) (fl : List Int) (su gr : Int) (hn : ns.length ≤ 17592186044416) (hp : ps.length ≤ 2513169434843) (hz : idSz ps) (hf : fl.length ≤ 17592186044416) : DenX Try.prog 12 [] [.agg [.lst 1 (ns.map ci), .lst 6 (ps.map piA)], .s (.int .i64 s), .lst 1 (fl.map ci), .s (.int .i64 su), .s (.int .i64 gr)] [(900003, .row 2 1 ((ntR ns ps s fl su gr).map ci))] (.tup [.own 900003 (ntR ns ps s fl su gr).length, .s (.int .i64 (ntC ns ps s fl su gr))]) := by
  refine denX_of_good Try.func12 (by decide) rfl (Nat.le_of_ble_eq_true rfl) (Nat.le_of_ble_eq_true rfl) rfl ?_
  refine good_seq fun K1 hK1 => ?_
  refine good_region rfl ?_
  refine ev_k rfl (k_box (by conv => lhs; whnf) rfl rfl rfl ?_)
  refine ev_q rfl (q_assign (by conv => lhs; whnf) ?_)
  refine ev_q rfl (q_assign (by conv => lhs; whnf) ?_)
  refine ev_nil (hK1 _ ?_); clear hK1
  refine good_seq fun K2 hK2 => ?_
  refine good_block ?_
  refine good_seq fun K3 hK3 => ?_
  refine good_region rfl ?_
  refine ev_q rfl (q_loadA tA31 rfl rfl rfl ?_)
  refine ev_q rfl (q_callB rfl rfl (rfl) (D_impl_ValidNetwork ns ps hn hp hz) ?_)
  intro b4 hb4; cases b4
  · first | replace hb4 := dF hb4 | skip
    refine ev_q rfl (q_not rfl rfl ?_)
    refine ev_q rfl (q_assign (by conv => lhs; whnf) ?_)
    refine ev_nil (hK3 _ ?_); clear hK3
    refine good_condT rfl ?_
    refine good_seq fun K5 hK5 => ?_
    refine good_region rfl ?_
    refine ev_q rfl (q_assign (by conv => lhs; whnf) ?_)
    refine ev_q rfl (q_assign (by conv => lhs; whnf) ?_)
    refine ev_nil (hK5 _ ?_); clear hK5
    refine good_ret ?_
    repeat (first | refine thenQ_ret ?_ | refine blockQ_ret ?_)
    refine fx_many rfl ?_
    refine fxs_tmp (by conv => lhs; whnf) ?_
    refine fxs_tmp (by conv => lhs; whnf) ?_
    refine fx_nil ?_
    clear hK2
    obtain ⟨e2, e⟩ := (by first | exact hn0 | exact hn3 | exact nt_2 (s := s) (fl := fl) (su := su) (gr := gr) (by assumption) (by omega) | exact nt_1 (by assumption) : ntC ns ps s fl su gr = _ ∧ ntR ns ps s fl su gr = _)
    have hwl2 := wyR_len (f := tpF ps fl gr) (es := (ps.map pe)) (n := ns.length) (s := s.toNat) (x := su) (m := (waysF (ps.map pe) ns.length s.toNat).2.length)
    try (have em : (waysF (ps.map pe) ns.length s.toNat).2.length = m := by omega)
    try (rw [em] at e hwl2)
    exact ⟨_, .tup (.cons (conv_nil rfl (by decide) (by rw [e]; rfl)) (.cons (conv_eq (by first | rfl | exact fI (by omega) | (exfalso; first | omega | grind))) (.nil))), weakH_row (rowEq (by first | (rw [e]; done) | (rw [e]; rfl))) (weakH_none _), refsIn_ok rfl⟩
  · first | replace hb4 := dT hb4 | skip
    refine ev_q rfl (q_not rfl rfl ?_)
    refine ev_q rfl (q_assign (by conv => lhs; whnf) ?_)
    refine ev_nil (hK3 _ ?_); clear hK3
    refine good_condF rfl ?_
    refine good_seq fun K6 hK6 => ?_
    refine good_region rfl ?_
    refine ev_q rfl (q_move (by conv => lhs; whnf) ?_)
    refine ev_q rfl (q_callB rfl rfl (rfl) (D_impl_degreesOk ..) ?_)
    intro b7 hb7; cases b7
    · first | replace hb7 := dF hb7 | skip
      refine ev_q rfl (q_not rfl rfl ?_)
      refine ev_q rfl (q_move (by conv => lhs; whnf) ?_)
      refine ev_skip rfl ?_
      refine ev_skip rfl ?_
      refine ev_skip rfl ?_
      refine ev_q rfl (q_pickT rfl (by conv => lhs; whnf) ?_)
      refine ev_q rfl (q_assign (by conv => lhs; whnf) ?_)
      refine ev_nil (hK6 _ ?_); clear hK6
      refine good_condT rfl ?_
      refine good_seq fun K8 hK8 => ?_
      refine good_region rfl ?_
      refine ev_q rfl (q_assign (by conv => lhs; whnf) ?_)
      refine ev_q rfl (q_assign (by conv => lhs; whnf) ?_)
      refine ev_nil (hK8 _ ?_); clear hK8
      refine good_ret ?_
      repeat (first | refine thenQ_ret ?_ | refine blockQ_ret ?_)
      refine fx_many rfl ?_
      refine fxs_tmp (by conv => lhs; whnf) ?_
      refine fxs_tmp (by conv => lhs; whnf) ?_
      refine fx_nil ?_
      clear hK2
      obtain ⟨e2, e⟩ := (by first | exact hn0 | exact hn3 | exact nt_2 (s := s) (fl := fl) (su := su) (gr := gr) (by assumption) (by omega) | exact nt_1 (by assumption) : ntC ns ps s fl su gr = _ ∧ ntR ns ps s fl su gr = _)
      have hwl2 := wyR_len (f := tpF ps fl gr) (es := (ps.map pe)) (n := ns.length) (s := s.toNat) (x := su) (m := (waysF (ps.map pe) ns.length s.toNat).2.length)
      try (have em : (waysF (ps.map pe) ns.length s.toNat).2.length = m := by omega)
      try (rw [em] at e hwl2)
      exact ⟨_, .tup (.cons (conv_nil rfl (by decide) (by rw [e]; rfl)) (.cons (conv_eq (by first | rfl | exact fI (by omega) | (exfalso; first | omega | grind))) (.nil))), weakH_row (rowEq (by first | (rw [e]; done) | (rw [e]; rfl))) (weakH_none _), refsIn_ok rfl⟩
    · first | replace hb7 := dT hb7 | skip
      refine ev_q rfl (q_not rfl rfl ?_)
      refine ev_q rfl (q_move (by conv => lhs; whnf) ?_)
      refine ev_q rfl (q_move (by conv => lhs; whnf) ?_)
      refine ev_q rfl (q_callB rfl rfl (rfl) (D_impl_degreesOk ..) ?_)
      intro b9 hb9; cases b9
      · first | replace hb9 := dF hb9 | skip
        refine ev_q rfl (q_not rfl rfl ?_)
        refine ev_q rfl (q_pickF rfl (by conv => lhs; whnf) ?_)
        refine ev_q rfl (q_assign (by conv => lhs; whnf) ?_)
        refine ev_nil (hK6 _ ?_); clear hK6
        refine good_condT rfl ?_
        refine good_seq fun K10 hK10 => ?_
        refine good_region rfl ?_
        refine ev_q rfl (q_assign (by conv => lhs; whnf) ?_)
        refine ev_q rfl (q_assign (by conv => lhs; whnf) ?_)
        refine ev_nil (hK10 _ ?_); clear hK10
        refine good_ret ?_
        repeat (first | refine thenQ_ret ?_ | refine blockQ_ret ?_)
        refine fx_many rfl ?_
        refine fxs_tmp (by conv => lhs; whnf) ?_
        refine fxs_tmp (by conv => lhs; whnf) ?_
        refine fx_nil ?_
        clear hK2
        obtain ⟨e2, e⟩ := (by first | exact hn0 | exact hn3 | exact nt_2 (s := s) (fl := fl) (su := su) (gr := gr) (by assumption) (by omega) | exact nt_1 (by assumption) : ntC ns ps s fl su gr = _ ∧ ntR ns ps s fl su gr = _)
        have hwl2 := wyR_len (f := tpF ps fl gr) (es := (ps.map pe)) (n := ns.length) (s := s.toNat) (x := su) (m := (waysF (ps.map pe) ns.length s.toNat).2.length)
        try (have em : (waysF (ps.map pe) ns.length s.toNat).2.length = m := by omega)
        try (rw [em] at e hwl2)
        exact ⟨_, .tup (.cons (conv_nil rfl (by decide) (by rw [e]; rfl)) (.cons (conv_eq (by first | rfl | exact fI (by omega) | (exfalso; first | omega | grind))) (.nil))), weakH_row (rowEq (by first | (rw [e]; done) | (rw [e]; rfl))) (weakH_none _), refsIn_ok rfl⟩
      · first | replace hb9 := dT hb9 | skip
        refine ev_q rfl (q_not rfl rfl ?_)
        refine ev_q rfl (q_pickF rfl (by conv => lhs; whnf) ?_)
        refine ev_q rfl (q_assign (by conv => lhs; whnf) ?_)
        refine ev_nil (hK6 _ ?_); clear hK6
        refine good_condF rfl ?_
        refine good_skip (hK2 _ ?_); clear hK2
        refine good_seq fun K11 hK11 => ?_
        refine good_seq fun K12 hK12 => ?_
        refine good_region rfl ?_
        refine ev_q rfl (q_loadA tA31 rfl rfl rfl ?_)
        refine ev_q rfl (q_move (by conv => lhs; whnf) ?_)
        refine ev_q rfl (q_move (by conv => lhs; whnf) ?_)
        refine ev_q rfl (q_callI rfl rfl (rfl) (D_impl_flowsCode ns ps s fl hn hp hz hf) ?_)
        intro n13 hn13
        refine ev_q rfl (q_assign (by conv => lhs; whnf) ?_)
        refine ev_nil (hK12 _ ?_); clear hK12
        refine good_seq fun K14 hK14 => ?_
        refine good_region rfl ?_
        refine ev_q rfl (q_move (by conv => lhs; whnf) ?_)
        refine ev_q rfl (q_int rfl rfl ?_)
        intro b15 hb15; cases b15
        · replace hb15 := neF hb15
          have hf0 := fc_0 (hn13.symm.trans (by omega))
          have hn0 := nt_0 (su := su) (gr := gr) hf0.1 (by omega) hn13 (by omega)
          have ok := hf0.1
          have hs := hf0.2.1
          have hfl := hf0.2.2.1
          have h16 := ok.1.1
          have h20 := ok.1.2.2
          have hwl := ways_le (s := s.toNat) (esF_lt ok) (by omega)
          have hsu : -5000 ≤ su ∧ su ≤ 20000 := by omega
          have hgr : -5000 ≤ gr ∧ gr ≤ 20000 := by omega
          refine ev_nil (hK14 _ ?_); clear hK14
          refine good_condF rfl ?_
          refine good_skip (hK11 _ ?_); clear hK11
          refine good_seq fun K16 hK16 => ?_
          refine good_region rfl ?_
          refine ev_q rfl (q_fieldAddrP fO31_0 rfl rfl ?_)
          refine ev_q rfl (q_load tA22 rfl ?_)
          refine ev_q rfl (q_len tEs22 rfl ?_)
          intro n17 hn17
          try simp only [List.length_map] at hn17
          refine ev_k rfl (k_make tE22 rfl rfl zA2 tBy2 rfl (by omega) (by omega) (by omega) rfl (by show _ = ns.length; omega) ?_)
          refine ev_q rfl (q_assign (by conv => lhs; whnf) ?_)
          refine ev_nil (hK16 _ ?_); clear hK16
          refine good_seq fun K18 hK18 => ?_
          refine good_region rfl ?_
          refine ev_q rfl (q_move (by conv => lhs; whnf) ?_)
          refine ev_q rfl (q_move (by conv => lhs; whnf) ?_)
          refine ev_q rfl (q_move (by conv => lhs; whnf) ?_)
          refine ev_q rfl (q_idxO tE22 rfl rfl rfl (by omega) (by first | omega | (simp; omega)) rfl ?_)
          refine ev_k rfl (k_storeE sz2 rfl (by conv => lhs; whnf) rfl rfl rfl (Nat.le_of_ble_eq_true rfl) rfl (by exact repG (by omega)) (Nat.le_of_ble_eq_true rfl) rfl ?_)
          refine ev_nil (hK18 _ ?_); clear hK18
          refine good_seq fun K19 hK19 => ?_
          refine good_seq fun K20 hK20 => ?_
          refine good_region rfl ?_
          refine ev_q rfl (q_loadA tA31 rfl rfl rfl ?_)
          refine ev_q rfl (q_move (by conv => lhs; whnf) ?_)
          refine ev_k rfl (k_callX [(900001, 900001)] (D_impl_Network_ways ns ps s hn hp hz ok hs) rfl (rfl) (rfl) trivial ⟨⟨rfl, show (900001 : Nat) < 1000000 by decide⟩, trivial⟩ rfl rfl rfl ?_)
          refine ev_q rfl (q_len tEs91 rfl ?_)
          intro n21 hn21
          try simp only [List.length_map] at hn21
          refine ev_q rfl (q_move (by conv => lhs; whnf) ?_)
          refine ev_nil (hK20 _ ?_); clear hK20
          refine good_block ?_
          refine good_loop (α := Nat) (fun m => { env := upd (upd (upd (upd (upd (upd (upd ((fun _ => .junk)) 2 (.lst 1 (fl.map ci))) 4 (.s (.int .i64 gr))) 5 (.ptr 5 0)) 13 (.own 40 ns.length)) 47 (.own 900001 (waysF (ps.map pe) ns.length s.toNat).2.length)) 48 (.s (.int .i64 (((waysF (ps.map pe) ns.length s.toNat).2.length : Int))))) 49 (.s (.int .i64 ((m : Int)))), H := upd (upd (upd ((fun _ => none)) 40 (some (.row 2 1 ((wyR (tpF ps fl gr) (ps.map pe) ns.length s.toNat su m).map ci)))) 900001 (some (.row 94 3 ((waysF (ps.map pe) ns.length s.toNat).2.map wyA)))) 5 (some (.box 31 [.lst 1 (ns.map ci), .lst 6 (ps.map piA)])) }) (fun m => m ≤ (waysF (ps.map pe) ns.length s.toNat).2.length) (fun m => (waysF (ps.map pe) ns.length s.toNat).2.length - m) 0 ?_ ?_ ?_
          · exact Nat.zero_le _
          · refine sub_weak ?_ ?_
            · exact weakH_box (boxEq (rfl)) rfl (weakH_row (rowEq (rfl)) (weakH_row (rowEq (by first | exact wyR_0)) (weakH_none _)))
            · refine weakE_upd ?e49 ?r49 (weakE_upd ?e48 ?r48 (weakE_upd ?e47 ?r47 (weakE_upd ?e13 ?r13 (weakE_upd ?e5 ?r5 (weakE_upd ?e4 ?r4 (weakE_upd ?e2 ?r2 (weakE_junk _ _)))))))
              case e2 => first | rfl | exact fI (by omega) | (simp_all)
              case r2 => intro h hh; cases hh
              case e4 => first | rfl | exact fI (by omega) | (simp_all)
              case r4 => intro h hh; cases hh
              case e5 => first | rfl | exact fI (by omega) | (simp_all)
              case r5 => intro h hh; simp [refs] at hh; subst hh; rfl
              case e13 => first | rfl | exact fI (by omega) | (simp_all)
              case r13 => intro h hh; simp [refs] at hh; subst hh; rfl
              case e47 => first | rfl | exact fI (by omega) | (simp_all)
              case r47 => intro h hh; simp [refs] at hh; subst hh; rfl
              case e48 => first | rfl | exact fI (by omega) | (simp_all)
              case r48 => intro h hh; cases hh
              case e49 => first | rfl | exact fI (by omega) | (simp_all)
              case r49 => intro h hh; cases hh
          · rintro m hI
            refine good_seq fun K22 hK22 => ?_
            refine good_region rfl ?_
            refine ev_q rfl (q_int rfl rfl ?_)
            intro b23 hb23; cases b23
            · replace hb23 := dF hb23
              refine ev_nil (hK22 _ ?_); clear hK22
              refine good_seq fun K24 hK24 => ?_
              refine good_condF rfl ?_
              refine good_exit ?_
              repeat (first | refine thenQ_exit ?_ | refine blockQ_pass rfl ?_)
              refine blockQ_exit (hK19 _ ?_); clear hK19
              refine good_seq fun K25 hK25 => ?_
              refine good_region rfl ?_
              refine ev_q rfl (q_move (by conv => lhs; whnf) ?_)
              refine ev_q rfl (q_assign (by conv => lhs; whnf) ?_)
              refine ev_q rfl (q_assign (by conv => lhs; whnf) ?_)
              refine ev_nil (hK25 _ ?_); clear hK25
              refine good_weak (sub_move 10 40 900003 rfl rfl rfl (by decide)) ?_
              refine good_ret ?_
              repeat (first | refine thenQ_ret ?_ | refine blockQ_ret ?_)
              refine fx_many rfl ?_
              refine fxs_tmp (by conv => lhs; whnf) ?_
              refine fxs_tmp (by conv => lhs; whnf) ?_
              refine fx_nil ?_
              clear hK24
              obtain ⟨e2, e⟩ := (by first | exact hn0 | exact hn3 | exact nt_2 (s := s) (fl := fl) (su := su) (gr := gr) (by assumption) (by omega) | exact nt_1 (by assumption) : ntC ns ps s fl su gr = _ ∧ ntR ns ps s fl su gr = _)
              have hwl2 := wyR_len (f := tpF ps fl gr) (es := (ps.map pe)) (n := ns.length) (s := s.toNat) (x := su) (m := (waysF (ps.map pe) ns.length s.toNat).2.length)
              try (have em : (waysF (ps.map pe) ns.length s.toNat).2.length = m := by omega)
              try (rw [em] at e hwl2)
              exact ⟨_, .tup (.cons (conv_eq (by first | rfl | (rw [e]; done) | (rw [e]; rfl) | exact ownEq (by first | omega | simp_all))) (.cons (conv_eq (by first | rfl | exact fI (by omega) | (exfalso; first | omega | grind))) (.nil))), weakH_row (rowEq (by first | (rw [e]; done) | (rw [e]; rfl))) (weakH_none _), refsIn_ok rfl⟩
            · replace hb23 := dT hb23
              obtain ⟨w, hw⟩ : ∃ w, (waysF (ps.map pe) ns.length s.toNat).2[m]? = some w := ⟨_, List.getElem?_eq_getElem (by omega)⟩
              have hwm := List.mem_of_getElem? hw
              obtain ⟨p, hW⟩ := wayOf ok (show s.toNat < ns.length by omega) hwm
              have hpp := hW.hp
              have hw1 := hW.l1
              have hw2 := hW.l2
              have hwn := hW.ne
              have hpl := (List.getElem?_eq_some_iff.1 hpp).1
              have hpo := (ok.2 _ p hpp).1
              have hp1 := hpo.1.2.1
              have hp2 := hpo.1.2.2.1
              have hp3 := hpo.1.2.2.2.1
              have hp4 := hpo.1.2.2.2.2.1
              have hp5 := hpo.1.2.2.2.2.2.1
              have hp6 := hpo.1.2.2.2.2.2.2
              obtain ⟨l, hl⟩ : ∃ l, fl[w.2.2]? = some l := ⟨_, List.getElem?_eq_getElem (by have := hfl.1; omega)⟩
              have hlb := hfl.2 _ _ hl
              have hfs := flS_y hpp hl
              have hfb : -100000 ≤ flS (ps.map pe) fl w ∧ flS (ps.map pe) fl w ≤ 100000 := by rw [hfs]; split <;> omega
              have hst := wyR_s (f := tpF ps fl gr) (n := ns.length) (s := s.toNat) (x := su) hw
              have hln := wyR_len (f := tpF ps fl gr) (es := (ps.map pe)) (n := ns.length) (s := s.toNat) (m := m) (x := su)
              have htb := wyR_all (f := tpF ps fl gr) (es := (ps.map pe)) (n := ns.length) (s := s.toNat) (m := m) (x := su) (Q := fun a => -5000 ≤ a ∧ a ≤ 20000) (by omega) hsu (fun w _ a ha => tpF_bd ok hgr ha) w.2.1
              refine ev_nil (hK22 _ ?_); clear hK22
              refine good_seq fun K26 hK26 => ?_
              refine good_condT rfl ?_
              refine good_skip (hK26 _ ?_); clear hK26
              refine good_seq fun K27 hK27 => ?_
              refine good_block ?_
              refine good_seq fun K28 hK28 => ?_
              refine good_region rfl ?_
              refine ev_q rfl (q_idxO tE91 rfl rfl rfl (by omega) (by first | omega | (simp; omega)) rfl ?_)
              refine ev_q rfl (q_loadEA tA94 rfl rfl (by exact wy_get hw) rfl rfl ?_)
              refine ev_k rfl (k_alloc zA94 rfl ?_)
              refine ev_k rfl (k_store sz94 rfl (by conv => lhs; whnf) rfl rfl rfl (Nat.le_of_ble_eq_true rfl) rfl ?_)
              refine ev_nil (hK28 _ ?_); clear hK28
              refine good_seq fun K29 hK29 => ?_
              refine good_region rfl ?_
              refine ev_q rfl (q_move (by conv => lhs; whnf) ?_)
              refine ev_q rfl (q_fieldAddrP fO94_0 rfl rfl ?_)
              refine ev_q rfl (q_load tA2 rfl ?_)
              refine ev_q rfl (q_move (by conv => lhs; whnf) ?_)
              refine ev_q rfl (q_idxO tE22 rfl rfl rfl (by omega) (by first | omega | (simp; omega)) rfl ?_)
              refine ev_k rfl (k_storeE sz2 rfl (by conv => lhs; whnf) rfl rfl rfl (Nat.le_of_ble_eq_true rfl) rfl (by exact getG (by omega)) (Nat.le_of_ble_eq_true rfl) rfl ?_)
              refine ev_nil (hK29 _ ?_); clear hK29
              refine good_seq fun K30 hK30 => ?_
              refine good_region rfl ?_
              refine ev_q rfl (q_loadA tA94 rfl rfl rfl ?_)
              refine ev_q rfl (q_loadA tA31 rfl rfl rfl ?_)
              refine ev_q rfl (q_move (by conv => lhs; whnf) ?_)
              refine ev_q rfl (q_callI rfl rfl (rfl) (D_impl_way_along ns ps fl w p l (by omega) hpp hl hlb) ?_)
              intro n31 hn31
              refine ev_q rfl (q_assign (by conv => lhs; whnf) ?_)
              refine ev_nil (hK30 _ ?_); clear hK30
              refine good_seq fun K32 hK32 => ?_
              refine good_region rfl ?_
              refine ev_q rfl (q_move (by conv => lhs; whnf) ?_)
              refine ev_q rfl (q_int rfl rfl ?_)
              intro b33 hb33; cases b33
              · replace hb33 := dF hb33
                have hpf := tpF_F (fl := fl) (gr := gr) (a := (wyR (tpF ps fl gr) (ps.map pe) ns.length s.toNat su m).getD w.2.1 0) hpp (by omega)
                rw [hpf] at hst
                have hS : ((wyR (tpF ps fl gr) (ps.map pe) ns.length s.toNat su m).map ci).set w.1 (ci gr) = (wyR (tpF ps fl gr) (ps.map pe) ns.length s.toNat su (m + 1)).map ci := by rw [mapSet, hst]
                refine ev_nil (hK32 _ ?_); clear hK32
                refine good_condF rfl ?_
                refine good_skip (hK27 _ ?_); clear hK27
                refine good_region rfl ?_
                refine ev_q rfl (q_int rfl rfl ?_)
                intro n34 hn34
                replace hn34 := in64 hn34 (by omega) (by omega)
                refine ev_q rfl (q_move (by conv => lhs; whnf) ?_)
                refine ev_nil ?_
                clear hK19
                refine ⟨m + 1, ?_, ?_, ?_⟩
                · show _ ≤ _; omega
                · first | omega | (simp only []; omega) | (dsimp only; omega)
                · refine sub_weak ?_ ?_
                  · exact weakH_box (boxEq (rfl)) rfl (weakH_row (rowEq (rfl)) (weakH_row (rowEq (by exact hS)) (weakH_none _)))
                  · refine weakE_upd ?e49 ?r49 (weakE_upd ?e48 ?r48 (weakE_upd ?e47 ?r47 (weakE_upd ?e13 ?r13 (weakE_upd ?e5 ?r5 (weakE_upd ?e4 ?r4 (weakE_upd ?e2 ?r2 (weakE_junk _ _)))))))
                    case e2 => first | rfl | exact fI (by omega) | (simp_all)
                    case r2 => intro h hh; cases hh
                    case e4 => first | rfl | exact fI (by omega) | (simp_all)
                    case r4 => intro h hh; cases hh
                    case e5 => first | rfl | exact fI (by omega) | (simp_all)
                    case r5 => intro h hh; simp [refs] at hh; subst hh; rfl
                    case e13 => first | rfl | exact fI (by omega) | (simp_all)
                    case r13 => intro h hh; simp [refs] at hh; subst hh; rfl
                    case e47 => first | rfl | exact fI (by omega) | (simp_all)
                    case r47 => intro h hh; simp [refs] at hh; subst hh; rfl
                    case e48 => first | rfl | exact fI (by omega) | (simp_all)
                    case r48 => intro h hh; cases hh
                    case e49 => first | rfl | exact fI (by omega) | (simp_all)
                    case r49 => intro h hh; cases hh
              · replace hb33 := dT hb33
                have hpf := tpF_T (fl := fl) (gr := gr) (a := (wyR (tpF ps fl gr) (ps.map pe) ns.length s.toNat su m).getD w.2.1 0) hpp (by omega)
                rw [hpf] at hst
                refine ev_nil (hK32 _ ?_); clear hK32
                refine good_condT rfl ?_
                refine good_draw 18 hmix (by kernel_rfl) rfl ?_
                refine qo_q rfl (q_move (by conv => lhs; whnf) ?_)
                refine qo_q rfl (q_fieldAddrP fO94_0 rfl rfl ?_)
                refine qo_q rfl (q_load tA2 rfl ?_)
                refine qo_q rfl (q_fieldAddrP fO31_1 rfl rfl ?_)
                refine qo_q rfl (q_load tA29 rfl ?_)
                refine qo_q rfl (q_fieldAddrP fO94_2 rfl rfl ?_)
                refine qo_q rfl (q_load tA3 rfl ?_)
                refine qo_q rfl (q_idx tE29 rfl rfl (by omega) (by exact map_get hpp) rfl ?_)
                refine qo_q rfl (q_loadA tA59 rfl rfl rfl ?_)
                refine qo_q rfl (q_move (by conv => lhs; whnf) ?_)
                refine qo_q rfl (q_move (by conv => lhs; whnf) ?_)
                refine qo_q rfl (q_fieldAddrP fO94_1 rfl rfl ?_)
                refine qo_q rfl (q_load tA2 rfl ?_)
                refine qo_q rfl (q_idxO tE22 rfl rfl rfl (by omega) (by first | omega | (simp; omega)) rfl ?_)
                refine qo_q rfl (q_loadE tA2 rfl rfl (by exact getS (v := w.2.1) (a := w.1) (by omega) hwn) rfl ?_)
                refine qo_q rfl (q_move (by conv => lhs; whnf) ?_)
                refine qo_q rfl (q_callI rfl rfl (rfl) (D_impl_Pipe_endTemperature _ _ _ _ _ _ _ _ _ hp6 hp4 htb hgr (by omega)) ?_)
                intro n35 hn35
                have hS : (((wyR (tpF ps fl gr) (ps.map pe) ns.length s.toNat su m).map ci).set w.1 (ci gr)).set w.1 (ci n35) = (wyR (tpF ps fl gr) (ps.map pe) ns.length s.toNat su (m + 1)).map ci := by rw [hn35, hn31, List.set_set, mapSet, hst]
                refine qo_q rfl (q_idxO tE22 rfl rfl rfl (by omega) (by first | omega | (simp; omega)) rfl ?_)
                refine qo_nil ?_
                refine ev_k rfl (k_storeE sz2 rfl (by conv => lhs; whnf) rfl rfl rfl (Nat.le_of_ble_eq_true rfl) rfl (by exact getM (by simp; omega)) (Nat.le_of_ble_eq_true rfl) rfl ?_)
                refine ev_nil (hK27 _ ?_); clear hK27
                refine good_region rfl ?_
                refine ev_q rfl (q_int rfl rfl ?_)
                intro n36 hn36
                replace hn36 := in64 hn36 (by omega) (by omega)
                refine ev_q rfl (q_move (by conv => lhs; whnf) ?_)
                refine ev_nil ?_
                clear hK19
                refine ⟨m + 1, ?_, ?_, ?_⟩
                · show _ ≤ _; omega
                · first | omega | (simp only []; omega) | (dsimp only; omega)
                · refine sub_weak ?_ ?_
                  · exact weakH_box (boxEq (rfl)) rfl (weakH_row (rowEq (rfl)) (weakH_row (rowEq (by exact hS)) (weakH_none _)))
                  · refine weakE_upd ?e49 ?r49 (weakE_upd ?e48 ?r48 (weakE_upd ?e47 ?r47 (weakE_upd ?e13 ?r13 (weakE_upd ?e5 ?r5 (weakE_upd ?e4 ?r4 (weakE_upd ?e2 ?r2 (weakE_junk _ _)))))))
                    case e2 => first | rfl | exact fI (by omega) | (simp_all)
                    case r2 => intro h hh; cases hh
                    case e4 => first | rfl | exact fI (by omega) | (simp_all)
                    case r4 => intro h hh; cases hh
                    case e5 => first | rfl | exact fI (by omega) | (simp_all)
                    case r5 => intro h hh; simp [refs] at hh; subst hh; rfl
                    case e13 => first | rfl | exact fI (by omega) | (simp_all)
                    case r13 => intro h hh; simp [refs] at hh; subst hh; rfl
                    case e47 => first | rfl | exact fI (by omega) | (simp_all)
                    case r47 => intro h hh; simp [refs] at hh; subst hh; rfl
                    case e48 => first | rfl | exact fI (by omega) | (simp_all)
                    case r48 => intro h hh; cases hh
                    case e49 => first | rfl | exact fI (by omega) | (simp_all)
                    case r49 => intro h hh; cases hh
        · replace hb15 := neT hb15
          have hn3 := nt_3 (su := su) (gr := gr) (by assumption) (by omega) hn13 (by omega)
          refine ev_nil (hK14 _ ?_); clear hK14
          refine good_condT rfl ?_
          refine good_seq fun K37 hK37 => ?_
          refine good_region rfl ?_
          refine ev_q rfl (q_move (by conv => lhs; whnf) ?_)
          refine ev_q rfl (q_assign (by conv => lhs; whnf) ?_)
          refine ev_q rfl (q_assign (by conv => lhs; whnf) ?_)
          refine ev_nil (hK37 _ ?_); clear hK37
          refine good_ret ?_
          repeat (first | refine thenQ_ret ?_ | refine blockQ_ret ?_)
          refine fx_many rfl ?_
          refine fxs_tmp (by conv => lhs; whnf) ?_
          refine fxs_tmp (by conv => lhs; whnf) ?_
          refine fx_nil ?_
          clear hK11
          obtain ⟨e2, e⟩ := (by first | exact hn0 | exact hn3 | exact nt_2 (s := s) (fl := fl) (su := su) (gr := gr) (by assumption) (by omega) | exact nt_1 (by assumption) : ntC ns ps s fl su gr = _ ∧ ntR ns ps s fl su gr = _)
          have hwl2 := wyR_len (f := tpF ps fl gr) (es := (ps.map pe)) (n := ns.length) (s := s.toNat) (x := su) (m := (waysF (ps.map pe) ns.length s.toNat).2.length)
          try (have em : (waysF (ps.map pe) ns.length s.toNat).2.length = m := by omega)
          try (rw [em] at e hwl2)
          exact ⟨_, .tup (.cons (conv_nil rfl (by decide) (by rw [e]; rfl)) (.cons (conv_eq (by first | rfl | exact fI (by omega) | (exfalso; first | omega | grind))) (.nil))), weakH_row (rowEq (by first | (rw [e]; done) | (rw [e]; rfl))) (weakH_none _), refsIn_ok rfl⟩
theorem D_impl_NodeTemperatures (ns : List Int) (ps : List Pi) (s : Int) (fl : List Int) (su gr : Int) (hn : ns.length ≤ 17592186044416) (hp : ps.length ≤ 2513169434843) (hz : idSz ps) (hf : fl.length ≤ 17592186044416) : Den Try.prog 12 [.agg [.lst 1 (ns.map ci), .lst 6 (ps.map piA)], .s (.int .i64 s), .lst 1 (fl.map ci), .s (.int .i64 su), .s (.int .i64 gr)] (.tup [.lst 1 ((ntR ns ps s fl su gr).map ci), .s (.int .i64 (ntC ns ps s fl su gr))]) :=
  den_of_denX (D_impl_NodeTemperatures_X ns ps s fl su gr hn hp hz hf) (by change (some (.tup [.lst 1 (List.take (ntR ns ps s fl su gr).length ((ntR ns ps s fl su gr).map ci)), .s (.int .i64 (ntC ns ps s fl su gr))]) : Option AV) = some (.tup [.lst 1 ((ntR ns ps s fl su gr).map ci), .s (.int .i64 (ntC ns ps s fl su gr))]); simp only [takeMap])

-- laws.markInt64S
set_option maxRecDepth 20000 in
set_option maxHeartbeats 2000000 in
theorem D_laws_markInt64S (xs : List Int) (k : Int) (hx : xs.length ≤ 17592186044416) (hk : 0 ≤ k ∧ k ≤ 1000000000000000) : DenX Try.prog 16 [(1000000, .row 2 1 (xs.map ci))] [.own 1000000 xs.length, .s (.int .i64 k)] [(1000000, .row 2 1 (mkC k xs xs.length))] (.s (.int .i64 (k + xs.length))) := by
  refine denX_of_good Try.func16 (by decide) rfl (Nat.le_of_ble_eq_true rfl) (Nat.le_of_ble_eq_true rfl) rfl ?_
  refine good_seq fun K1 hK1 => ?_
  refine good_region rfl ?_
  refine ev_q rfl (q_assign (by conv => lhs; whnf) ?_)
  refine ev_nil (hK1 _ ?_); clear hK1
  refine good_seq fun K2 hK2 => ?_
  refine good_seq fun K3 hK3 => ?_
  refine good_region rfl ?_
  refine ev_q rfl (q_assign (by conv => lhs; whnf) ?_)
  refine ev_nil (hK3 _ ?_); clear hK3
  refine good_block ?_
  refine good_loop (α := Nat) (fun i => { env := upd (upd (upd ((fun _ => .junk)) 0 (.own 1000000 xs.length)) 1 (.s (.int .i64 (k + i)))) 5 (.s (.int .i64 i)), H := upd ((fun _ => none)) 1000000 (some (.row 2 1 (mkC k xs i))) }) (fun i => i ≤ xs.length) (fun i => xs.length - i) 0 ?_ ?_ ?_
  · show 0 ≤ _; omega
  · refine sub_weak ?_ ?_
    · exact weakH_row (rowEq (mkC0.symm)) (weakH_none _)
    · refine weakE_upd ?e5 ?r5 (weakE_upd ?e1 ?r1 (weakE_upd ?e0 ?r0 (weakE_junk _ _)))
      case e0 => first | rfl | exact fI (by omega) | (simp_all)
      case r0 => intro h hh; simp [refs] at hh; subst hh; rfl
      case e1 => first | rfl | exact fI (by omega) | (simp_all)
      case r1 => intro h hh; cases hh
      case e5 => first | rfl | exact fI (by omega) | (simp_all)
      case r5 => intro h hh; cases hh
  · rintro i hI
    refine good_seq fun K4 hK4 => ?_
    refine good_seq fun K5 hK5 => ?_
    refine good_region rfl ?_
    refine ev_q rfl (q_move (by conv => lhs; whnf) ?_)
    refine ev_q rfl (q_move (by conv => lhs; whnf) ?_)
    refine ev_q rfl (q_len tEs22 rfl ?_)
    intro n6 hn6
    try simp only [List.length_map] at hn6
    refine ev_q rfl (q_int rfl rfl ?_)
    intro b7 hb7; cases b7
    · replace hb7 := dF hb7
      refine ev_nil (hK5 _ ?_); clear hK5
      refine good_condF rfl ?_
      refine good_exit ?_
      repeat (first | refine thenQ_exit ?_ | refine blockQ_pass rfl ?_)
      refine blockQ_exit (hK2 _ ?_); clear hK2
      refine good_seq fun K8 hK8 => ?_
      refine good_region rfl ?_
      refine ev_q rfl (q_move (by conv => lhs; whnf) ?_)
      refine ev_q rfl (q_assign (by conv => lhs; whnf) ?_)
      refine ev_nil (hK8 _ ?_); clear hK8
      refine good_ret ?_
      repeat (first | refine thenQ_ret ?_ | refine blockQ_ret ?_)
      refine fx_tmp rfl (by conv => lhs; whnf) ?_
      clear hK4
      exact ⟨_, conv_eq (by first | rfl | exact fI (by first | omega | grind) | (exfalso; first | omega | grind)), weakH_row (rowEq (by rw [show i = xs.length by omega])) (weakH_none _), refsIn_ok rfl⟩
    · replace hb7 := dT hb7
      obtain ⟨p, hp⟩ := getL (xs := xs) (n := (i : Int)) (by omega) (by omega)
      refine ev_nil (hK5 _ ?_); clear hK5
      refine good_condT rfl ?_
      refine good_skip (hK4 _ ?_); clear hK4
      refine good_seq fun K9 hK9 => ?_
      refine good_block ?_
      refine good_seq fun K10 hK10 => ?_
      refine good_region rfl ?_
      refine ev_q rfl (q_move (by conv => lhs; whnf) ?_)
      refine ev_q rfl (q_move (by conv => lhs; whnf) ?_)
      refine ev_q rfl (q_move (by conv => lhs; whnf) ?_)
      refine ev_q rfl (q_idxO tE22 rfl rfl rfl (by exact Int.natCast_nonneg _) (by omega) rfl ?_)
      refine ev_k rfl (k_storeE sz2 rfl (by conv => lhs; whnf) rfl rfl rfl (Nat.le_of_ble_eq_true rfl) rfl (by exact mkC_get hp) (Nat.le_of_ble_eq_true rfl) rfl ?_)
      refine ev_nil (hK10 _ ?_); clear hK10
      refine good_region rfl ?_
      refine ev_q rfl (q_move (by conv => lhs; whnf) ?_)
      refine ev_q rfl (q_int rfl rfl ?_)
      intro n11 hn11
      replace hn11 := in64 hn11 (by omega) (by omega)
      refine ev_q rfl (q_assign (by conv => lhs; whnf) ?_)
      refine ev_nil (hK9 _ ?_); clear hK9
      refine good_region rfl ?_
      refine ev_q rfl (q_move (by conv => lhs; whnf) ?_)
      refine ev_q rfl (q_int rfl rfl ?_)
      intro n12 hn12
      replace hn12 := in64 hn12 (by omega) (by omega)
      refine ev_q rfl (q_assign (by conv => lhs; whnf) ?_)
      refine ev_nil ?_
      clear hK2
      refine ⟨i + 1, ?_, ?_, ?_⟩
      · show _ ≤ _; omega
      · first | omega | (simp only []; omega) | (dsimp only; omega)
      · refine sub_weak ?_ ?_
        · exact weakH_row (rowEq (mkC_set (by omega))) (weakH_none _)
        · refine weakE_upd ?e5 ?r5 (weakE_upd ?e1 ?r1 (weakE_upd ?e0 ?r0 (weakE_junk _ _)))
          case e0 => first | rfl | exact fI (by omega) | (simp_all)
          case r0 => intro h hh; simp [refs] at hh; subst hh; rfl
          case e1 => first | rfl | exact fI (by omega) | (simp_all)
          case r1 => intro h hh; cases hh
          case e5 => first | rfl | exact fI (by omega) | (simp_all)
          case r5 => intro h hh; cases hh

-- laws.heldInt64S
set_option maxRecDepth 20000 in
set_option maxHeartbeats 2000000 in
theorem D_laws_heldInt64S (xs : List Int) (k : Int) (hx : xs.length ≤ 17592186044416) (hk : 0 ≤ k ∧ k ≤ 1000000000000000) : Den Try.prog 17 [.lst 1 (mkC k xs xs.length), .s (.int .i64 k)] (.s (.int .i64 (k + xs.length))) := by
  have hl := mkC_len (k := k) (xs := xs) (Nat.le_refl _)
  refine den_of_good Try.func17 (by decide) rfl (Nat.le_of_ble_eq_true rfl) (Nat.le_of_ble_eq_true rfl) ?_
  refine good_seq fun K1 hK1 => ?_
  refine good_region rfl ?_
  refine ev_q rfl (q_assign (by conv => lhs; whnf) ?_)
  refine ev_nil (hK1 _ ?_); clear hK1
  refine good_seq fun K2 hK2 => ?_
  refine good_seq fun K3 hK3 => ?_
  refine good_region rfl ?_
  refine ev_q rfl (q_assign (by conv => lhs; whnf) ?_)
  refine ev_nil (hK3 _ ?_); clear hK3
  refine good_block ?_
  refine good_loop (α := Nat) (fun i => { env := upd (upd (upd ((fun _ => .junk)) 0 (.lst 1 (mkC k xs xs.length))) 1 (.s (.int .i64 (k + i)))) 5 (.s (.int .i64 i)), H := fun _ => none }) (fun i => i ≤ xs.length) (fun i => xs.length - i) 0 ?_ ?_ ?_
  · show 0 ≤ _; omega
  · refine sub_weak ?_ ?_
    · exact weakH_none _
    · refine weakE_upd ?e5 ?r5 (weakE_upd ?e1 ?r1 (weakE_upd ?e0 ?r0 (weakE_junk _ _)))
      case e0 => first | rfl | exact fI (by omega) | (simp_all)
      case r0 => intro h hh; cases hh
      case e1 => first | rfl | exact fI (by omega) | (simp_all)
      case r1 => intro h hh; cases hh
      case e5 => first | rfl | exact fI (by omega) | (simp_all)
      case r5 => intro h hh; cases hh
  · rintro i hI
    refine good_seq fun K4 hK4 => ?_
    refine good_seq fun K5 hK5 => ?_
    refine good_region rfl ?_
    refine ev_q rfl (q_move (by conv => lhs; whnf) ?_)
    refine ev_q rfl (q_move (by conv => lhs; whnf) ?_)
    refine ev_q rfl (q_len tEs22 rfl ?_)
    intro n6 hn6
    try simp only [List.length_map] at hn6
    refine ev_q rfl (q_int rfl rfl ?_)
    intro b7 hb7; cases b7
    · replace hb7 := dF hb7
      refine ev_nil (hK5 _ ?_); clear hK5
      refine good_condF rfl ?_
      refine good_exit ?_
      repeat (first | refine thenQ_exit ?_ | refine blockQ_pass rfl ?_)
      refine blockQ_exit (hK2 _ ?_); clear hK2
      refine good_seq fun K8 hK8 => ?_
      refine good_region rfl ?_
      refine ev_q rfl (q_move (by conv => lhs; whnf) ?_)
      refine ev_q rfl (q_assign (by conv => lhs; whnf) ?_)
      refine ev_nil (hK8 _ ?_); clear hK8
      refine good_ret ?_
      repeat (first | refine thenQ_ret ?_ | refine blockQ_ret ?_)
      refine ret_tmp (st := _) rfl (by conv => lhs; whnf) rfl ?_
      clear hK4
      first | rfl | exact fI (by first | omega | grind) | (exfalso; first | omega | grind)
    · replace hb7 := dT hb7
      refine ev_nil (hK5 _ ?_); clear hK5
      refine good_condT rfl ?_
      refine good_skip (hK4 _ ?_); clear hK4
      refine good_seq fun K9 hK9 => ?_
      refine good_block ?_
      refine good_seq fun K10 hK10 => ?_
      refine good_seq fun K11 hK11 => ?_
      refine good_region rfl ?_
      refine ev_q rfl (q_move (by conv => lhs; whnf) ?_)
      refine ev_q rfl (q_move (by conv => lhs; whnf) ?_)
      refine ev_q rfl (q_idx tE22 rfl rfl (by exact Int.natCast_nonneg _) (by exact mkC_held (by omega)) rfl ?_)
      refine ev_q rfl (q_load tA2 rfl ?_)
      refine ev_q rfl (q_move (by conv => lhs; whnf) ?_)
      refine ev_q rfl (q_int rfl rfl ?_)
      intro b12 hb12; cases b12
      · replace hb12 := neF hb12
        refine ev_nil (hK11 _ ?_); clear hK11
        refine good_condF rfl ?_
        refine good_skip (hK10 _ ?_); clear hK10
        refine good_region rfl ?_
        refine ev_q rfl (q_move (by conv => lhs; whnf) ?_)
        refine ev_q rfl (q_int rfl rfl ?_)
        intro n13 hn13
        replace hn13 := in64 hn13 (by omega) (by omega)
        refine ev_q rfl (q_assign (by conv => lhs; whnf) ?_)
        refine ev_nil (hK9 _ ?_); clear hK9
        refine good_region rfl ?_
        refine ev_q rfl (q_move (by conv => lhs; whnf) ?_)
        refine ev_q rfl (q_int rfl rfl ?_)
        intro n14 hn14
        replace hn14 := in64 hn14 (by omega) (by omega)
        refine ev_q rfl (q_assign (by conv => lhs; whnf) ?_)
        refine ev_nil ?_
        clear hK2
        refine ⟨i + 1, ?_, ?_, ?_⟩
        · show _ ≤ _; omega
        · first | omega | (simp only []; omega) | (dsimp only; omega)
        · refine sub_weak ?_ ?_
          · exact weakH_none _
          · refine weakE_upd ?e5 ?r5 (weakE_upd ?e1 ?r1 (weakE_upd ?e0 ?r0 (weakE_junk _ _)))
            case e0 => first | rfl | exact fI (by omega) | (simp_all)
            case r0 => intro h hh; cases hh
            case e1 => first | rfl | exact fI (by omega) | (simp_all)
            case r1 => intro h hh; cases hh
            case e5 => first | rfl | exact fI (by omega) | (simp_all)
            case r5 => intro h hh; cases hh
      · replace hb12 := neT hb12
        refine ev_nil (hK11 _ ?_); clear hK11
        refine good_condT rfl ?_
        refine good_seq fun K15 hK15 => ?_
        refine good_region rfl ?_
        refine ev_q rfl (q_assign (by conv => lhs; whnf) ?_)
        refine ev_nil (hK15 _ ?_); clear hK15
        refine good_ret ?_
        repeat (first | refine thenQ_ret ?_ | refine blockQ_ret ?_)
        refine ret_tmp (st := _) rfl (by conv => lhs; whnf) rfl ?_
        clear hK2 hK9 hK10
        first | rfl | exact fI (by first | omega | grind) | (exfalso; first | omega | grind)

-- laws.markText
set_option maxRecDepth 20000 in
set_option maxHeartbeats 2000000 in
theorem D_laws_markText (k : Int) (hk : k ≤ 100000000000000) : Den Try.prog 130 [.s (.int .i64 k)] (.s (.string (mkT k))) := by
  refine den_of_good Try.func130 (by decide) rfl (Nat.le_of_ble_eq_true rfl) (Nat.le_of_ble_eq_true rfl) ?_
  refine good_seq fun K1 hK1 => ?_
  refine good_region rfl ?_
  refine ev_q rfl (q_assign (by conv => lhs; whnf) ?_)
  refine ev_nil (hK1 _ ?_); clear hK1
  refine good_seq fun K2 hK2 => ?_
  refine good_seq fun K3 hK3 => ?_
  refine good_region rfl ?_
  refine ev_q rfl (q_move (by conv => lhs; whnf) ?_)
  refine ev_q rfl (q_int rfl rfl ?_)
  intro b4 hb4; cases b4
  · replace hb4 := dF hb4
    refine ev_nil (hK3 _ ?_); clear hK3
    refine good_condF rfl ?_
    refine good_skip (hK2 _ ?_); clear hK2
    refine good_seq fun K5 hK5 => ?_
    refine good_region rfl ?_
    refine ev_q rfl (q_assign (by conv => lhs; whnf) ?_)
    refine ev_nil (hK5 _ ?_); clear hK5
    refine good_seq fun K6 hK6 => ?_
    refine good_block ?_
    refine good_loop (α := Nat × ByteArray) (fun (n, o) => { env := upd (upd ((fun _ => .junk)) 0 (.s (.int .i64 ((n : Int))))) 3 (.s (.string o)), H := fun _ => none }) (fun (n, o) => mkD n o = mkD k.toNat ⟨#[]⟩ ∧ (o.size : Int) + n ≤ k) (fun (n, o) => n) (k.toNat, ⟨#[]⟩) ?_ ?_ ?_
    · exact ⟨rfl, by show ((0 : Nat) : Int) + _ ≤ _; omega⟩
    · refine sub_weak ?_ ?_
      · exact weakH_none _
      · refine weakE_upd ?e3 ?r3 (weakE_upd ?e0 ?r0 (weakE_junk _ _))
        case e0 => first | rfl | exact fI (by omega) | (exact fI (by omega))
        case r0 => intro h hh; cases hh
        case e3 => first | rfl | exact fI (by omega) | (rfl)
        case r3 => intro h hh; cases hh
    · rintro ⟨n, o⟩ ⟨hI, hJ⟩
      refine good_seq fun K7 hK7 => ?_
      refine good_seq fun K8 hK8 => ?_
      refine good_region rfl ?_
      refine ev_q rfl (q_move (by conv => lhs; whnf) ?_)
      refine ev_q rfl (q_int rfl rfl ?_)
      intro b9 hb9; cases b9
      · replace hb9 := dF hb9
        refine ev_nil (hK8 _ ?_); clear hK8
        refine good_condF rfl ?_
        refine good_exit ?_
        repeat (first | refine thenQ_exit ?_ | refine blockQ_pass rfl ?_)
        refine blockQ_exit (hK6 _ ?_); clear hK6
        refine good_seq fun K10 hK10 => ?_
        refine good_region rfl ?_
        refine ev_q rfl (q_move (by conv => lhs; whnf) ?_)
        refine ev_q rfl (q_str rfl rfl ⟨by have : (⟨#[109]⟩ : ByteArray).size = 1 := rfl; omega, ?_⟩)
        intro s11 hs11
        refine ev_q rfl (q_assign (by conv => lhs; whnf) ?_)
        refine ev_nil (hK10 _ ?_); clear hK10
        refine good_ret ?_
        repeat (first | refine thenQ_ret ?_ | refine blockQ_ret ?_)
        refine ret_tmp (st := _) rfl (by conv => lhs; whnf) rfl ?_
        clear hK7
        first | exact congrArg (fun s => AV.s (Value.string s)) (mkT0 (k := k) (by omega)).symm | (have e := mkT1 (k := k) (by omega); rw [mkD_end (by omega)] at hI; rw [e, ← hI]; simp_all)
      · replace hb9 := dT hb9
        refine ev_nil (hK8 _ ?_); clear hK8
        refine good_condT rfl ?_
        refine good_skip (hK7 _ ?_); clear hK7
        refine good_block ?_
        refine good_seq fun K12 hK12 => ?_
        refine good_region rfl ?_
        refine ev_q rfl (q_move (by conv => lhs; whnf) ?_)
        refine ev_q rfl (q_int rfl rfl ⟨by omega, ?_⟩)
        intro n13 hn13
        first | replace hn13 := remE hn13 (by omega) | skip
        refine ev_q rfl (q_int rfl rfl ?_)
        intro n14 hn14
        replace hn14 := in64 hn14 (by omega) (by omega)
        refine ev_q rfl (q_conv tK3 tK5 rfl ?_)
        intro n15 hn15
        replace hn15 := wrap8 hn15 (by omega) (by omega)
        refine ev_k rfl (k_lit tE39 zA5 rfl rfl (by decide) (by decide) rfl rfl rfl ?_)
        refine ev_q rfl (q_txtO tByS39 tStr9 rfl rfl (by rfl) ?_)
        intro s16 hs16
        refine ev_q rfl (q_move (by conv => lhs; whnf) ?_)
        refine ev_q rfl (q_str rfl rfl ⟨by have := congrArg ByteArray.size hs16; rw [strOfNums_size] at this; simp at this; omega, ?_⟩)
        intro s17 hs17
        refine ev_q rfl (q_assign (by conv => lhs; whnf) ?_)
        refine ev_nil (hK12 _ ?_); clear hK12
        refine good_region rfl ?_
        refine ev_q rfl (q_move (by conv => lhs; whnf) ?_)
        refine ev_q rfl (q_int rfl rfl ⟨by omega, ?_⟩)
        intro n18 hn18
        first | replace hn18 := quoE hn18 (by omega) (by omega) | replace hn18 := quoT hn18 (by omega) (by omega)
        refine ev_q rfl (q_assign (by conv => lhs; whnf) ?_)
        refine ev_nil ?_
        clear hK6
        refine ⟨(n18.toNat, s17), ?_, ?_, ?_⟩
        · have e15 : s17 = strOfNums [n15] ++ o := by rw [hs17, hs16]
          have hz := str1_size e15
          exact ⟨(mkD_step (by omega) (by omega) (by omega) e15).trans hI, by first | omega | (dsimp only; omega)⟩
        · first | omega | (dsimp only; omega)
        · refine sub_weak ?_ ?_
          · exact weakH_none _
          · refine weakE_upd ?e3 ?r3 (weakE_upd ?e0 ?r0 (weakE_junk _ _))
            case e0 => first | rfl | exact fI (by omega) | (exact fI (by omega))
            case r0 => intro h hh; cases hh
            case e3 => first | rfl | exact fI (by omega) | (rfl)
            case r3 => intro h hh; cases hh
  · replace hb4 := dT hb4
    refine ev_nil (hK3 _ ?_); clear hK3
    refine good_condT rfl ?_
    refine good_seq fun K19 hK19 => ?_
    refine good_region rfl ?_
    refine ev_q rfl (q_assign (by conv => lhs; whnf) ?_)
    refine ev_nil (hK19 _ ?_); clear hK19
    refine good_ret ?_
    repeat (first | refine thenQ_ret ?_ | refine blockQ_ret ?_)
    refine ret_tmp (st := _) rfl (by conv => lhs; whnf) rfl ?_
    clear hK2
    first | exact congrArg (fun s => AV.s (Value.string s)) (mkT0 (k := k) (by omega)).symm | (have e := mkT1 (k := k) (by omega); rw [mkD_end (by omega)] at hI; rw [e, ← hI]; simp_all)

-- laws.toNetwork
set_option maxRecDepth 20000 in
set_option maxHeartbeats 2000000 in
theorem D_laws_toNetwork_X (ns : List Int) (ps : List Pi) (hn : ns.length ≤ 17592186044416) (hp : ps.length ≤ 2513169434843) : DenX Try.prog 10 [] [.agg [.lst 1 (ns.map ci), .lst 6 (ps.map piA)]] [(900001, .row 2 1 (ns.map ci)), (900002, .row 59 6 (ps.map piA))] (.agg [.own 900001 ns.length, .own 900002 ps.length]) := by
  refine denX_of_good Try.func10 (by decide) rfl (Nat.le_of_ble_eq_true rfl) (Nat.le_of_ble_eq_true rfl) rfl ?_
  refine good_seq fun K1 hK1 => ?_
  refine good_region rfl ?_
  refine ev_k rfl (k_box (by conv => lhs; whnf) rfl rfl rfl ?_)
  refine ev_k rfl (k_alloc zA31 rfl ?_)
  refine ev_nil (hK1 _ ?_); clear hK1
  refine good_seq fun K2 hK2 => ?_
  refine good_region rfl ?_
  refine ev_k rfl (k_alloc zA31 rfl ?_)
  refine ev_nil (hK2 _ ?_); clear hK2
  refine good_seq fun K3 hK3 => ?_
  refine good_region rfl ?_
  refine ev_q rfl (q_fieldAddrP fO25_0 rfl rfl ?_)
  refine ev_q rfl (q_load tA22 rfl ?_)
  refine ev_k rfl (k_callX [(7, 900001)] (D_laws_toInt64S_X _ hn) rfl (rfl) (rfl) trivial ⟨⟨rfl, show (900001 : Nat) < 1000000 by decide⟩, trivial⟩ rfl rfl rfl ?_)
  refine ev_q rfl (q_fieldAddrP fO31_0 rfl rfl ?_)
  refine ev_k rfl (k_store sz22 rfl (by conv => lhs; whnf) rfl rfl rfl (Nat.le_of_ble_eq_true rfl) rfl ?_)
  refine ev_nil (hK3 _ ?_); clear hK3
  refine good_seq fun K4 hK4 => ?_
  refine good_region rfl ?_
  refine ev_q rfl (q_fieldAddrP fO25_1 rfl rfl ?_)
  refine ev_q rfl (q_load tA23 rfl ?_)
  refine ev_k rfl (k_callX [(7, 900002)] (D_laws_toPipeS_X _ hp) rfl (rfl) (rfl) trivial ⟨⟨rfl, show (900002 : Nat) < 1000000 by decide⟩, trivial⟩ rfl rfl rfl ?_)
  refine ev_q rfl (q_fieldAddrP fO31_1 rfl rfl ?_)
  refine ev_k rfl (k_store sz29 rfl (by conv => lhs; whnf) rfl rfl rfl (Nat.le_of_ble_eq_true rfl) rfl ?_)
  refine ev_nil (hK4 _ ?_); clear hK4
  refine good_seq fun K5 hK5 => ?_
  refine good_region rfl ?_
  refine ev_q rfl (q_loadA tA31 rfl rfl rfl ?_)
  refine ev_k rfl (k_store sz31 rfl (by conv => lhs; whnf) rfl rfl rfl (Nat.le_of_ble_eq_true rfl) rfl ?_)
  refine ev_nil (hK5 _ ?_); clear hK5
  refine good_ret ?_
  repeat (first | refine thenQ_ret ?_ | refine blockQ_ret ?_)
  refine fx_cell rfl tA31 rfl rfl rfl ?_
  exact ⟨_, conv_eq (by first | rfl | exact fAgg1 (by first | rfl | exact ownEq (by first | done | omega | (simp; done)) | (simp_all; done)) (fAgg1 (by first | rfl | exact ownEq (by first | done | omega | (simp; done)) | (simp_all; done)) (rfl))), weakH_row (rowEq (by first | rfl | (rw [e]; done) | (rw [e]; rfl) | (simp_all; done))) (weakH_row (rowEq (by first | rfl | (rw [e]; done) | (rw [e]; rfl) | (simp_all; done))) (weakH_none _)), refsIn_ok rfl⟩

-- laws.markPipeS
set_option maxRecDepth 20000 in
set_option maxHeartbeats 2000000 in
theorem D_laws_markPipeS (ps : List Pi) (k : Int) (hp : ps.length ≤ 2513169434843) (hk : 0 ≤ k ∧ k ≤ 20000000000000) : DenX Try.prog 64 [(1000000, .row 59 6 (ps.map piA))] [.own 1000000 ps.length, .s (.int .i64 k)] [(1000000, .row 59 6 (mkP k ps ps.length))] (.s (.int .i64 (k + 6 * ps.length))) := by
  refine denX_of_good Try.func64 (by decide) rfl (Nat.le_of_ble_eq_true rfl) (Nat.le_of_ble_eq_true rfl) rfl ?_
  refine good_seq fun K1 hK1 => ?_
  refine good_region rfl ?_
  refine ev_q rfl (q_assign (by conv => lhs; whnf) ?_)
  refine ev_nil (hK1 _ ?_); clear hK1
  refine good_seq fun K2 hK2 => ?_
  refine good_seq fun K3 hK3 => ?_
  refine good_region rfl ?_
  refine ev_q rfl (q_assign (by conv => lhs; whnf) ?_)
  refine ev_nil (hK3 _ ?_); clear hK3
  refine good_block ?_
  refine good_loop (α := Nat) (fun i => { env := upd (upd (upd ((fun _ => .junk)) 0 (.own 1000000 ps.length)) 1 (.s (.int .i64 (k + 6 * i)))) 5 (.s (.int .i64 i)), H := upd ((fun _ => none)) 1000000 (some (.row 59 6 (mkP k ps i))) }) (fun i => i ≤ ps.length) (fun i => ps.length - i) 0 ?_ ?_ ?_
  · show 0 ≤ _; omega
  · refine sub_weak ?_ ?_
    · exact weakH_row (rowEq (mkP0.symm)) (weakH_none _)
    · refine weakE_upd ?e5 ?r5 (weakE_upd ?e1 ?r1 (weakE_upd ?e0 ?r0 (weakE_junk _ _)))
      case e0 => first | rfl | exact fI (by omega) | (simp_all)
      case r0 => intro h hh; simp [refs] at hh; subst hh; rfl
      case e1 => first | rfl | exact fI (by omega) | (simp_all)
      case r1 => intro h hh; cases hh
      case e5 => first | rfl | exact fI (by omega) | (simp_all)
      case r5 => intro h hh; cases hh
  · rintro i hI
    refine good_seq fun K4 hK4 => ?_
    refine good_seq fun K5 hK5 => ?_
    refine good_region rfl ?_
    refine ev_q rfl (q_move (by conv => lhs; whnf) ?_)
    refine ev_q rfl (q_move (by conv => lhs; whnf) ?_)
    refine ev_q rfl (q_len tEs29 rfl ?_)
    intro n6 hn6
    try simp only [List.length_map] at hn6
    refine ev_q rfl (q_int rfl rfl ?_)
    intro b7 hb7; cases b7
    · replace hb7 := dF hb7
      refine ev_nil (hK5 _ ?_); clear hK5
      refine good_condF rfl ?_
      refine good_exit ?_
      repeat (first | refine thenQ_exit ?_ | refine blockQ_pass rfl ?_)
      refine blockQ_exit (hK2 _ ?_); clear hK2
      refine good_seq fun K8 hK8 => ?_
      refine good_region rfl ?_
      refine ev_q rfl (q_move (by conv => lhs; whnf) ?_)
      refine ev_q rfl (q_assign (by conv => lhs; whnf) ?_)
      refine ev_nil (hK8 _ ?_); clear hK8
      refine good_ret ?_
      repeat (first | refine thenQ_ret ?_ | refine blockQ_ret ?_)
      refine fx_tmp rfl (by conv => lhs; whnf) ?_
      clear hK4
      exact ⟨_, conv_eq (by first | rfl | exact fI (by first | omega | grind) | (exfalso; first | omega | grind)), weakH_row (rowEq (by rw [show i = ps.length by omega])) (weakH_none _), refsIn_ok rfl⟩
    · replace hb7 := dT hb7
      obtain ⟨p, hpp⟩ := getL (xs := ps) (n := (i : Int)) (by omega) (by omega)
      replace hpp : ps[i]? = some p := hpp
      refine ev_nil (hK5 _ ?_); clear hK5
      refine good_condT rfl ?_
      refine good_skip (hK4 _ ?_); clear hK4
      refine good_seq fun K9 hK9 => ?_
      refine good_block ?_
      refine good_seq fun K10 hK10 => ?_
      refine good_region rfl ?_
      refine ev_q rfl (q_move (by conv => lhs; whnf) ?_)
      refine ev_q rfl (q_move (by conv => lhs; whnf) ?_)
      refine ev_q rfl (q_move (by conv => lhs; whnf) ?_)
      refine ev_q rfl (q_call rfl rfl (rfl) (D_laws_markText _ (by omega)) rfl ?_)
      refine ev_q rfl (q_idxO tE29 rfl rfl rfl (by exact Int.natCast_nonneg _) (by omega) rfl ?_)
      refine ev_q rfl (q_fieldAddrE fO59_0 rfl rfl ?_)
      refine ev_k rfl (k_storeE sz9 rfl (by conv => lhs; whnf) rfl rfl rfl (Nat.le_of_ble_eq_true rfl) rfl (by first | exact mkP_get hpp | exact setGet (by (try simp only [List.length_set]); rw [mkP_len (by omega)]; omega)) (Nat.le_of_ble_eq_true rfl) rfl ?_)
      refine ev_nil (hK10 _ ?_); clear hK10
      refine good_seq fun K11 hK11 => ?_
      refine good_region rfl ?_
      refine ev_q rfl (q_move (by conv => lhs; whnf) ?_)
      refine ev_q rfl (q_int rfl rfl ?_)
      intro n12 hn12
      replace hn12 := in64 hn12 (by omega) (by omega)
      refine ev_q rfl (q_assign (by conv => lhs; whnf) ?_)
      refine ev_nil (hK11 _ ?_); clear hK11
      refine good_seq fun K13 hK13 => ?_
      refine good_region rfl ?_
      refine ev_q rfl (q_move (by conv => lhs; whnf) ?_)
      refine ev_q rfl (q_move (by conv => lhs; whnf) ?_)
      refine ev_q rfl (q_move (by conv => lhs; whnf) ?_)
      refine ev_q rfl (q_idxO tE29 rfl rfl rfl (by exact Int.natCast_nonneg _) (by omega) rfl ?_)
      refine ev_q rfl (q_fieldAddrE fO59_1 rfl rfl ?_)
      refine ev_k rfl (k_storeE sz2 rfl (by conv => lhs; whnf) rfl rfl rfl (Nat.le_of_ble_eq_true rfl) rfl (by first | exact mkP_get hpp | exact setGet (by (try simp only [List.length_set]); rw [mkP_len (by omega)]; omega)) (Nat.le_of_ble_eq_true rfl) rfl ?_)
      refine ev_nil (hK13 _ ?_); clear hK13
      refine good_seq fun K14 hK14 => ?_
      refine good_region rfl ?_
      refine ev_q rfl (q_move (by conv => lhs; whnf) ?_)
      refine ev_q rfl (q_int rfl rfl ?_)
      intro n15 hn15
      replace hn15 := in64 hn15 (by omega) (by omega)
      refine ev_q rfl (q_assign (by conv => lhs; whnf) ?_)
      refine ev_nil (hK14 _ ?_); clear hK14
      refine good_seq fun K16 hK16 => ?_
      refine good_region rfl ?_
      refine ev_q rfl (q_move (by conv => lhs; whnf) ?_)
      refine ev_q rfl (q_move (by conv => lhs; whnf) ?_)
      refine ev_q rfl (q_move (by conv => lhs; whnf) ?_)
      refine ev_q rfl (q_idxO tE29 rfl rfl rfl (by exact Int.natCast_nonneg _) (by omega) rfl ?_)
      refine ev_q rfl (q_fieldAddrE fO59_2 rfl rfl ?_)
      refine ev_k rfl (k_storeE sz2 rfl (by conv => lhs; whnf) rfl rfl rfl (Nat.le_of_ble_eq_true rfl) rfl (by first | exact mkP_get hpp | exact setGet (by (try simp only [List.length_set]); rw [mkP_len (by omega)]; omega)) (Nat.le_of_ble_eq_true rfl) rfl ?_)
      refine ev_nil (hK16 _ ?_); clear hK16
      refine good_seq fun K17 hK17 => ?_
      refine good_region rfl ?_
      refine ev_q rfl (q_move (by conv => lhs; whnf) ?_)
      refine ev_q rfl (q_int rfl rfl ?_)
      intro n18 hn18
      replace hn18 := in64 hn18 (by omega) (by omega)
      refine ev_q rfl (q_assign (by conv => lhs; whnf) ?_)
      refine ev_nil (hK17 _ ?_); clear hK17
      refine good_seq fun K19 hK19 => ?_
      refine good_region rfl ?_
      refine ev_q rfl (q_move (by conv => lhs; whnf) ?_)
      refine ev_q rfl (q_move (by conv => lhs; whnf) ?_)
      refine ev_q rfl (q_move (by conv => lhs; whnf) ?_)
      refine ev_q rfl (q_idxO tE29 rfl rfl rfl (by exact Int.natCast_nonneg _) (by omega) rfl ?_)
      refine ev_q rfl (q_fieldAddrE fO59_3 rfl rfl ?_)
      refine ev_k rfl (k_storeE sz2 rfl (by conv => lhs; whnf) rfl rfl rfl (Nat.le_of_ble_eq_true rfl) rfl (by first | exact mkP_get hpp | exact setGet (by (try simp only [List.length_set]); rw [mkP_len (by omega)]; omega)) (Nat.le_of_ble_eq_true rfl) rfl ?_)
      refine ev_nil (hK19 _ ?_); clear hK19
      refine good_seq fun K20 hK20 => ?_
      refine good_region rfl ?_
      refine ev_q rfl (q_move (by conv => lhs; whnf) ?_)
      refine ev_q rfl (q_int rfl rfl ?_)
      intro n21 hn21
      replace hn21 := in64 hn21 (by omega) (by omega)
      refine ev_q rfl (q_assign (by conv => lhs; whnf) ?_)
      refine ev_nil (hK20 _ ?_); clear hK20
      refine good_seq fun K22 hK22 => ?_
      refine good_region rfl ?_
      refine ev_q rfl (q_move (by conv => lhs; whnf) ?_)
      refine ev_q rfl (q_move (by conv => lhs; whnf) ?_)
      refine ev_q rfl (q_move (by conv => lhs; whnf) ?_)
      refine ev_q rfl (q_idxO tE29 rfl rfl rfl (by exact Int.natCast_nonneg _) (by omega) rfl ?_)
      refine ev_q rfl (q_fieldAddrE fO59_4 rfl rfl ?_)
      refine ev_k rfl (k_storeE sz2 rfl (by conv => lhs; whnf) rfl rfl rfl (Nat.le_of_ble_eq_true rfl) rfl (by first | exact mkP_get hpp | exact setGet (by (try simp only [List.length_set]); rw [mkP_len (by omega)]; omega)) (Nat.le_of_ble_eq_true rfl) rfl ?_)
      refine ev_nil (hK22 _ ?_); clear hK22
      refine good_seq fun K23 hK23 => ?_
      refine good_region rfl ?_
      refine ev_q rfl (q_move (by conv => lhs; whnf) ?_)
      refine ev_q rfl (q_int rfl rfl ?_)
      intro n24 hn24
      replace hn24 := in64 hn24 (by omega) (by omega)
      refine ev_q rfl (q_assign (by conv => lhs; whnf) ?_)
      refine ev_nil (hK23 _ ?_); clear hK23
      refine good_seq fun K25 hK25 => ?_
      refine good_region rfl ?_
      refine ev_q rfl (q_move (by conv => lhs; whnf) ?_)
      refine ev_q rfl (q_move (by conv => lhs; whnf) ?_)
      refine ev_q rfl (q_move (by conv => lhs; whnf) ?_)
      refine ev_q rfl (q_idxO tE29 rfl rfl rfl (by exact Int.natCast_nonneg _) (by omega) rfl ?_)
      refine ev_q rfl (q_fieldAddrE fO59_5 rfl rfl ?_)
      refine ev_k rfl (k_storeE sz2 rfl (by conv => lhs; whnf) rfl rfl rfl (Nat.le_of_ble_eq_true rfl) rfl (by first | exact mkP_get hpp | exact setGet (by (try simp only [List.length_set]); rw [mkP_len (by omega)]; omega)) (Nat.le_of_ble_eq_true rfl) rfl ?_)
      refine ev_nil (hK25 _ ?_); clear hK25
      refine good_region rfl ?_
      refine ev_q rfl (q_move (by conv => lhs; whnf) ?_)
      refine ev_q rfl (q_int rfl rfl ?_)
      intro n26 hn26
      replace hn26 := in64 hn26 (by omega) (by omega)
      refine ev_q rfl (q_assign (by conv => lhs; whnf) ?_)
      refine ev_nil (hK9 _ ?_); clear hK9
      refine good_region rfl ?_
      refine ev_q rfl (q_move (by conv => lhs; whnf) ?_)
      refine ev_q rfl (q_int rfl rfl ?_)
      intro n27 hn27
      replace hn27 := in64 hn27 (by omega) (by omega)
      refine ev_q rfl (q_assign (by conv => lhs; whnf) ?_)
      refine ev_nil ?_
      clear hK2
      refine ⟨i + 1, ?_, ?_, ?_⟩
      · show _ ≤ _; omega
      · first | omega | (simp only []; omega) | (dsimp only; omega)
      · refine sub_weak ?_ ?_
        · exact weakH_row (rowEq (mkP_step (by omega) (by omega) (by omega) (by omega) (by omega) (by omega))) (weakH_none _)
        · refine weakE_upd ?e5 ?r5 (weakE_upd ?e1 ?r1 (weakE_upd ?e0 ?r0 (weakE_junk _ _)))
          case e0 => first | rfl | exact fI (by omega) | (simp_all)
          case r0 => intro h hh; simp [refs] at hh; subst hh; rfl
          case e1 => first | rfl | exact fI (by omega) | (simp_all)
          case r1 => intro h hh; cases hh
          case e5 => first | rfl | exact fI (by omega) | (simp_all)
          case r5 => intro h hh; cases hh

-- laws.markNetwork
set_option maxRecDepth 20000 in
set_option maxHeartbeats 2000000 in
theorem D_laws_markNetwork (ns : List Int) (ps : List Pi) (k : Int) (hn : ns.length ≤ 17592186044416) (hp : ps.length ≤ 2513169434843) (hk : 0 ≤ k ∧ k ≤ 1000000) : DenX Try.prog 15 [(1000000, .row 2 1 (ns.map ci)), (1000001, .row 59 6 (ps.map piA))] [.agg [.own 1000000 ns.length, .own 1000001 ps.length], .s (.int .i64 k)] [(1000000, .row 2 1 (mkC k ns ns.length)), (1000001, .row 59 6 (mkP (k + ns.length) ps ps.length))] (.s (.int .i64 (k + ns.length + 6 * ps.length))) := by
  refine denX_of_good Try.func15 (by decide) rfl (Nat.le_of_ble_eq_true rfl) (Nat.le_of_ble_eq_true rfl) rfl ?_
  refine good_seq fun K1 hK1 => ?_
  refine good_region rfl ?_
  refine ev_k rfl (k_box (by conv => lhs; whnf) rfl rfl rfl ?_)
  refine ev_q rfl (q_assign (by conv => lhs; whnf) ?_)
  refine ev_nil (hK1 _ ?_); clear hK1
  refine good_seq fun K2 hK2 => ?_
  refine good_region rfl ?_
  refine ev_q rfl (q_fieldAddrP fO31_0 rfl rfl ?_)
  refine ev_q rfl (q_load tA22 rfl ?_)
  refine ev_q rfl (q_move (by conv => lhs; whnf) ?_)
  refine ev_k rfl (k_callXI [(1000000, 1000000)] (D_laws_markInt64S ns _ hn (by omega)) rfl (rfl) (rfl) ⟨rfl, trivial⟩ ⟨rfl, ⟨rfl, rfl, by rw [mkC_len (Nat.le_refl _)]; simp⟩, trivial⟩ rfl rfl rfl ?_)
  intro n3 hn3
  refine ev_q rfl (q_assign (by conv => lhs; whnf) ?_)
  refine ev_nil (hK2 _ ?_); clear hK2
  refine good_seq fun K4 hK4 => ?_
  refine good_region rfl ?_
  refine ev_q rfl (q_fieldAddrP fO31_1 rfl rfl ?_)
  refine ev_q rfl (q_load tA29 rfl ?_)
  refine ev_q rfl (q_move (by conv => lhs; whnf) ?_)
  refine ev_k rfl (k_callXI [(1000000, 1000001)] (D_laws_markPipeS ps _ hp (by omega)) rfl (rfl) (rfl) ⟨rfl, trivial⟩ ⟨rfl, ⟨rfl, rfl, by rw [mkP_len (Nat.le_refl _)]; simp⟩, trivial⟩ rfl rfl rfl ?_)
  intro n5 hn5
  refine ev_q rfl (q_assign (by conv => lhs; whnf) ?_)
  refine ev_nil (hK4 _ ?_); clear hK4
  refine good_seq fun K6 hK6 => ?_
  refine good_region rfl ?_
  refine ev_q rfl (q_move (by conv => lhs; whnf) ?_)
  refine ev_q rfl (q_assign (by conv => lhs; whnf) ?_)
  refine ev_nil (hK6 _ ?_); clear hK6
  refine good_ret ?_
  repeat (first | refine thenQ_ret ?_ | refine blockQ_ret ?_)
  refine fx_tmp rfl (by conv => lhs; whnf) ?_
  exact ⟨_, conv_eq (by first | rfl | exact fI (by first | omega | grind) | (exfalso; first | omega | grind)), weakH_row (rowEq (by first | rfl | (rw [e]; done) | (rw [e]; rfl) | (simp_all; done))) (weakH_row (rowEq (by first | rfl | (rw [e]; done) | (rw [e]; rfl) | (simp_all; done))) (weakH_none _)), refsIn_ok rfl⟩

-- laws.FnExactNodeTemperatures
set_option maxRecDepth 20000 in
set_option maxHeartbeats 2000000 in
theorem D_laws_FnExactNodeTemperatures (ns : List Int) (ps : List Pi) (s : Int) (fl : List Int) (su gr : Int) (hn : ns.length ≤ 17592186044416) (hp : ps.length ≤ 2513169434843) (hz : idSz ps) (hf : fl.length ≤ 17592186044416) : Den Try.prog 3 [.agg [.lst 1 (ns.map ci), .lst 6 (ps.map piA)], .s (.int .i64 s), .lst 1 (fl.map ci), .s (.int .i64 su), .s (.int .i64 gr)] (.s (.bool true)) := by
  refine den_of_good Try.func3 (by decide) rfl (Nat.le_of_ble_eq_true rfl) (Nat.le_of_ble_eq_true rfl) ?_
  refine good_seq fun K1 hK1 => ?_
  refine good_region rfl ?_
  refine ev_k rfl (k_box (by conv => lhs; whnf) rfl rfl rfl ?_)
  refine ev_q rfl (q_assign (by conv => lhs; whnf) ?_)
  refine ev_nil (hK1 _ ?_); clear hK1
  refine good_seq fun K2 hK2 => ?_
  refine good_seq fun K3 hK3 => ?_
  refine good_region rfl ?_
  refine ev_q rfl (q_move (by conv => lhs; whnf) ?_)
  refine ev_q rfl (q_len tEs22 rfl ?_)
  intro n4 hn4
  try simp only [List.length_map] at hn4
  refine ev_q rfl (q_int rfl rfl ?_)
  intro b5 hb5; cases b5
  · replace hb5 := dF hb5
    refine ev_nil (hK3 _ ?_); clear hK3
    refine good_condF rfl ?_
    refine good_skip (hK2 _ ?_); clear hK2
    refine good_seq fun K6 hK6 => ?_
    refine good_region rfl ?_
    refine ev_q rfl (q_assign (by conv => lhs; whnf) ?_)
    refine ev_nil (hK6 _ ?_); clear hK6
    refine good_seq fun K7 hK7 => ?_
    refine good_region rfl ?_
    refine ev_q rfl (q_loadA tA25 rfl rfl rfl ?_)
    refine ev_q rfl (q_move (by conv => lhs; whnf) ?_)
    refine ev_q rfl (q_callI rfl rfl (rfl) (D_laws_szNetwork ns ps _ hn hp hz (by omega)) ?_)
    intro n8 hn8
    refine ev_q rfl (q_assign (by conv => lhs; whnf) ?_)
    refine ev_nil (hK7 _ ?_); clear hK7
    refine good_seq fun K9 hK9 => ?_
    refine good_seq fun K10 hK10 => ?_
    refine good_region rfl ?_
    refine ev_q rfl (q_move (by conv => lhs; whnf) ?_)
    refine ev_q rfl (q_int rfl rfl ?_)
    intro b11 hb11; cases b11
    · replace hb11 := dF hb11
      refine ev_nil (hK10 _ ?_); clear hK10
      refine good_condF rfl ?_
      refine good_skip (hK9 _ ?_); clear hK9
      refine good_seq fun K12 hK12 => ?_
      refine good_region rfl ?_
      refine ev_q rfl (q_loadA tA25 rfl rfl rfl ?_)
      refine ev_q rfl (q_call rfl rfl (rfl) (D_laws_toNetwork ns ps hn hp) rfl ?_)
      refine ev_q rfl (q_move (by conv => lhs; whnf) ?_)
      refine ev_q rfl (q_move (by conv => lhs; whnf) ?_)
      refine ev_q rfl (q_call rfl rfl (rfl) (D_laws_toInt64S fl hf) rfl ?_)
      refine ev_q rfl (q_move (by conv => lhs; whnf) ?_)
      refine ev_q rfl (q_move (by conv => lhs; whnf) ?_)
      refine ev_q rfl (q_call rfl rfl (rfl) (D_spec_NodeTemperatures ns ps s fl su gr hn hp hz hf) rfl ?_)
      refine ev_q rfl (q_move (by conv => lhs; whnf) ?_)
      refine ev_q rfl (q_extract rfl rfl ?_)
      refine ev_q rfl (q_extractI rfl rfl ?_)
      intro n13 hn13
      refine ev_q rfl (q_assign (by conv => lhs; whnf) ?_)
      refine ev_q rfl (q_assign (by conv => lhs; whnf) ?_)
      refine ev_nil (hK12 _ ?_); clear hK12
      refine good_seq fun K14 hK14 => ?_
      refine good_region rfl ?_
      refine ev_q rfl (q_loadA tA25 rfl rfl rfl ?_)
      refine ev_k rfl (k_callX [(900001, 900000), (900002, 900001)] (D_laws_toNetwork_X ns ps hn hp) rfl (rfl) (rfl) trivial ⟨⟨rfl, show (900000 : Nat) < 1000000 by decide⟩, ⟨⟨rfl, show (900001 : Nat) < 1000000 by decide⟩, trivial⟩⟩ rfl rfl rfl ?_)
      refine ev_k rfl (k_alloc zA31 rfl ?_)
      refine ev_k rfl (k_store sz31 rfl (by conv => lhs; whnf) rfl rfl rfl (Nat.le_of_ble_eq_true rfl) rfl ?_)
      refine ev_nil (hK14 _ ?_); clear hK14
      refine good_seq fun K15 hK15 => ?_
      refine good_region rfl ?_
      refine ev_q rfl (q_move (by conv => lhs; whnf) ?_)
      refine ev_k rfl (k_callX [(7, 900002)] (D_laws_toInt64S_X fl hf) rfl (rfl) (rfl) trivial ⟨⟨rfl, show (900002 : Nat) < 1000000 by decide⟩, trivial⟩ rfl rfl rfl ?_)
      refine ev_q rfl (q_assign (by conv => lhs; whnf) ?_)
      refine ev_nil (hK15 _ ?_); clear hK15
      refine good_seq fun K16 hK16 => ?_
      refine good_region rfl ?_
      refine ev_q rfl (q_loadA tA31 rfl rfl rfl ?_)
      refine ev_q rfl (q_move (by conv => lhs; whnf) ?_)
      refine ev_q rfl (q_move (by conv => lhs; whnf) ?_)
      refine ev_q rfl (q_move (by conv => lhs; whnf) ?_)
      refine ev_q rfl (q_move (by conv => lhs; whnf) ?_)
      refine ev_k rfl (k_callXc [(900003, 900003)] (D_impl_NodeTemperatures_X ns ps s fl su gr hn hp hz hf) rfl (by change some ([.agg [.lst 1 (List.take (ns).length ((ns).map ci)), .lst 6 (List.take (ps).length ((ps).map piA))], .s (.int .i64 s), .lst 1 (List.take (fl).length ((fl).map ci)), .s (.int .i64 su), .s (.int .i64 gr)] : List AV) = some _; (simp only [takeMap]) <;> rfl) (⟨rfl, ⟨pure_ci, trivial⟩⟩) trivial ⟨⟨rfl, show (900003 : Nat) < 1000000 by decide⟩, trivial⟩ rfl rfl rfl ?_)
      refine ev_q rfl (q_move (by conv => lhs; whnf) ?_)
      refine ev_q rfl (q_extract rfl rfl ?_)
      refine ev_q rfl (q_extractI rfl rfl ?_)
      intro n17 hn17
      refine ev_q rfl (q_assign (by conv => lhs; whnf) ?_)
      refine ev_q rfl (q_assign (by conv => lhs; whnf) ?_)
      refine ev_nil (hK16 _ ?_); clear hK16
      refine good_seq fun K18 hK18 => ?_
      refine good_seq fun K19 hK19 => ?_
      refine good_region rfl ?_
      refine ev_q rfl (q_move (by conv => lhs; whnf) ?_)
      refine ev_q rfl (q_move (by conv => lhs; whnf) ?_)
      refine ev_q rfl (q_callB rfl rfl (by change ([.lst 1 (List.take ((ntR ns ps s fl su gr)).length (((ntR ns ps s fl su gr)).map ci)), .lst 1 (((ntR ns ps s fl su gr)).map ci)] : List AV) = _; simp only [takeMap]) (D_laws_eqInt64S (ntR ns ps s fl su gr) (by have := ntR_len (ns := ns) (ps := ps) (s := s) (fl := fl) (su := su) (gr := gr); omega)) ?_)
      intro b20 hb20; cases b20
      · first | replace hb20 := dF hb20 | skip
        refine ev_q rfl (q_not rfl rfl ?_)
        refine ev_q rfl (q_move (by conv => lhs; whnf) ?_)
        refine ev_skip rfl ?_
        refine ev_skip rfl ?_
        refine ev_skip rfl ?_
        refine ev_q rfl (q_pickT rfl (by conv => lhs; whnf) ?_)
        refine ev_nil (hK19 _ ?_); clear hK19
        refine good_condT rfl ?_
        refine good_seq fun K21 hK21 => ?_
        refine good_region rfl ?_
        refine ev_q rfl (q_assign (by conv => lhs; whnf) ?_)
        refine ev_nil (hK21 _ ?_); clear hK21
        refine good_ret ?_
        repeat (first | refine thenQ_ret ?_ | refine blockQ_ret ?_)
        refine ret_tmp (st := _) rfl (by conv => lhs; whnf) rfl ?_
        clear hK18
        first | rfl | (exfalso; first | omega | contradiction | grind)
      · first | replace hb20 := dT hb20 | skip
        refine ev_q rfl (q_not rfl rfl ?_)
        refine ev_q rfl (q_move (by conv => lhs; whnf) ?_)
        refine ev_q rfl (q_move (by conv => lhs; whnf) ?_)
        refine ev_q rfl (q_move (by conv => lhs; whnf) ?_)
        refine ev_q rfl (q_int rfl rfl ?_)
        intro b22 hb22; cases b22
        · replace hb22 := neF hb22
          refine ev_q rfl (q_pickF rfl (by conv => lhs; whnf) ?_)
          refine ev_nil (hK19 _ ?_); clear hK19
          refine good_condF rfl ?_
          refine good_skip (hK18 _ ?_); clear hK18
          refine good_seq fun K23 hK23 => ?_
          refine good_seq fun K24 hK24 => ?_
          refine good_draw 5 hmix (by kernel_rfl) rfl ?_
          refine qo_q rfl (q_loadA tA31 rfl rfl rfl ?_)
          refine qo_q rfl (q_loadA tA25 rfl rfl rfl ?_)
          refine qo_q rfl (q_call rfl rfl (rfl) (D_laws_toNetwork ns ps hn hp) rfl ?_)
          refine qo_q rfl (q_callB rfl rfl (by change ([.agg [.lst 1 (List.take (ns).length ((ns).map ci)), .lst 6 (List.take (ps).length ((ps).map piA))], .agg [.lst 1 ((ns).map ci), .lst 6 ((ps).map piA)]] : List AV) = _; simp only [takeMap]) (D_laws_eqNetwork ns ps hn hp) ?_)
          intro b25 hb25; cases b25
          · first | replace hb25 := dF hb25 | skip
            refine qo_q rfl (q_not rfl rfl ?_)
            refine qo_nil ?_
            refine ev_nil (hK24 _ ?_); clear hK24
            refine good_condT rfl ?_
            refine good_seq fun K26 hK26 => ?_
            refine good_region rfl ?_
            refine ev_q rfl (q_assign (by conv => lhs; whnf) ?_)
            refine ev_nil (hK26 _ ?_); clear hK26
            refine good_ret ?_
            repeat (first | refine thenQ_ret ?_ | refine blockQ_ret ?_)
            refine ret_tmp (st := _) rfl (by conv => lhs; whnf) rfl ?_
            clear hK23
            first | rfl | (exfalso; first | omega | contradiction | grind)
          · first | replace hb25 := dT hb25 | skip
            refine qo_q rfl (q_not rfl rfl ?_)
            refine qo_nil ?_
            refine ev_nil (hK24 _ ?_); clear hK24
            refine good_condF rfl ?_
            refine good_skip (hK23 _ ?_); clear hK23
            refine good_seq fun K27 hK27 => ?_
            refine good_seq fun K28 hK28 => ?_
            refine good_region rfl ?_
            refine ev_q rfl (q_move (by conv => lhs; whnf) ?_)
            refine ev_q rfl (q_move (by conv => lhs; whnf) ?_)
            refine ev_q rfl (q_call rfl rfl (rfl) (D_laws_toInt64S fl hf) rfl ?_)
            refine ev_q rfl (q_callB rfl rfl (by change ([.lst 1 (List.take (fl).length ((fl).map ci)), .lst 1 ((fl).map ci)] : List AV) = _; simp only [takeMap]) (D_laws_eqInt64S fl hf) ?_)
            intro b29 hb29; cases b29
            · first | replace hb29 := dF hb29 | skip
              refine ev_q rfl (q_not rfl rfl ?_)
              refine ev_nil (hK28 _ ?_); clear hK28
              refine good_condT rfl ?_
              refine good_seq fun K30 hK30 => ?_
              refine good_region rfl ?_
              refine ev_q rfl (q_assign (by conv => lhs; whnf) ?_)
              refine ev_nil (hK30 _ ?_); clear hK30
              refine good_ret ?_
              repeat (first | refine thenQ_ret ?_ | refine blockQ_ret ?_)
              refine ret_tmp (st := _) rfl (by conv => lhs; whnf) rfl ?_
              clear hK27
              first | rfl | (exfalso; first | omega | contradiction | grind)
            · first | replace hb29 := dT hb29 | skip
              refine ev_q rfl (q_not rfl rfl ?_)
              refine ev_nil (hK28 _ ?_); clear hK28
              refine good_condF rfl ?_
              refine good_skip (hK27 _ ?_); clear hK27
              refine good_seq fun K31 hK31 => ?_
              refine good_region rfl ?_
              refine ev_q rfl (q_assign (by conv => lhs; whnf) ?_)
              refine ev_nil (hK31 _ ?_); clear hK31
              refine good_seq fun K32 hK32 => ?_
              refine good_region rfl ?_
              refine ev_q rfl (q_loadA tA31 rfl rfl rfl ?_)
              refine ev_q rfl (q_move (by conv => lhs; whnf) ?_)
              refine ev_k rfl (k_callXI [(1000000, 900000), (1000001, 900001)] (D_laws_markNetwork ns ps _ hn hp (by omega)) rfl (rfl) (rfl) ⟨rfl, ⟨rfl, trivial⟩⟩ ⟨rfl, ⟨rfl, rfl, by first | (rw [mkC_len (Nat.le_refl _)]; simp; done) | (rw [mkP_len (Nat.le_refl _)]; simp; done)⟩, ⟨rfl, ⟨rfl, rfl, by first | (rw [mkC_len (Nat.le_refl _)]; simp; done) | (rw [mkP_len (Nat.le_refl _)]; simp; done)⟩, trivial⟩⟩ rfl rfl rfl ?_)
              intro n33 hn33
              refine ev_q rfl (q_assign (by conv => lhs; whnf) ?_)
              refine ev_nil (hK32 _ ?_); clear hK32
              refine good_seq fun K34 hK34 => ?_
              refine good_region rfl ?_
              refine ev_q rfl (q_move (by conv => lhs; whnf) ?_)
              refine ev_q rfl (q_move (by conv => lhs; whnf) ?_)
              refine ev_k rfl (k_callXI [(1000000, 900002)] (D_laws_markInt64S fl _ hf (by omega)) rfl (rfl) (rfl) ⟨rfl, trivial⟩ ⟨rfl, ⟨rfl, rfl, by rw [mkC_len (Nat.le_refl _)]; simp⟩, trivial⟩ rfl rfl rfl ?_)
              intro n35 hn35
              refine ev_q rfl (q_assign (by conv => lhs; whnf) ?_)
              refine ev_nil (hK34 _ ?_); clear hK34
              refine good_seq fun K36 hK36 => ?_
              refine good_seq fun K37 hK37 => ?_
              refine good_region rfl ?_
              refine ev_q rfl (q_move (by conv => lhs; whnf) ?_)
              refine ev_q rfl (q_int rfl rfl ?_)
              intro b38 hb38; cases b38
              · replace hb38 := dF hb38
                refine ev_q rfl (q_move (by conv => lhs; whnf) ?_)
                refine ev_q rfl (q_move (by conv => lhs; whnf) ?_)
                refine ev_q rfl (q_move (by conv => lhs; whnf) ?_)
                refine ev_q rfl (q_callB rfl rfl (by change ([.lst 1 (List.take ((ntR ns ps s fl su gr)).length (((ntR ns ps s fl su gr)).map ci)), .lst 1 (((ntR ns ps s fl su gr)).map ci)] : List AV) = _; simp only [takeMap]) (D_laws_eqInt64S (ntR ns ps s fl su gr) (by have := ntR_len (ns := ns) (ps := ps) (s := s) (fl := fl) (su := su) (gr := gr); omega)) ?_)
                intro b39 hb39; cases b39
                · first | replace hb39 := dF hb39 | skip
                  refine ev_q rfl (q_not rfl rfl ?_)
                  refine ev_q rfl (q_pickF rfl (by conv => lhs; whnf) ?_)
                  refine ev_q rfl (q_move (by conv => lhs; whnf) ?_)
                  refine ev_skip rfl ?_
                  refine ev_skip rfl ?_
                  refine ev_skip rfl ?_
                  refine ev_q rfl (q_pickT rfl (by conv => lhs; whnf) ?_)
                  refine ev_nil (hK37 _ ?_); clear hK37
                  refine good_condT rfl ?_
                  refine good_seq fun K40 hK40 => ?_
                  refine good_region rfl ?_
                  refine ev_q rfl (q_assign (by conv => lhs; whnf) ?_)
                  refine ev_nil (hK40 _ ?_); clear hK40
                  refine good_ret ?_
                  repeat (first | refine thenQ_ret ?_ | refine blockQ_ret ?_)
                  refine ret_tmp (st := _) rfl (by conv => lhs; whnf) rfl ?_
                  clear hK36
                  first | rfl | (exfalso; first | omega | contradiction | grind)
                · first | replace hb39 := dT hb39 | skip
                  refine ev_q rfl (q_not rfl rfl ?_)
                  refine ev_q rfl (q_pickF rfl (by conv => lhs; whnf) ?_)
                  refine ev_q rfl (q_move (by conv => lhs; whnf) ?_)
                  refine ev_q rfl (q_move (by conv => lhs; whnf) ?_)
                  refine ev_q rfl (q_move (by conv => lhs; whnf) ?_)
                  refine ev_q rfl (q_int rfl rfl ?_)
                  intro b41 hb41; cases b41
                  · replace hb41 := neF hb41
                    refine ev_q rfl (q_pickF rfl (by conv => lhs; whnf) ?_)
                    refine ev_nil (hK37 _ ?_); clear hK37
                    refine good_condF rfl ?_
                    refine good_skip (hK36 _ ?_); clear hK36
                    refine good_seq fun K42 hK42 => ?_
                    refine good_region rfl ?_
                    refine ev_q rfl (q_assign (by conv => lhs; whnf) ?_)
                    refine ev_nil (hK42 _ ?_); clear hK42
                    refine good_seq fun K43 hK43 => ?_
                    refine good_region rfl ?_
                    refine ev_q rfl (q_move (by conv => lhs; whnf) ?_)
                    refine ev_q rfl (q_move (by conv => lhs; whnf) ?_)
                    refine ev_k rfl (k_callXI [(1000000, 900003)] (D_laws_markInt64S (ntR ns ps s fl su gr) _ (by have := ntR_len (ns := ns) (ps := ps) (s := s) (fl := fl) (su := su) (gr := gr); omega) (by omega)) rfl (rfl) (rfl) ⟨rfl, trivial⟩ ⟨rfl, ⟨rfl, rfl, by rw [mkC_len (Nat.le_refl _)]; simp⟩, trivial⟩ rfl rfl rfl ?_)
                    intro n44 hn44
                    refine ev_q rfl (q_assign (by conv => lhs; whnf) ?_)
                    refine ev_nil (hK43 _ ?_); clear hK43
                    refine good_seq fun K45 hK45 => ?_
                    refine good_region rfl ?_
                    refine ev_q rfl (q_assign (by conv => lhs; whnf) ?_)
                    refine ev_nil (hK45 _ ?_); clear hK45
                    refine good_seq fun K46 hK46 => ?_
                    refine good_region rfl ?_
                    refine ev_q rfl (q_move (by conv => lhs; whnf) ?_)
                    refine ev_q rfl (q_move (by conv => lhs; whnf) ?_)
                    refine ev_q rfl (q_callI rfl rfl (by change ([.lst 1 (List.take ((ntR ns ps s fl su gr)).length (mkC 1 ((ntR ns ps s fl su gr)) ((ntR ns ps s fl su gr)).length)), .s (.int .i64 1)] : List AV) = _; rw [mkC_take]) (D_laws_heldInt64S (ntR ns ps s fl su gr) 1 (by have := ntR_len (ns := ns) (ps := ps) (s := s) (fl := fl) (su := su) (gr := gr); omega) (by omega)) ?_)
                    intro n47 hn47
                    refine ev_q rfl (q_assign (by conv => lhs; whnf) ?_)
                    refine ev_nil (hK46 _ ?_); clear hK46
                    refine good_seq fun K48 hK48 => ?_
                    refine good_seq fun K49 hK49 => ?_
                    refine good_region rfl ?_
                    refine ev_q rfl (q_move (by conv => lhs; whnf) ?_)
                    refine ev_q rfl (q_int rfl rfl ?_)
                    intro b50 hb50; cases b50
                    · replace hb50 := dF hb50
                      refine ev_nil (hK49 _ ?_); clear hK49
                      refine good_condF rfl ?_
                      refine good_skip (hK48 _ ?_); clear hK48
                      refine good_seq fun K51 hK51 => ?_
                      refine good_seq fun K52 hK52 => ?_
                      refine good_region rfl ?_
                      refine ev_q rfl (q_move (by conv => lhs; whnf) ?_)
                      refine ev_q rfl (q_move (by conv => lhs; whnf) ?_)
                      refine ev_q rfl (q_int rfl rfl ?_)
                      intro b53 hb53; cases b53
                      · replace hb53 := neF hb53
                        refine ev_nil (hK52 _ ?_); clear hK52
                        refine good_condF rfl ?_
                        refine good_skip (hK51 _ ?_); clear hK51
                        refine good_seq fun K54 hK54 => ?_
                        refine good_region rfl ?_
                        refine ev_q rfl (q_loadA tA25 rfl rfl rfl ?_)
                        refine ev_q rfl (q_call rfl rfl (rfl) (D_laws_toNetwork ns ps hn hp) rfl ?_)
                        refine ev_q rfl (q_move (by conv => lhs; whnf) ?_)
                        refine ev_q rfl (q_move (by conv => lhs; whnf) ?_)
                        refine ev_q rfl (q_call rfl rfl (rfl) (D_laws_toInt64S fl hf) rfl ?_)
                        refine ev_q rfl (q_move (by conv => lhs; whnf) ?_)
                        refine ev_q rfl (q_move (by conv => lhs; whnf) ?_)
                        refine ev_q rfl (q_call rfl rfl (rfl) (D_impl_NodeTemperatures ns ps s fl su gr hn hp hz hf) rfl ?_)
                        refine ev_q rfl (q_move (by conv => lhs; whnf) ?_)
                        refine ev_q rfl (q_extract rfl rfl ?_)
                        refine ev_q rfl (q_extractI rfl rfl ?_)
                        intro n55 hn55
                        refine ev_q rfl (q_assign (by conv => lhs; whnf) ?_)
                        refine ev_q rfl (q_assign (by conv => lhs; whnf) ?_)
                        refine ev_nil (hK54 _ ?_); clear hK54
                        refine good_seq fun K56 hK56 => ?_
                        refine good_seq fun K57 hK57 => ?_
                        refine good_region rfl ?_
                        refine ev_q rfl (q_move (by conv => lhs; whnf) ?_)
                        refine ev_q rfl (q_move (by conv => lhs; whnf) ?_)
                        refine ev_q rfl (q_callB rfl rfl (rfl) (D_laws_eqInt64S (ntR ns ps s fl su gr) (by have := ntR_len (ns := ns) (ps := ps) (s := s) (fl := fl) (su := su) (gr := gr); omega)) ?_)
                        intro b58 hb58; cases b58
                        · first | replace hb58 := dF hb58 | skip
                          refine ev_q rfl (q_not rfl rfl ?_)
                          refine ev_q rfl (q_move (by conv => lhs; whnf) ?_)
                          refine ev_skip rfl ?_
                          refine ev_skip rfl ?_
                          refine ev_skip rfl ?_
                          refine ev_q rfl (q_pickT rfl (by conv => lhs; whnf) ?_)
                          refine ev_nil (hK57 _ ?_); clear hK57
                          refine good_condT rfl ?_
                          refine good_seq fun K59 hK59 => ?_
                          refine good_region rfl ?_
                          refine ev_q rfl (q_assign (by conv => lhs; whnf) ?_)
                          refine ev_nil (hK59 _ ?_); clear hK59
                          refine good_ret ?_
                          repeat (first | refine thenQ_ret ?_ | refine blockQ_ret ?_)
                          refine ret_tmp (st := _) rfl (by conv => lhs; whnf) rfl ?_
                          clear hK56
                          first | rfl | (exfalso; first | omega | contradiction | grind)
                        · first | replace hb58 := dT hb58 | skip
                          refine ev_q rfl (q_not rfl rfl ?_)
                          refine ev_q rfl (q_move (by conv => lhs; whnf) ?_)
                          refine ev_q rfl (q_move (by conv => lhs; whnf) ?_)
                          refine ev_q rfl (q_move (by conv => lhs; whnf) ?_)
                          refine ev_q rfl (q_int rfl rfl ?_)
                          intro b60 hb60; cases b60
                          · replace hb60 := neF hb60
                            refine ev_q rfl (q_pickF rfl (by conv => lhs; whnf) ?_)
                            refine ev_nil (hK57 _ ?_); clear hK57
                            refine good_condF rfl ?_
                            refine good_skip (hK56 _ ?_); clear hK56
                            refine good_seq fun K61 hK61 => ?_
                            refine good_region rfl ?_
                            refine ev_q rfl (q_assign (by conv => lhs; whnf) ?_)
                            refine ev_nil (hK61 _ ?_); clear hK61
                            refine good_seq fun K62 hK62 => ?_
                            refine good_region rfl ?_
                            refine ev_q rfl (q_move (by conv => lhs; whnf) ?_)
                            refine ev_q rfl (q_move (by conv => lhs; whnf) ?_)
                            refine ev_q rfl (q_callI rfl rfl (by change ([.lst 1 (List.take ((ntR ns ps s fl su gr)).length (mkC 1 ((ntR ns ps s fl su gr)) ((ntR ns ps s fl su gr)).length)), .s (.int .i64 1)] : List AV) = _; rw [mkC_take]) (D_laws_heldInt64S (ntR ns ps s fl su gr) 1 (by have := ntR_len (ns := ns) (ps := ps) (s := s) (fl := fl) (su := su) (gr := gr); omega) (by omega)) ?_)
                            intro n63 hn63
                            refine ev_q rfl (q_assign (by conv => lhs; whnf) ?_)
                            refine ev_nil (hK62 _ ?_); clear hK62
                            refine good_seq fun K64 hK64 => ?_
                            refine good_seq fun K65 hK65 => ?_
                            refine good_region rfl ?_
                            refine ev_q rfl (q_move (by conv => lhs; whnf) ?_)
                            refine ev_q rfl (q_int rfl rfl ?_)
                            intro b66 hb66; cases b66
                            · replace hb66 := dF hb66
                              refine ev_nil (hK65 _ ?_); clear hK65
                              refine good_condF rfl ?_
                              refine good_skip (hK64 _ ?_); clear hK64
                              refine good_seq fun K67 hK67 => ?_
                              refine good_seq fun K68 hK68 => ?_
                              refine good_region rfl ?_
                              refine ev_q rfl (q_move (by conv => lhs; whnf) ?_)
                              refine ev_q rfl (q_move (by conv => lhs; whnf) ?_)
                              refine ev_q rfl (q_int rfl rfl ?_)
                              intro b69 hb69; cases b69
                              · replace hb69 := neF hb69
                                refine ev_nil (hK68 _ ?_); clear hK68
                                refine good_condF rfl ?_
                                refine good_skip (hK67 _ ?_); clear hK67
                                refine good_seq fun K70 hK70 => ?_
                                refine good_region rfl ?_
                                refine ev_q rfl (q_assign (by conv => lhs; whnf) ?_)
                                refine ev_nil (hK70 _ ?_); clear hK70
                                refine good_ret ?_
                                repeat (first | refine thenQ_ret ?_ | refine blockQ_ret ?_)
                                refine ret_tmp (st := _) rfl (by conv => lhs; whnf) rfl ?_
                                first | rfl | (exfalso; first | omega | contradiction | grind)
                              · replace hb69 := neT hb69
                                refine ev_nil (hK68 _ ?_); clear hK68
                                refine good_condT rfl ?_
                                refine good_seq fun K71 hK71 => ?_
                                refine good_region rfl ?_
                                refine ev_q rfl (q_assign (by conv => lhs; whnf) ?_)
                                refine ev_nil (hK71 _ ?_); clear hK71
                                refine good_ret ?_
                                repeat (first | refine thenQ_ret ?_ | refine blockQ_ret ?_)
                                refine ret_tmp (st := _) rfl (by conv => lhs; whnf) rfl ?_
                                clear hK67
                                first | rfl | (exfalso; first | omega | contradiction | grind)
                            · replace hb66 := dT hb66
                              refine ev_nil (hK65 _ ?_); clear hK65
                              refine good_condT rfl ?_
                              refine good_seq fun K72 hK72 => ?_
                              refine good_region rfl ?_
                              refine ev_q rfl (q_assign (by conv => lhs; whnf) ?_)
                              refine ev_nil (hK72 _ ?_); clear hK72
                              refine good_ret ?_
                              repeat (first | refine thenQ_ret ?_ | refine blockQ_ret ?_)
                              refine ret_tmp (st := _) rfl (by conv => lhs; whnf) rfl ?_
                              clear hK64
                              first | rfl | (exfalso; first | omega | contradiction | grind)
                          · replace hb60 := neT hb60
                            refine ev_q rfl (q_pickF rfl (by conv => lhs; whnf) ?_)
                            refine ev_nil (hK57 _ ?_); clear hK57
                            refine good_condT rfl ?_
                            refine good_seq fun K73 hK73 => ?_
                            refine good_region rfl ?_
                            refine ev_q rfl (q_assign (by conv => lhs; whnf) ?_)
                            refine ev_nil (hK73 _ ?_); clear hK73
                            refine good_ret ?_
                            repeat (first | refine thenQ_ret ?_ | refine blockQ_ret ?_)
                            refine ret_tmp (st := _) rfl (by conv => lhs; whnf) rfl ?_
                            clear hK56
                            first | rfl | (exfalso; first | omega | contradiction | grind)
                      · replace hb53 := neT hb53
                        refine ev_nil (hK52 _ ?_); clear hK52
                        refine good_condT rfl ?_
                        refine good_seq fun K74 hK74 => ?_
                        refine good_region rfl ?_
                        refine ev_q rfl (q_assign (by conv => lhs; whnf) ?_)
                        refine ev_nil (hK74 _ ?_); clear hK74
                        refine good_ret ?_
                        repeat (first | refine thenQ_ret ?_ | refine blockQ_ret ?_)
                        refine ret_tmp (st := _) rfl (by conv => lhs; whnf) rfl ?_
                        clear hK51
                        first | rfl | (exfalso; first | omega | contradiction | grind)
                    · replace hb50 := dT hb50
                      refine ev_nil (hK49 _ ?_); clear hK49
                      refine good_condT rfl ?_
                      refine good_seq fun K75 hK75 => ?_
                      refine good_region rfl ?_
                      refine ev_q rfl (q_assign (by conv => lhs; whnf) ?_)
                      refine ev_nil (hK75 _ ?_); clear hK75
                      refine good_ret ?_
                      repeat (first | refine thenQ_ret ?_ | refine blockQ_ret ?_)
                      refine ret_tmp (st := _) rfl (by conv => lhs; whnf) rfl ?_
                      clear hK48
                      first | rfl | (exfalso; first | omega | contradiction | grind)
                  · replace hb41 := neT hb41
                    refine ev_q rfl (q_pickF rfl (by conv => lhs; whnf) ?_)
                    refine ev_nil (hK37 _ ?_); clear hK37
                    refine good_condT rfl ?_
                    refine good_seq fun K76 hK76 => ?_
                    refine good_region rfl ?_
                    refine ev_q rfl (q_assign (by conv => lhs; whnf) ?_)
                    refine ev_nil (hK76 _ ?_); clear hK76
                    refine good_ret ?_
                    repeat (first | refine thenQ_ret ?_ | refine blockQ_ret ?_)
                    refine ret_tmp (st := _) rfl (by conv => lhs; whnf) rfl ?_
                    clear hK36
                    first | rfl | (exfalso; first | omega | contradiction | grind)
              · replace hb38 := dT hb38
                refine ev_q rfl (q_move (by conv => lhs; whnf) ?_)
                refine ev_skip rfl ?_
                refine ev_skip rfl ?_
                refine ev_skip rfl ?_
                refine ev_skip rfl ?_
                refine ev_q rfl (q_pickT rfl (by conv => lhs; whnf) ?_)
                refine ev_q rfl (q_move (by conv => lhs; whnf) ?_)
                refine ev_skip rfl ?_
                refine ev_skip rfl ?_
                refine ev_skip rfl ?_
                refine ev_q rfl (q_pickT rfl (by conv => lhs; whnf) ?_)
                refine ev_nil (hK37 _ ?_); clear hK37
                refine good_condT rfl ?_
                refine good_seq fun K77 hK77 => ?_
                refine good_region rfl ?_
                refine ev_q rfl (q_assign (by conv => lhs; whnf) ?_)
                refine ev_nil (hK77 _ ?_); clear hK77
                refine good_ret ?_
                repeat (first | refine thenQ_ret ?_ | refine blockQ_ret ?_)
                refine ret_tmp (st := _) rfl (by conv => lhs; whnf) rfl ?_
                clear hK36
                first | rfl | (exfalso; first | omega | contradiction | grind)
        · replace hb22 := neT hb22
          refine ev_q rfl (q_pickF rfl (by conv => lhs; whnf) ?_)
          refine ev_nil (hK19 _ ?_); clear hK19
          refine good_condT rfl ?_
          refine good_seq fun K78 hK78 => ?_
          refine good_region rfl ?_
          refine ev_q rfl (q_assign (by conv => lhs; whnf) ?_)
          refine ev_nil (hK78 _ ?_); clear hK78
          refine good_ret ?_
          repeat (first | refine thenQ_ret ?_ | refine blockQ_ret ?_)
          refine ret_tmp (st := _) rfl (by conv => lhs; whnf) rfl ?_
          clear hK18
          first | rfl | (exfalso; first | omega | contradiction | grind)
    · replace hb11 := dT hb11
      refine ev_nil (hK10 _ ?_); clear hK10
      refine good_condT rfl ?_
      refine good_seq fun K79 hK79 => ?_
      refine good_region rfl ?_
      refine ev_q rfl (q_assign (by conv => lhs; whnf) ?_)
      refine ev_nil (hK79 _ ?_); clear hK79
      refine good_ret ?_
      repeat (first | refine thenQ_ret ?_ | refine blockQ_ret ?_)
      refine ret_tmp (st := _) rfl (by conv => lhs; whnf) rfl ?_
      clear hK9
      first | rfl | (exfalso; first | omega | contradiction | grind)
  · replace hb5 := dT hb5
    refine ev_nil (hK3 _ ?_); clear hK3
    refine good_condT rfl ?_
    refine good_seq fun K80 hK80 => ?_
    refine good_region rfl ?_
    refine ev_q rfl (q_assign (by conv => lhs; whnf) ?_)
    refine ev_nil (hK80 _ ?_); clear hK80
    refine good_ret ?_
    repeat (first | refine thenQ_ret ?_ | refine blockQ_ret ?_)
    refine ret_tmp (st := _) rfl (by conv => lhs; whnf) rfl ?_
    clear hK2
    first | rfl | (exfalso; first | omega | contradiction | grind)

end Go.Proofs.Ytkgnbjgnddfojaa.DFnExactNodeTemperatures
