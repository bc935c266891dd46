/- Walks through the functions that FnExactNetworkLoss reaches: what each answers. -/
import Derived.Test.YtpoppoglnjoomaaDFnExactNetworkLossa
set_option linter.unusedVariables false
set_option linter.unusedSimpArgs false
namespace Go.Proofs.Ytpoppoglnjoomaa.DFnExactNetworkLoss
open Go Go.RowKit Go.Proofs Go.Proofs.Ytpoppoglnjoomaa Go.Proofs.Ytpoppoglnjoomaa.Ev
-- (impl.Pipe).loss
set_option maxRecDepth 20000 in
set_option maxHeartbeats 2000000 in
theorem D_impl_Pipe_loss (s : ByteArray) (fm tt le di lo : Int) (wa gr : Int) (h1 : 0 ≤ lo ∧ lo ≤ 5000) (h2 : 1 ≤ le ∧ le ≤ 10000) (h3 : -5000 ≤ wa ∧ wa ≤ 20000) (h4 : -5000 ≤ gr ∧ gr ≤ 20000) : Den Try.prog 70 [.agg [.s (.string s), .s (.int .i64 fm), .s (.int .i64 tt), .s (.int .i64 le), .s (.int .i64 di), .s (.int .i64 lo)], .s (.int .i64 wa), .s (.int .i64 gr)] (.s (.int .i64 (dr (lo * le * (wa - gr)) 100000))) := by
  have hb := loB h1 h2 h3 h4
  refine den_of_good Try.func70 (by decide) rfl (Nat.le_of_ble_eq_true rfl) (Nat.le_of_ble_eq_true rfl) ?_
  refine good_seq fun K1 hK1 => ?_
  refine good_region rfl ?_
  refine ev_k rfl (k_box (by conv => lhs; whnf) rfl rfl rfl ?_)
  refine ev_q rfl (q_assign (by conv => lhs; whnf) ?_)
  refine ev_nil (hK1 _ ?_); clear hK1
  refine good_seq fun K2 hK2 => ?_
  refine good_region rfl ?_
  refine ev_q rfl (q_fieldAddrP fO88_5 rfl rfl ?_)
  refine ev_q rfl (q_load tA2 rfl ?_)
  refine ev_q rfl (q_fieldAddrP fO88_3 rfl rfl ?_)
  refine ev_q rfl (q_load tA2 rfl ?_)
  refine ev_q rfl (q_int rfl rfl ?_)
  intro n3 hn3
  replace hn3 := in64 hn3 (by omega) (by omega)
  refine ev_q rfl (q_move (by conv => lhs; whnf) ?_)
  refine ev_q rfl (q_move (by conv => lhs; whnf) ?_)
  refine ev_q rfl (q_int rfl rfl ?_)
  intro n4 hn4
  replace hn4 := in64 hn4 (by omega) (by omega)
  refine ev_q rfl (q_int rfl rfl ?_)
  intro n5 hn5
  rw [hn3, hn4] at hn5
  replace hn5 := in64 hn5 (by omega) (by omega)
  refine ev_q rfl (q_callI rfl rfl (rfl) (D_impl_divRound _ _ (by omega) (by omega)) ?_)
  intro n6 hn6
  rw [hn5] at hn6
  refine ev_q rfl (q_assign (by conv => lhs; whnf) ?_)
  refine ev_nil (hK2 _ ?_); clear hK2
  refine good_ret ?_
  repeat (first | refine thenQ_ret ?_ | refine blockQ_ret ?_)
  refine ret_tmp (st := _) rfl (by conv => lhs; whnf) rfl ?_
  first | rfl | exact fI (by first | omega | grind) | (exfalso; first | omega | grind)

-- spec.l10Sum
set_option maxRecDepth 20000 in
set_option maxHeartbeats 2000000 in
theorem D_spec_l10Sum (ns : List Int) (ps : List Pi) (wa gr : Int) (hn : ns.length ≤ 17592186044416) (hp : ps.length ≤ 2513169434843) (hz : idSz ps) (h3 : -5000 ≤ wa ∧ wa ≤ 20000) (h4 : -5000 ≤ gr ∧ gr ≤ 20000) (ok : netOk ns ps) : Den Try.prog 58 [.rp [.lst 1 (ns.map ci), .lst 6 (ps.map piA)], .s (.int .i64 wa), .s (.int .i64 gr)] (.s (.int .i64 (nlG ps wa gr ps.length))) := by
  refine den_of_good Try.func58 (by decide) rfl (Nat.le_of_ble_eq_true rfl) (Nat.le_of_ble_eq_true rfl) ?_
  refine good_seq fun K1 hK1 => ?_
  refine good_region rfl ?_
  refine ev_q rfl (q_assign (by conv => lhs; whnf) ?_)
  refine ev_nil (hK1 _ ?_); clear hK1
  refine good_seq fun K2 hK2 => ?_
  refine good_region rfl ?_
  refine ev_q rfl (q_assign (by conv => lhs; whnf) ?_)
  refine ev_nil (hK2 _ ?_); clear hK2
  refine good_seq fun K3 hK3 => ?_
  refine good_seq fun K4 hK4 => ?_
  refine good_region rfl ?_
  refine ev_q rfl (q_assign (by conv => lhs; whnf) ?_)
  refine ev_nil (hK4 _ ?_); clear hK4
  refine good_block ?_
  refine good_loop (α := Nat) (fun i => { env := upd (upd (upd (upd (upd ((fun _ => .junk)) 0 (.rp [.lst 1 (ns.map ci), .lst 6 (ps.map piA)])) 1 (.s (.int .i64 wa))) 2 (.s (.int .i64 gr))) 7 (.s (.int .i64 (nlG ps wa gr i)))) 8 (.s (.int .i64 i)), H := fun _ => none }) (fun i => i ≤ ps.length) (fun i => ps.length - i) 0 ?_ ?_ ?_
  · show 0 ≤ _; omega
  · refine sub_weak ?_ ?_
    · exact weakH_none _
    · refine weakE_upd ?e8 ?r8 (weakE_upd ?e7 ?r7 (weakE_upd ?e2 ?r2 (weakE_upd ?e1 ?r1 (weakE_upd ?e0 ?r0 (weakE_junk _ _)))))
      case e0 => first | rfl | exact fI (by omega) | (simp_all)
      case r0 => intro h hh; cases hh
      case e1 => first | rfl | exact fI (by omega) | (simp_all)
      case r1 => intro h hh; cases hh
      case e2 => first | rfl | exact fI (by omega) | (simp_all)
      case r2 => intro h hh; cases hh
      case e7 => first | rfl | exact fI (by omega) | (first | rfl | exact fI (by omega))
      case r7 => intro h hh; cases hh
      case e8 => first | rfl | exact fI (by omega) | (simp_all)
      case r8 => intro h hh; cases hh
  · rintro i hI
    refine good_seq fun K5 hK5 => ?_
    refine good_seq fun K6 hK6 => ?_
    refine good_region rfl ?_
    refine ev_q rfl (q_move (by conv => lhs; whnf) ?_)
    refine ev_q rfl (q_move (by conv => lhs; whnf) ?_)
    refine ev_q rfl (q_nilCheck (by conv => lhs; whnf) rfl ?_)
    refine ev_q rfl (q_fieldAddr fO31_1 rfl rfl ?_)
    refine ev_q rfl (q_load tA29 rfl ?_)
    refine ev_q rfl (q_len tEs29 rfl ?_)
    intro n7 hn7
    try simp only [List.length_map] at hn7
    refine ev_q rfl (q_int rfl rfl ?_)
    intro b8 hb8; cases b8
    · replace hb8 := dF hb8
      refine ev_nil (hK6 _ ?_); clear hK6
      refine good_condF rfl ?_
      refine good_exit ?_
      repeat (first | refine thenQ_exit ?_ | refine blockQ_pass rfl ?_)
      refine blockQ_exit (hK3 _ ?_); clear hK3
      refine good_seq fun K9 hK9 => ?_
      refine good_region rfl ?_
      refine ev_q rfl (q_move (by conv => lhs; whnf) ?_)
      refine ev_q rfl (q_assign (by conv => lhs; whnf) ?_)
      refine ev_nil (hK9 _ ?_); clear hK9
      refine good_ret ?_
      repeat (first | refine thenQ_ret ?_ | refine blockQ_ret ?_)
      refine ret_tmp (st := _) rfl (by conv => lhs; whnf) rfl ?_
      clear hK5
      exact fI (by rw [show ps.length = i by omega])
    · replace hb8 := dT hb8
      obtain ⟨p, hpp⟩ := getL (xs := ps) (n := (i : Int)) (by omega) (by omega)
      replace hpp : ps[i]? = some p := hpp
      obtain ⟨_, _, _, _, hle, _, hlo⟩ := (ok.2 i p hpp).1.1
      have hpb := plo_bd (ok.2 i p hpp).1.1 h3 h4
      have hpe : plo p wa gr = dr (p.lo * p.le * (wa - gr)) 100000 := rfl
      have hst := nlG_s (wa := wa) (gr := gr) hpp
      have hbd := nlG_bd ok h3 h4 i hI
      have h20 := ok.1.2.2
      refine ev_nil (hK6 _ ?_); clear hK6
      refine good_condT rfl ?_
      refine good_skip (hK5 _ ?_); clear hK5
      refine good_seq fun K10 hK10 => ?_
      refine good_block ?_
      refine good_draw 22 hmix (by kernel_rfl) rfl ?_
      refine qo_q rfl (q_move (by conv => lhs; whnf) ?_)
      refine qo_q rfl (q_move (by conv => lhs; whnf) ?_)
      refine qo_q rfl (q_nilCheck (by conv => lhs; whnf) rfl ?_)
      refine qo_q rfl (q_fieldAddr fO31_1 rfl rfl ?_)
      refine qo_q rfl (q_load tA29 rfl ?_)
      refine qo_q rfl (q_move (by conv => lhs; whnf) ?_)
      refine qo_q rfl (q_idx tE29 rfl rfl (by exact Int.natCast_nonneg _) (by exact map_get hpp) rfl ?_)
      refine qo_q rfl (q_fieldAddr fO88_5 rfl rfl ?_)
      refine qo_q rfl (q_load tA2 rfl ?_)
      refine qo_q rfl (q_move (by conv => lhs; whnf) ?_)
      refine qo_q rfl (q_nilCheck (by conv => lhs; whnf) rfl ?_)
      refine qo_q rfl (q_fieldAddr fO31_1 rfl rfl ?_)
      refine qo_q rfl (q_load tA29 rfl ?_)
      refine qo_q rfl (q_move (by conv => lhs; whnf) ?_)
      refine qo_q rfl (q_idx tE29 rfl rfl (by exact Int.natCast_nonneg _) (by exact map_get hpp) rfl ?_)
      refine qo_q rfl (q_fieldAddr fO88_3 rfl rfl ?_)
      refine qo_q rfl (q_load tA2 rfl ?_)
      refine qo_q rfl (q_move (by conv => lhs; whnf) ?_)
      refine qo_q rfl (q_move (by conv => lhs; whnf) ?_)
      refine qo_q rfl (q_callI rfl rfl (rfl) (D_spec_l10Loses _ _ _ _ (by omega) (by omega) (by omega) (by omega)) ?_)
      intro n11 hn11
      refine qo_q rfl (q_int rfl rfl ?_)
      intro n12 hn12
      replace hn12 := in64 hn12 (by omega) (by omega)
      refine qo_q rfl (q_assign (by conv => lhs; whnf) ?_)
      refine qo_nil ?_
      refine ev_nil (hK10 _ ?_); clear hK10
      refine good_region rfl ?_
      refine ev_q rfl (q_move (by conv => lhs; whnf) ?_)
      refine ev_q rfl (q_int rfl rfl ?_)
      intro n13 hn13
      replace hn13 := in64 hn13 (by omega) (by omega)
      refine ev_q rfl (q_assign (by conv => lhs; whnf) ?_)
      refine ev_nil ?_
      clear hK3
      refine ⟨i + 1, ?_, ?_, ?_⟩
      · show _ ≤ _; omega
      · first | omega | (simp only []; omega) | (dsimp only; omega)
      · refine sub_weak ?_ ?_
        · exact weakH_none _
        · refine weakE_upd ?e8 ?r8 (weakE_upd ?e7 ?r7 (weakE_upd ?e2 ?r2 (weakE_upd ?e1 ?r1 (weakE_upd ?e0 ?r0 (weakE_junk _ _)))))
          case e0 => first | rfl | exact fI (by omega) | (simp_all)
          case r0 => intro h hh; cases hh
          case e1 => first | rfl | exact fI (by omega) | (simp_all)
          case r1 => intro h hh; cases hh
          case e2 => first | rfl | exact fI (by omega) | (simp_all)
          case r2 => intro h hh; cases hh
          case e7 => first | rfl | exact fI (by omega) | (first | rfl | exact fI (by omega))
          case r7 => intro h hh; cases hh
          case e8 => first | rfl | exact fI (by omega) | (simp_all)
          case r8 => intro h hh; cases hh

-- (impl.Network).loss
set_option maxRecDepth 20000 in
set_option maxHeartbeats 2000000 in
theorem D_impl_Network_loss (ns : List Int) (ps : List Pi) (wa gr : Int) (hn : ns.length ≤ 17592186044416) (hp : ps.length ≤ 2513169434843) (hz : idSz ps) (h3 : -5000 ≤ wa ∧ wa ≤ 20000) (h4 : -5000 ≤ gr ∧ gr ≤ 20000) (ok : netOk ns ps) : Den Try.prog 62 [.agg [.lst 1 (ns.map ci), .lst 6 (ps.map piA)], .s (.int .i64 wa), .s (.int .i64 gr)] (.s (.int .i64 (nlG ps wa gr ps.length))) := by
  refine den_of_good Try.func62 (by decide) rfl (Nat.le_of_ble_eq_true rfl) (Nat.le_of_ble_eq_true rfl) ?_
  refine good_seq fun K1 hK1 => ?_
  refine good_region rfl ?_
  refine ev_k rfl (k_box (by conv => lhs; whnf) rfl rfl rfl ?_)
  refine ev_q rfl (q_assign (by conv => lhs; whnf) ?_)
  refine ev_nil (hK1 _ ?_); clear hK1
  refine good_seq fun K2 hK2 => ?_
  refine good_region rfl ?_
  refine ev_q rfl (q_assign (by conv => lhs; whnf) ?_)
  refine ev_nil (hK2 _ ?_); clear hK2
  refine good_seq fun K3 hK3 => ?_
  refine good_seq fun K4 hK4 => ?_
  refine good_region rfl ?_
  refine ev_q rfl (q_fieldAddrP fO31_1 rfl rfl ?_)
  refine ev_q rfl (q_load tA29 rfl ?_)
  refine ev_q rfl (q_len tEs29 rfl ?_)
  intro n5 hn5
  try simp only [List.length_map] at hn5
  refine ev_q rfl (q_move (by conv => lhs; whnf) ?_)
  refine ev_nil (hK4 _ ?_); clear hK4
  refine good_block ?_
  refine good_loop (α := Nat) (fun i => { env := upd (upd (upd (upd (upd (upd ((fun _ => .junk)) 1 (.s (.int .i64 wa))) 2 (.s (.int .i64 gr))) 7 (.s (.int .i64 (nlG ps wa gr i)))) 11 (.lst 6 (ps.map piA))) 12 (.s (.int .i64 ((ps.length : Int))))) 13 (.s (.int .i64 i)), H := fun _ => none }) (fun i => i ≤ ps.length) (fun i => ps.length - i) 0 ?_ ?_ ?_
  · show 0 ≤ _; omega
  · refine sub_weak ?_ ?_
    · exact weakH_none _
    · refine weakE_upd ?e13 ?r13 (weakE_upd ?e12 ?r12 (weakE_upd ?e11 ?r11 (weakE_upd ?e7 ?r7 (weakE_upd ?e2 ?r2 (weakE_upd ?e1 ?r1 (weakE_junk _ _))))))
      case e1 => first | rfl | exact fI (by omega) | (simp_all)
      case r1 => intro h hh; cases hh
      case e2 => first | rfl | exact fI (by omega) | (simp_all)
      case r2 => intro h hh; cases hh
      case e7 => first | rfl | exact fI (by omega) | (first | rfl | exact fI (by omega))
      case r7 => intro h hh; cases hh
      case e11 => first | rfl | exact fI (by omega) | (simp_all)
      case r11 => intro h hh; cases hh
      case e12 => first | rfl | exact fI (by omega) | (simp_all)
      case r12 => intro h hh; cases hh
      case e13 => first | rfl | exact fI (by omega) | (simp_all)
      case r13 => intro h hh; cases hh
  · rintro i hI
    refine good_seq fun K6 hK6 => ?_
    refine good_region rfl ?_
    refine ev_q rfl (q_int rfl rfl ?_)
    intro b7 hb7; cases b7
    · replace hb7 := dF hb7
      refine ev_nil (hK6 _ ?_); clear hK6
      refine good_seq fun K8 hK8 => ?_
      refine good_condF rfl ?_
      refine good_exit ?_
      repeat (first | refine thenQ_exit ?_ | refine blockQ_pass rfl ?_)
      refine blockQ_exit (hK3 _ ?_); clear hK3
      refine good_seq fun K9 hK9 => ?_
      refine good_region rfl ?_
      refine ev_q rfl (q_move (by conv => lhs; whnf) ?_)
      refine ev_q rfl (q_assign (by conv => lhs; whnf) ?_)
      refine ev_nil (hK9 _ ?_); clear hK9
      refine good_ret ?_
      repeat (first | refine thenQ_ret ?_ | refine blockQ_ret ?_)
      refine ret_tmp (st := _) rfl (by conv => lhs; whnf) rfl ?_
      clear hK8
      exact fI (by rw [show ps.length = i by omega])
    · replace hb7 := dT hb7
      obtain ⟨p, hpp⟩ := getL (xs := ps) (n := (i : Int)) (by omega) (by omega)
      replace hpp : ps[i]? = some p := hpp
      obtain ⟨_, _, _, _, hle, _, hlo⟩ := (ok.2 i p hpp).1.1
      have hpb := plo_bd (ok.2 i p hpp).1.1 h3 h4
      have hpe : plo p wa gr = dr (p.lo * p.le * (wa - gr)) 100000 := rfl
      have hst := nlG_s (wa := wa) (gr := gr) hpp
      have hbd := nlG_bd ok h3 h4 i hI
      have h20 := ok.1.2.2
      refine ev_nil (hK6 _ ?_); clear hK6
      refine good_seq fun K10 hK10 => ?_
      refine good_condT rfl ?_
      refine good_skip (hK10 _ ?_); clear hK10
      refine good_seq fun K11 hK11 => ?_
      refine good_block ?_
      refine good_seq fun K12 hK12 => ?_
      refine good_region rfl ?_
      refine ev_q rfl (q_idx tE29 rfl rfl (by exact Int.natCast_nonneg _) (by exact map_get hpp) rfl ?_)
      refine ev_q rfl (q_loadA tA88 rfl rfl rfl ?_)
      refine ev_k rfl (k_alloc zA88 rfl ?_)
      refine ev_k rfl (k_store sz88 rfl (by conv => lhs; whnf) rfl rfl rfl (Nat.le_of_ble_eq_true rfl) rfl ?_)
      refine ev_nil (hK12 _ ?_); clear hK12
      refine good_region rfl ?_
      refine ev_q rfl (q_move (by conv => lhs; whnf) ?_)
      refine ev_q rfl (q_loadA tA88 rfl rfl rfl ?_)
      refine ev_q rfl (q_move (by conv => lhs; whnf) ?_)
      refine ev_q rfl (q_move (by conv => lhs; whnf) ?_)
      refine ev_q rfl (q_callI rfl rfl (rfl) (D_impl_Pipe_loss _ _ _ _ _ _ _ _ (by omega) (by omega) (by omega) (by omega)) ?_)
      intro n13 hn13
      refine ev_q rfl (q_int rfl rfl ?_)
      intro n14 hn14
      replace hn14 := in64 hn14 (by omega) (by omega)
      refine ev_q rfl (q_assign (by conv => lhs; whnf) ?_)
      refine ev_nil (hK11 _ ?_); clear hK11
      refine good_region rfl ?_
      refine ev_q rfl (q_int rfl rfl ?_)
      intro n15 hn15
      replace hn15 := in64 hn15 (by omega) (by omega)
      refine ev_q rfl (q_move (by conv => lhs; whnf) ?_)
      refine ev_nil ?_
      clear hK3
      refine ⟨i + 1, ?_, ?_, ?_⟩
      · show _ ≤ _; omega
      · first | omega | (simp only []; omega) | (dsimp only; omega)
      · refine sub_weak ?_ ?_
        · exact weakH_none _
        · refine weakE_upd ?e13 ?r13 (weakE_upd ?e12 ?r12 (weakE_upd ?e11 ?r11 (weakE_upd ?e7 ?r7 (weakE_upd ?e2 ?r2 (weakE_upd ?e1 ?r1 (weakE_junk _ _))))))
          case e1 => first | rfl | exact fI (by omega) | (simp_all)
          case r1 => intro h hh; cases hh
          case e2 => first | rfl | exact fI (by omega) | (simp_all)
          case r2 => intro h hh; cases hh
          case e7 => first | rfl | exact fI (by omega) | (first | rfl | exact fI (by omega))
          case r7 => intro h hh; cases hh
          case e11 => first | rfl | exact fI (by omega) | (simp_all)
          case r11 => intro h hh; cases hh
          case e12 => first | rfl | exact fI (by omega) | (simp_all)
          case r12 => intro h hh; cases hh
          case e13 => first | rfl | exact fI (by omega) | (simp_all)
          case r13 => intro h hh; cases hh

-- spec.NetworkLoss
set_option maxRecDepth 20000 in
set_option maxHeartbeats 2000000 in
theorem D_spec_NetworkLoss (ns : List Int) (ps : List Pi) (wa gr : Int) (hn : ns.length ≤ 17592186044416) (hp : ps.length ≤ 2513169434843) (hz : idSz ps) : Den Try.prog 13 [.agg [.lst 1 (ns.map ci), .lst 6 (ps.map piA)], .s (.int .i64 wa), .s (.int .i64 gr)] (.tup [.s (.int .i64 (if netOk ns ps then (if (-5000 ≤ wa ∧ wa ≤ 20000) ∧ (-5000 ≤ gr ∧ gr ≤ 20000) then nlG ps wa gr ps.length else 0) else 0)), .s (.int .i64 (if netOk ns ps then (if (-5000 ≤ wa ∧ wa ≤ 20000) ∧ (-5000 ≤ gr ∧ gr ≤ 20000) then 0 else 2) else 1))]) := by
  refine den_of_good Try.func13 (by decide) rfl (Nat.le_of_ble_eq_true rfl) (Nat.le_of_ble_eq_true rfl) ?_
  refine good_seq fun K1 hK1 => ?_
  refine good_region rfl ?_
  refine ev_k rfl (k_box (by conv => lhs; whnf) rfl rfl rfl ?_)
  refine ev_q rfl (q_assign (by conv => lhs; whnf) ?_)
  refine ev_q rfl (q_assign (by conv => lhs; whnf) ?_)
  refine ev_nil (hK1 _ ?_); clear hK1
  refine good_seq fun K2 hK2 => ?_
  refine good_seq fun K3 hK3 => ?_
  refine good_region rfl ?_
  refine ev_q rfl (q_callB rfl rfl (rfl) (D_spec_l04Ok ns ps hn hp hz) ?_)
  intro b4 hb4; cases b4
  · first | replace hb4 := dF hb4 | skip
    refine ev_q rfl (q_not rfl rfl ?_)
    refine ev_nil (hK3 _ ?_); clear hK3
    refine good_condT rfl ?_
    refine good_seq fun K5 hK5 => ?_
    refine good_region rfl ?_
    refine ev_q rfl (q_assign (by conv => lhs; whnf) ?_)
    refine ev_q rfl (q_assign (by conv => lhs; whnf) ?_)
    refine ev_nil (hK5 _ ?_); clear hK5
    refine good_ret ?_
    repeat (first | refine thenQ_ret ?_ | refine blockQ_ret ?_)
    refine ret_many rfl ?_
    refine res_tmp (by conv => lhs; whnf) rfl ?_
    refine res_tmp (by conv => lhs; whnf) rfl ?_
    refine res_nil ?_
    clear hK2
    exact fTup1 (by first | rfl | exact fI (by first | omega | grind) | (exfalso; first | omega | grind)) (fTup1 (by first | rfl | exact fI (by first | omega | grind) | (exfalso; first | omega | grind)) (rfl))
  · first | replace hb4 := dT hb4 | skip
    refine ev_q rfl (q_not rfl rfl ?_)
    refine ev_nil (hK3 _ ?_); clear hK3
    refine good_condF rfl ?_
    refine good_skip (hK2 _ ?_); clear hK2
    refine good_seq fun K6 hK6 => ?_
    refine good_seq fun K7 hK7 => ?_
    refine good_region rfl ?_
    refine ev_q rfl (q_move (by conv => lhs; whnf) ?_)
    refine ev_q rfl (q_callB rfl rfl (rfl) (D_spec_l03Degrees ..) ?_)
    intro b8 hb8; cases b8
    · first | replace hb8 := dF hb8 | skip
      refine ev_q rfl (q_not rfl rfl ?_)
      refine ev_q rfl (q_move (by conv => lhs; whnf) ?_)
      refine ev_skip rfl ?_
      refine ev_skip rfl ?_
      refine ev_skip rfl ?_
      refine ev_q rfl (q_pickT rfl (by conv => lhs; whnf) ?_)
      refine ev_nil (hK7 _ ?_); clear hK7
      refine good_condT rfl ?_
      refine good_seq fun K9 hK9 => ?_
      refine good_region rfl ?_
      refine ev_q rfl (q_assign (by conv => lhs; whnf) ?_)
      refine ev_q rfl (q_assign (by conv => lhs; whnf) ?_)
      refine ev_nil (hK9 _ ?_); clear hK9
      refine good_ret ?_
      repeat (first | refine thenQ_ret ?_ | refine blockQ_ret ?_)
      refine ret_many rfl ?_
      refine res_tmp (by conv => lhs; whnf) rfl ?_
      refine res_tmp (by conv => lhs; whnf) rfl ?_
      refine res_nil ?_
      clear hK6
      exact fTup1 (by first | rfl | exact fI (by first | omega | grind) | (exfalso; first | omega | grind)) (fTup1 (by first | rfl | exact fI (by first | omega | grind) | (exfalso; first | omega | grind)) (rfl))
    · first | replace hb8 := dT hb8 | skip
      refine ev_q rfl (q_not rfl rfl ?_)
      refine ev_q rfl (q_move (by conv => lhs; whnf) ?_)
      refine ev_q rfl (q_move (by conv => lhs; whnf) ?_)
      refine ev_q rfl (q_callB rfl rfl (rfl) (D_spec_l03Degrees ..) ?_)
      intro b10 hb10; cases b10
      · first | replace hb10 := dF hb10 | skip
        refine ev_q rfl (q_not rfl rfl ?_)
        refine ev_q rfl (q_pickF rfl (by conv => lhs; whnf) ?_)
        refine ev_nil (hK7 _ ?_); clear hK7
        refine good_condT rfl ?_
        refine good_seq fun K11 hK11 => ?_
        refine good_region rfl ?_
        refine ev_q rfl (q_assign (by conv => lhs; whnf) ?_)
        refine ev_q rfl (q_assign (by conv => lhs; whnf) ?_)
        refine ev_nil (hK11 _ ?_); clear hK11
        refine good_ret ?_
        repeat (first | refine thenQ_ret ?_ | refine blockQ_ret ?_)
        refine ret_many rfl ?_
        refine res_tmp (by conv => lhs; whnf) rfl ?_
        refine res_tmp (by conv => lhs; whnf) rfl ?_
        refine res_nil ?_
        clear hK6
        exact fTup1 (by first | rfl | exact fI (by first | omega | grind) | (exfalso; first | omega | grind)) (fTup1 (by first | rfl | exact fI (by first | omega | grind) | (exfalso; first | omega | grind)) (rfl))
      · first | replace hb10 := dT hb10 | skip
        refine ev_q rfl (q_not rfl rfl ?_)
        refine ev_q rfl (q_pickF rfl (by conv => lhs; whnf) ?_)
        refine ev_nil (hK7 _ ?_); clear hK7
        refine good_condF rfl ?_
        refine good_skip (hK6 _ ?_); clear hK6
        refine good_seq fun K12 hK12 => ?_
        refine good_region rfl ?_
        refine ev_q rfl (q_move (by conv => lhs; whnf) ?_)
        refine ev_q rfl (q_move (by conv => lhs; whnf) ?_)
        refine ev_q rfl (q_callI rfl rfl (rfl) (D_spec_l10Sum ns ps _ _ hn hp hz (by omega) (by omega) (by assumption)) ?_)
        intro n13 hn13
        refine ev_q rfl (q_assign (by conv => lhs; whnf) ?_)
        refine ev_q rfl (q_assign (by conv => lhs; whnf) ?_)
        refine ev_nil (hK12 _ ?_); clear hK12
        refine good_ret ?_
        repeat (first | refine thenQ_ret ?_ | refine blockQ_ret ?_)
        refine ret_many rfl ?_
        refine res_tmp (by conv => lhs; whnf) rfl ?_
        refine res_tmp (by conv => lhs; whnf) rfl ?_
        refine res_nil ?_
        exact fTup1 (by first | rfl | exact fI (by first | omega | grind) | (exfalso; first | omega | grind)) (fTup1 (by first | rfl | exact fI (by first | omega | grind) | (exfalso; first | omega | grind)) (rfl))

-- impl.NetworkLoss
set_option maxRecDepth 20000 in
set_option maxHeartbeats 2000000 in
theorem D_impl_NetworkLoss (ns : List Int) (ps : List Pi) (wa gr : Int) (hn : ns.length ≤ 17592186044416) (hp : ps.length ≤ 2513169434843) (hz : idSz ps) : Den Try.prog 15 [.agg [.lst 1 (ns.map ci), .lst 6 (ps.map piA)], .s (.int .i64 wa), .s (.int .i64 gr)] (.tup [.s (.int .i64 (if netOk ns ps then (if (-5000 ≤ wa ∧ wa ≤ 20000) ∧ (-5000 ≤ gr ∧ gr ≤ 20000) then nlG ps wa gr ps.length else 0) else 0)), .s (.int .i64 (if netOk ns ps then (if (-5000 ≤ wa ∧ wa ≤ 20000) ∧ (-5000 ≤ gr ∧ gr ≤ 20000) then 0 else 2) else 1))]) := by
  refine den_of_good Try.func15 (by decide) rfl (Nat.le_of_ble_eq_true rfl) (Nat.le_of_ble_eq_true rfl) ?_
  refine good_seq fun K1 hK1 => ?_
  refine good_region rfl ?_
  refine ev_k rfl (k_box (by conv => lhs; whnf) rfl rfl rfl ?_)
  refine ev_q rfl (q_assign (by conv => lhs; whnf) ?_)
  refine ev_q rfl (q_assign (by conv => lhs; whnf) ?_)
  refine ev_nil (hK1 _ ?_); clear hK1
  refine good_seq fun K2 hK2 => ?_
  refine good_block ?_
  refine good_seq fun K3 hK3 => ?_
  refine good_region rfl ?_
  refine ev_q rfl (q_loadA tA31 rfl rfl rfl ?_)
  refine ev_q rfl (q_callB rfl rfl (rfl) (D_impl_ValidNetwork ns ps hn hp hz) ?_)
  intro b4 hb4; cases b4
  · first | replace hb4 := dF hb4 | skip
    refine ev_q rfl (q_not rfl rfl ?_)
    refine ev_q rfl (q_assign (by conv => lhs; whnf) ?_)
    refine ev_nil (hK3 _ ?_); clear hK3
    refine good_condT rfl ?_
    refine good_seq fun K5 hK5 => ?_
    refine good_region rfl ?_
    refine ev_q rfl (q_assign (by conv => lhs; whnf) ?_)
    refine ev_q rfl (q_assign (by conv => lhs; whnf) ?_)
    refine ev_nil (hK5 _ ?_); clear hK5
    refine good_ret ?_
    repeat (first | refine thenQ_ret ?_ | refine blockQ_ret ?_)
    refine ret_many rfl ?_
    refine res_tmp (by conv => lhs; whnf) rfl ?_
    refine res_tmp (by conv => lhs; whnf) rfl ?_
    refine res_nil ?_
    clear hK2
    exact fTup1 (by first | rfl | exact fI (by first | omega | grind) | (exfalso; first | omega | grind)) (fTup1 (by first | rfl | exact fI (by first | omega | grind) | (exfalso; first | omega | grind)) (rfl))
  · first | replace hb4 := dT hb4 | skip
    refine ev_q rfl (q_not rfl rfl ?_)
    refine ev_q rfl (q_assign (by conv => lhs; whnf) ?_)
    refine ev_nil (hK3 _ ?_); clear hK3
    refine good_condF rfl ?_
    refine good_seq fun K6 hK6 => ?_
    refine good_region rfl ?_
    refine ev_q rfl (q_move (by conv => lhs; whnf) ?_)
    refine ev_q rfl (q_callB rfl rfl (rfl) (D_impl_degreesOk ..) ?_)
    intro b7 hb7; cases b7
    · first | replace hb7 := dF hb7 | skip
      refine ev_q rfl (q_not rfl rfl ?_)
      refine ev_q rfl (q_move (by conv => lhs; whnf) ?_)
      refine ev_skip rfl ?_
      refine ev_skip rfl ?_
      refine ev_skip rfl ?_
      refine ev_q rfl (q_pickT rfl (by conv => lhs; whnf) ?_)
      refine ev_q rfl (q_assign (by conv => lhs; whnf) ?_)
      refine ev_nil (hK6 _ ?_); clear hK6
      refine good_condT rfl ?_
      refine good_seq fun K8 hK8 => ?_
      refine good_region rfl ?_
      refine ev_q rfl (q_assign (by conv => lhs; whnf) ?_)
      refine ev_q rfl (q_assign (by conv => lhs; whnf) ?_)
      refine ev_nil (hK8 _ ?_); clear hK8
      refine good_ret ?_
      repeat (first | refine thenQ_ret ?_ | refine blockQ_ret ?_)
      refine ret_many rfl ?_
      refine res_tmp (by conv => lhs; whnf) rfl ?_
      refine res_tmp (by conv => lhs; whnf) rfl ?_
      refine res_nil ?_
      clear hK2
      exact fTup1 (by first | rfl | exact fI (by first | omega | grind) | (exfalso; first | omega | grind)) (fTup1 (by first | rfl | exact fI (by first | omega | grind) | (exfalso; first | omega | grind)) (rfl))
    · first | replace hb7 := dT hb7 | skip
      refine ev_q rfl (q_not rfl rfl ?_)
      refine ev_q rfl (q_move (by conv => lhs; whnf) ?_)
      refine ev_q rfl (q_move (by conv => lhs; whnf) ?_)
      refine ev_q rfl (q_callB rfl rfl (rfl) (D_impl_degreesOk ..) ?_)
      intro b9 hb9; cases b9
      · first | replace hb9 := dF hb9 | skip
        refine ev_q rfl (q_not rfl rfl ?_)
        refine ev_q rfl (q_pickF rfl (by conv => lhs; whnf) ?_)
        refine ev_q rfl (q_assign (by conv => lhs; whnf) ?_)
        refine ev_nil (hK6 _ ?_); clear hK6
        refine good_condT rfl ?_
        refine good_seq fun K10 hK10 => ?_
        refine good_region rfl ?_
        refine ev_q rfl (q_assign (by conv => lhs; whnf) ?_)
        refine ev_q rfl (q_assign (by conv => lhs; whnf) ?_)
        refine ev_nil (hK10 _ ?_); clear hK10
        refine good_ret ?_
        repeat (first | refine thenQ_ret ?_ | refine blockQ_ret ?_)
        refine ret_many rfl ?_
        refine res_tmp (by conv => lhs; whnf) rfl ?_
        refine res_tmp (by conv => lhs; whnf) rfl ?_
        refine res_nil ?_
        clear hK2
        exact fTup1 (by first | rfl | exact fI (by first | omega | grind) | (exfalso; first | omega | grind)) (fTup1 (by first | rfl | exact fI (by first | omega | grind) | (exfalso; first | omega | grind)) (rfl))
      · first | replace hb9 := dT hb9 | skip
        refine ev_q rfl (q_not rfl rfl ?_)
        refine ev_q rfl (q_pickF rfl (by conv => lhs; whnf) ?_)
        refine ev_q rfl (q_assign (by conv => lhs; whnf) ?_)
        refine ev_nil (hK6 _ ?_); clear hK6
        refine good_condF rfl ?_
        refine good_skip (hK2 _ ?_); clear hK2
        refine good_seq fun K11 hK11 => ?_
        refine good_region rfl ?_
        refine ev_q rfl (q_loadA tA31 rfl rfl rfl ?_)
        refine ev_q rfl (q_move (by conv => lhs; whnf) ?_)
        refine ev_q rfl (q_move (by conv => lhs; whnf) ?_)
        refine ev_q rfl (q_callI rfl rfl (rfl) (D_impl_Network_loss ns ps _ _ hn hp hz (by omega) (by omega) (by assumption)) ?_)
        intro n12 hn12
        refine ev_q rfl (q_assign (by conv => lhs; whnf) ?_)
        refine ev_q rfl (q_assign (by conv => lhs; whnf) ?_)
        refine ev_nil (hK11 _ ?_); clear hK11
        refine good_ret ?_
        repeat (first | refine thenQ_ret ?_ | refine blockQ_ret ?_)
        refine ret_many rfl ?_
        refine res_tmp (by conv => lhs; whnf) rfl ?_
        refine res_tmp (by conv => lhs; whnf) rfl ?_
        refine res_nil ?_
        exact fTup1 (by first | rfl | exact fI (by first | omega | grind) | (exfalso; first | omega | grind)) (fTup1 (by first | rfl | exact fI (by first | omega | grind) | (exfalso; first | omega | grind)) (rfl))

-- laws.FnExactNetworkLoss
set_option maxRecDepth 20000 in
set_option maxHeartbeats 2000000 in
theorem D_laws_FnExactNetworkLoss (ns : List Int) (ps : List Pi) (wa gr : Int) (hn : ns.length ≤ 17592186044416) (hp : ps.length ≤ 2513169434843) (hz : idSz ps) : Den Try.prog 3 [.agg [.lst 1 (ns.map ci), .lst 6 (ps.map piA)], .s (.int .i64 wa), .s (.int .i64 gr)] (.s (.bool true)) := by
  refine den_of_good Try.func3 (by decide) rfl (Nat.le_of_ble_eq_true rfl) (Nat.le_of_ble_eq_true rfl) ?_
  refine good_seq fun K1 hK1 => ?_
  refine good_region rfl ?_
  refine ev_k rfl (k_box (by conv => lhs; whnf) rfl rfl rfl ?_)
  refine ev_q rfl (q_assign (by conv => lhs; whnf) ?_)
  refine ev_nil (hK1 _ ?_); clear hK1
  refine good_seq fun K2 hK2 => ?_
  refine good_region rfl ?_
  refine ev_q rfl (q_assign (by conv => lhs; whnf) ?_)
  refine ev_nil (hK2 _ ?_); clear hK2
  refine good_seq fun K3 hK3 => ?_
  refine good_region rfl ?_
  refine ev_q rfl (q_loadA tA25 rfl rfl rfl ?_)
  refine ev_q rfl (q_move (by conv => lhs; whnf) ?_)
  refine ev_q rfl (q_callI rfl rfl (rfl) (D_laws_szNetwork ns ps _ hn hp hz (by omega)) ?_)
  intro n4 hn4
  refine ev_q rfl (q_assign (by conv => lhs; whnf) ?_)
  refine ev_nil (hK3 _ ?_); clear hK3
  refine good_seq fun K5 hK5 => ?_
  refine good_seq fun K6 hK6 => ?_
  refine good_region rfl ?_
  refine ev_q rfl (q_move (by conv => lhs; whnf) ?_)
  refine ev_q rfl (q_int rfl rfl ?_)
  intro b7 hb7; cases b7
  · replace hb7 := dF hb7
    refine ev_nil (hK6 _ ?_); clear hK6
    refine good_condF rfl ?_
    refine good_skip (hK5 _ ?_); clear hK5
    refine good_seq fun K8 hK8 => ?_
    refine good_region rfl ?_
    refine ev_q rfl (q_loadA tA25 rfl rfl rfl ?_)
    refine ev_q rfl (q_call rfl rfl (rfl) (D_laws_toNetwork ns ps hn hp) rfl ?_)
    refine ev_q rfl (q_move (by conv => lhs; whnf) ?_)
    refine ev_q rfl (q_move (by conv => lhs; whnf) ?_)
    refine ev_q rfl (q_call rfl rfl (rfl) (D_spec_NetworkLoss ns ps wa gr hn hp hz) rfl ?_)
    refine ev_q rfl (q_move (by conv => lhs; whnf) ?_)
    refine ev_q rfl (q_extractI rfl rfl ?_)
    intro n9 hn9
    refine ev_q rfl (q_extractI rfl rfl ?_)
    intro n10 hn10
    refine ev_q rfl (q_assign (by conv => lhs; whnf) ?_)
    refine ev_q rfl (q_assign (by conv => lhs; whnf) ?_)
    refine ev_nil (hK8 _ ?_); clear hK8
    refine good_seq fun K11 hK11 => ?_
    refine good_region rfl ?_
    refine ev_q rfl (q_loadA tA25 rfl rfl rfl ?_)
    refine ev_q rfl (q_call rfl rfl (rfl) (D_laws_toNetwork ns ps hn hp) rfl ?_)
    refine ev_k rfl (k_alloc zA31 rfl ?_)
    refine ev_k rfl (k_store sz31 rfl (by conv => lhs; whnf) rfl rfl rfl (Nat.le_of_ble_eq_true rfl) rfl ?_)
    refine ev_nil (hK11 _ ?_); clear hK11
    refine good_seq fun K12 hK12 => ?_
    refine good_region rfl ?_
    refine ev_q rfl (q_loadA tA31 rfl rfl rfl ?_)
    refine ev_q rfl (q_move (by conv => lhs; whnf) ?_)
    refine ev_q rfl (q_move (by conv => lhs; whnf) ?_)
    refine ev_q rfl (q_call rfl rfl (rfl) (D_impl_NetworkLoss ns ps wa gr hn hp hz) rfl ?_)
    refine ev_q rfl (q_move (by conv => lhs; whnf) ?_)
    refine ev_q rfl (q_extractI rfl rfl ?_)
    intro n13 hn13
    refine ev_q rfl (q_extractI rfl rfl ?_)
    intro n14 hn14
    refine ev_q rfl (q_assign (by conv => lhs; whnf) ?_)
    refine ev_q rfl (q_assign (by conv => lhs; whnf) ?_)
    refine ev_nil (hK12 _ ?_); clear hK12
    refine good_seq fun K15 hK15 => ?_
    refine good_seq fun K16 hK16 => ?_
    refine good_region rfl ?_
    refine ev_q rfl (q_move (by conv => lhs; whnf) ?_)
    refine ev_q rfl (q_move (by conv => lhs; whnf) ?_)
    refine ev_q rfl (q_int rfl rfl ?_)
    intro b17 hb17; cases b17
    · replace hb17 := neF hb17
      refine ev_q rfl (q_move (by conv => lhs; whnf) ?_)
      refine ev_q rfl (q_move (by conv => lhs; whnf) ?_)
      refine ev_q rfl (q_move (by conv => lhs; whnf) ?_)
      refine ev_q rfl (q_int rfl rfl ?_)
      intro b18 hb18; cases b18
      · replace hb18 := neF hb18
        refine ev_q rfl (q_pickF rfl (by conv => lhs; whnf) ?_)
        refine ev_nil (hK16 _ ?_); clear hK16
        refine good_condF rfl ?_
        refine good_skip (hK15 _ ?_); clear hK15
        refine good_seq fun K19 hK19 => ?_
        refine good_seq fun K20 hK20 => ?_
        refine good_draw 5 hmix (by kernel_rfl) rfl ?_
        refine qo_q rfl (q_loadA tA31 rfl rfl rfl ?_)
        refine qo_q rfl (q_loadA tA25 rfl rfl rfl ?_)
        refine qo_q rfl (q_call rfl rfl (rfl) (D_laws_toNetwork ns ps hn hp) rfl ?_)
        refine qo_q rfl (q_callB rfl rfl (rfl) (D_laws_eqNetwork ns ps hn hp) ?_)
        intro b21 hb21; cases b21
        · first | replace hb21 := dF hb21 | skip
          refine qo_q rfl (q_not rfl rfl ?_)
          refine qo_nil ?_
          refine ev_nil (hK20 _ ?_); clear hK20
          refine good_condT rfl ?_
          refine good_seq fun K22 hK22 => ?_
          refine good_region rfl ?_
          refine ev_q rfl (q_assign (by conv => lhs; whnf) ?_)
          refine ev_nil (hK22 _ ?_); clear hK22
          refine good_ret ?_
          repeat (first | refine thenQ_ret ?_ | refine blockQ_ret ?_)
          refine ret_tmp (st := _) rfl (by conv => lhs; whnf) rfl ?_
          clear hK19
          first | rfl | (exfalso; first | omega | contradiction | grind)
        · first | replace hb21 := dT hb21 | skip
          refine qo_q rfl (q_not rfl rfl ?_)
          refine qo_nil ?_
          refine ev_nil (hK20 _ ?_); clear hK20
          refine good_condF rfl ?_
          refine good_skip (hK19 _ ?_); clear hK19
          refine good_seq fun K23 hK23 => ?_
          refine good_region rfl ?_
          refine ev_q rfl (q_assign (by conv => lhs; whnf) ?_)
          refine ev_nil (hK23 _ ?_); clear hK23
          refine good_ret ?_
          repeat (first | refine thenQ_ret ?_ | refine blockQ_ret ?_)
          refine ret_tmp (st := _) rfl (by conv => lhs; whnf) rfl ?_
          first | rfl | (exfalso; first | omega | contradiction | grind)
      · replace hb18 := neT hb18
        refine ev_q rfl (q_pickF rfl (by conv => lhs; whnf) ?_)
        refine ev_nil (hK16 _ ?_); clear hK16
        refine good_condT rfl ?_
        refine good_seq fun K24 hK24 => ?_
        refine good_region rfl ?_
        refine ev_q rfl (q_assign (by conv => lhs; whnf) ?_)
        refine ev_nil (hK24 _ ?_); clear hK24
        refine good_ret ?_
        repeat (first | refine thenQ_ret ?_ | refine blockQ_ret ?_)
        refine ret_tmp (st := _) rfl (by conv => lhs; whnf) rfl ?_
        clear hK15
        first | rfl | (exfalso; first | omega | contradiction | grind)
    · replace hb17 := neT hb17
      refine ev_q rfl (q_move (by conv => lhs; whnf) ?_)
      refine ev_skip rfl ?_
      refine ev_skip rfl ?_
      refine ev_skip rfl ?_
      refine ev_q rfl (q_pickT rfl (by conv => lhs; whnf) ?_)
      refine ev_nil (hK16 _ ?_); clear hK16
      refine good_condT rfl ?_
      refine good_seq fun K25 hK25 => ?_
      refine good_region rfl ?_
      refine ev_q rfl (q_assign (by conv => lhs; whnf) ?_)
      refine ev_nil (hK25 _ ?_); clear hK25
      refine good_ret ?_
      repeat (first | refine thenQ_ret ?_ | refine blockQ_ret ?_)
      refine ret_tmp (st := _) rfl (by conv => lhs; whnf) rfl ?_
      clear hK15
      first | rfl | (exfalso; first | omega | contradiction | grind)
  · replace hb7 := dT hb7
    refine ev_nil (hK6 _ ?_); clear hK6
    refine good_condT rfl ?_
    refine good_seq fun K26 hK26 => ?_
    refine good_region rfl ?_
    refine ev_q rfl (q_assign (by conv => lhs; whnf) ?_)
    refine ev_nil (hK26 _ ?_); clear hK26
    refine good_ret ?_
    repeat (first | refine thenQ_ret ?_ | refine blockQ_ret ?_)
    refine ret_tmp (st := _) rfl (by conv => lhs; whnf) rfl ?_
    clear hK5
    first | rfl | (exfalso; first | omega | contradiction | grind)

end Go.Proofs.Ytpoppoglnjoomaa.DFnExactNetworkLoss
