/- Walks through the functions that FnExactYearLoss reaches: what each answers. -/
import Derived.Test.YtpoppoglnjoomaaDFnExactYearLossa
set_option linter.unusedVariables false
set_option linter.unusedSimpArgs false
namespace Go.Proofs.Ytpoppoglnjoomaa.DFnExactYearLoss
open Go Go.RowKit Go.Proofs Go.Proofs.Ytpoppoglnjoomaa Go.Proofs.Ytpoppoglnjoomaa.Ev
-- (impl.Pipe).loss
set_option maxRecDepth 20000 in
set_option maxHeartbeats 2000000 in
theorem D_impl_Pipe_loss (s : ByteArray) (fm tt le di lo : Int) (wa gr : Int) (h1 : 0 ≤ lo ∧ lo ≤ 5000) (h2 : 1 ≤ le ∧ le ≤ 10000) (h3 : -5000 ≤ wa ∧ wa ≤ 20000) (h4 : -5000 ≤ gr ∧ gr ≤ 20000) : Den Try.prog 70 [.agg [.s (.string s), .s (.int .i64 fm), .s (.int .i64 tt), .s (.int .i64 le), .s (.int .i64 di), .s (.int .i64 lo)], .s (.int .i64 wa), .s (.int .i64 gr)] (.s (.int .i64 (dr (lo * le * (wa - gr)) 100000))) := by
  have hb := loB h1 h2 h3 h4
  refine den_of_good Try.func70 (by decide) rfl (Nat.le_of_ble_eq_true rfl) (Nat.le_of_ble_eq_true rfl) ?_
  refine good_seq fun K1 hK1 => ?_
  refine good_region rfl ?_
  refine ev_k rfl (k_box (by conv => lhs; whnf) rfl rfl rfl ?_)
  refine ev_q rfl (q_assign (by conv => lhs; whnf) ?_)
  refine ev_nil (hK1 _ ?_); clear hK1
  refine good_seq fun K2 hK2 => ?_
  refine good_region rfl ?_
  refine ev_q rfl (q_fieldAddrP fO88_5 rfl rfl ?_)
  refine ev_q rfl (q_load tA2 rfl ?_)
  refine ev_q rfl (q_fieldAddrP fO88_3 rfl rfl ?_)
  refine ev_q rfl (q_load tA2 rfl ?_)
  refine ev_q rfl (q_int rfl rfl ?_)
  intro n3 hn3
  replace hn3 := in64 hn3 (by omega) (by omega)
  refine ev_q rfl (q_move (by conv => lhs; whnf) ?_)
  refine ev_q rfl (q_move (by conv => lhs; whnf) ?_)
  refine ev_q rfl (q_int rfl rfl ?_)
  intro n4 hn4
  replace hn4 := in64 hn4 (by omega) (by omega)
  refine ev_q rfl (q_int rfl rfl ?_)
  intro n5 hn5
  rw [hn3, hn4] at hn5
  replace hn5 := in64 hn5 (by omega) (by omega)
  refine ev_q rfl (q_callI rfl rfl (rfl) (D_impl_divRound _ _ (by omega) (by omega)) ?_)
  intro n6 hn6
  rw [hn5] at hn6
  refine ev_q rfl (q_assign (by conv => lhs; whnf) ?_)
  refine ev_nil (hK2 _ ?_); clear hK2
  refine good_ret ?_
  repeat (first | refine thenQ_ret ?_ | refine blockQ_ret ?_)
  refine ret_tmp (st := _) rfl (by conv => lhs; whnf) rfl ?_
  first | rfl | exact fI (by first | omega | grind) | (exfalso; first | omega | grind)

-- spec.l10Sum
set_option maxRecDepth 20000 in
set_option maxHeartbeats 2000000 in
theorem D_spec_l10Sum (ns : List Int) (ps : List Pi) (wa gr : Int) (hn : ns.length ≤ 17592186044416) (hp : ps.length ≤ 2513169434843) (hz : idSz ps) (h3 : -5000 ≤ wa ∧ wa ≤ 20000) (h4 : -5000 ≤ gr ∧ gr ≤ 20000) (ok : netOk ns ps) : Den Try.prog 58 [.rp [.lst 1 (ns.map ci), .lst 6 (ps.map piA)], .s (.int .i64 wa), .s (.int .i64 gr)] (.s (.int .i64 (nlG ps wa gr ps.length))) := by
  refine den_of_good Try.func58 (by decide) rfl (Nat.le_of_ble_eq_true rfl) (Nat.le_of_ble_eq_true rfl) ?_
  refine good_seq fun K1 hK1 => ?_
  refine good_region rfl ?_
  refine ev_q rfl (q_assign (by conv => lhs; whnf) ?_)
  refine ev_nil (hK1 _ ?_); clear hK1
  refine good_seq fun K2 hK2 => ?_
  refine good_region rfl ?_
  refine ev_q rfl (q_assign (by conv => lhs; whnf) ?_)
  refine ev_nil (hK2 _ ?_); clear hK2
  refine good_seq fun K3 hK3 => ?_
  refine good_seq fun K4 hK4 => ?_
  refine good_region rfl ?_
  refine ev_q rfl (q_assign (by conv => lhs; whnf) ?_)
  refine ev_nil (hK4 _ ?_); clear hK4
  refine good_block ?_
  refine good_loop (α := Nat) (fun i => { env := upd (upd (upd (upd (upd ((fun _ => .junk)) 0 (.rp [.lst 1 (ns.map ci), .lst 6 (ps.map piA)])) 1 (.s (.int .i64 wa))) 2 (.s (.int .i64 gr))) 7 (.s (.int .i64 (nlG ps wa gr i)))) 8 (.s (.int .i64 i)), H := fun _ => none }) (fun i => i ≤ ps.length) (fun i => ps.length - i) 0 ?_ ?_ ?_
  · show 0 ≤ _; omega
  · refine sub_weak ?_ ?_
    · exact weakH_none _
    · refine weakE_upd ?e8 ?r8 (weakE_upd ?e7 ?r7 (weakE_upd ?e2 ?r2 (weakE_upd ?e1 ?r1 (weakE_upd ?e0 ?r0 (weakE_junk _ _)))))
      case e0 => first | rfl | exact fI (by omega) | (simp_all)
      case r0 => intro h hh; cases hh
      case e1 => first | rfl | exact fI (by omega) | (simp_all)
      case r1 => intro h hh; cases hh
      case e2 => first | rfl | exact fI (by omega) | (simp_all)
      case r2 => intro h hh; cases hh
      case e7 => first | rfl | exact fI (by omega) | (first | rfl | exact fI (by omega))
      case r7 => intro h hh; cases hh
      case e8 => first | rfl | exact fI (by omega) | (simp_all)
      case r8 => intro h hh; cases hh
  · rintro i hI
    refine good_seq fun K5 hK5 => ?_
    refine good_seq fun K6 hK6 => ?_
    refine good_region rfl ?_
    refine ev_q rfl (q_move (by conv => lhs; whnf) ?_)
    refine ev_q rfl (q_move (by conv => lhs; whnf) ?_)
    refine ev_q rfl (q_nilCheck (by conv => lhs; whnf) rfl ?_)
    refine ev_q rfl (q_fieldAddr fO31_1 rfl rfl ?_)
    refine ev_q rfl (q_load tA29 rfl ?_)
    refine ev_q rfl (q_len tEs29 rfl ?_)
    intro n7 hn7
    try simp only [List.length_map] at hn7
    refine ev_q rfl (q_int rfl rfl ?_)
    intro b8 hb8; cases b8
    · replace hb8 := dF hb8
      refine ev_nil (hK6 _ ?_); clear hK6
      refine good_condF rfl ?_
      refine good_exit ?_
      repeat (first | refine thenQ_exit ?_ | refine blockQ_pass rfl ?_)
      refine blockQ_exit (hK3 _ ?_); clear hK3
      refine good_seq fun K9 hK9 => ?_
      refine good_region rfl ?_
      refine ev_q rfl (q_move (by conv => lhs; whnf) ?_)
      refine ev_q rfl (q_assign (by conv => lhs; whnf) ?_)
      refine ev_nil (hK9 _ ?_); clear hK9
      refine good_ret ?_
      repeat (first | refine thenQ_ret ?_ | refine blockQ_ret ?_)
      refine ret_tmp (st := _) rfl (by conv => lhs; whnf) rfl ?_
      clear hK5
      exact fI (by rw [show ps.length = i by omega])
    · replace hb8 := dT hb8
      obtain ⟨p, hpp⟩ := getL (xs := ps) (n := (i : Int)) (by omega) (by omega)
      replace hpp : ps[i]? = some p := hpp
      obtain ⟨_, _, _, _, hle, _, hlo⟩ := (ok.2 i p hpp).1.1
      have hpb := plo_bd (ok.2 i p hpp).1.1 h3 h4
      have hpe : plo p wa gr = dr (p.lo * p.le * (wa - gr)) 100000 := rfl
      have hst := nlG_s (wa := wa) (gr := gr) hpp
      have hbd := nlG_bd ok h3 h4 i hI
      have h20 := ok.1.2.2
      refine ev_nil (hK6 _ ?_); clear hK6
      refine good_condT rfl ?_
      refine good_skip (hK5 _ ?_); clear hK5
      refine good_seq fun K10 hK10 => ?_
      refine good_block ?_
      refine good_draw 22 hmix (by kernel_rfl) rfl ?_
      refine qo_q rfl (q_move (by conv => lhs; whnf) ?_)
      refine qo_q rfl (q_move (by conv => lhs; whnf) ?_)
      refine qo_q rfl (q_nilCheck (by conv => lhs; whnf) rfl ?_)
      refine qo_q rfl (q_fieldAddr fO31_1 rfl rfl ?_)
      refine qo_q rfl (q_load tA29 rfl ?_)
      refine qo_q rfl (q_move (by conv => lhs; whnf) ?_)
      refine qo_q rfl (q_idx tE29 rfl rfl (by exact Int.natCast_nonneg _) (by exact map_get hpp) rfl ?_)
      refine qo_q rfl (q_fieldAddr fO88_5 rfl rfl ?_)
      refine qo_q rfl (q_load tA2 rfl ?_)
      refine qo_q rfl (q_move (by conv => lhs; whnf) ?_)
      refine qo_q rfl (q_nilCheck (by conv => lhs; whnf) rfl ?_)
      refine qo_q rfl (q_fieldAddr fO31_1 rfl rfl ?_)
      refine qo_q rfl (q_load tA29 rfl ?_)
      refine qo_q rfl (q_move (by conv => lhs; whnf) ?_)
      refine qo_q rfl (q_idx tE29 rfl rfl (by exact Int.natCast_nonneg _) (by exact map_get hpp) rfl ?_)
      refine qo_q rfl (q_fieldAddr fO88_3 rfl rfl ?_)
      refine qo_q rfl (q_load tA2 rfl ?_)
      refine qo_q rfl (q_move (by conv => lhs; whnf) ?_)
      refine qo_q rfl (q_move (by conv => lhs; whnf) ?_)
      refine qo_q rfl (q_callI rfl rfl (rfl) (D_spec_l10Loses _ _ _ _ (by omega) (by omega) (by omega) (by omega)) ?_)
      intro n11 hn11
      refine qo_q rfl (q_int rfl rfl ?_)
      intro n12 hn12
      replace hn12 := in64 hn12 (by omega) (by omega)
      refine qo_q rfl (q_assign (by conv => lhs; whnf) ?_)
      refine qo_nil ?_
      refine ev_nil (hK10 _ ?_); clear hK10
      refine good_region rfl ?_
      refine ev_q rfl (q_move (by conv => lhs; whnf) ?_)
      refine ev_q rfl (q_int rfl rfl ?_)
      intro n13 hn13
      replace hn13 := in64 hn13 (by omega) (by omega)
      refine ev_q rfl (q_assign (by conv => lhs; whnf) ?_)
      refine ev_nil ?_
      clear hK3
      refine ⟨i + 1, ?_, ?_, ?_⟩
      · show _ ≤ _; omega
      · first | omega | (simp only []; omega) | (dsimp only; omega)
      · refine sub_weak ?_ ?_
        · exact weakH_none _
        · refine weakE_upd ?e8 ?r8 (weakE_upd ?e7 ?r7 (weakE_upd ?e2 ?r2 (weakE_upd ?e1 ?r1 (weakE_upd ?e0 ?r0 (weakE_junk _ _)))))
          case e0 => first | rfl | exact fI (by omega) | (simp_all)
          case r0 => intro h hh; cases hh
          case e1 => first | rfl | exact fI (by omega) | (simp_all)
          case r1 => intro h hh; cases hh
          case e2 => first | rfl | exact fI (by omega) | (simp_all)
          case r2 => intro h hh; cases hh
          case e7 => first | rfl | exact fI (by omega) | (first | rfl | exact fI (by omega))
          case r7 => intro h hh; cases hh
          case e8 => first | rfl | exact fI (by omega) | (simp_all)
          case r8 => intro h hh; cases hh

-- (impl.Network).loss
set_option maxRecDepth 20000 in
set_option maxHeartbeats 2000000 in
theorem D_impl_Network_loss (ns : List Int) (ps : List Pi) (wa gr : Int) (hn : ns.length ≤ 17592186044416) (hp : ps.length ≤ 2513169434843) (hz : idSz ps) (h3 : -5000 ≤ wa ∧ wa ≤ 20000) (h4 : -5000 ≤ gr ∧ gr ≤ 20000) (ok : netOk ns ps) : Den Try.prog 62 [.agg [.lst 1 (ns.map ci), .lst 6 (ps.map piA)], .s (.int .i64 wa), .s (.int .i64 gr)] (.s (.int .i64 (nlG ps wa gr ps.length))) := by
  refine den_of_good Try.func62 (by decide) rfl (Nat.le_of_ble_eq_true rfl) (Nat.le_of_ble_eq_true rfl) ?_
  refine good_seq fun K1 hK1 => ?_
  refine good_region rfl ?_
  refine ev_k rfl (k_box (by conv => lhs; whnf) rfl rfl rfl ?_)
  refine ev_q rfl (q_assign (by conv => lhs; whnf) ?_)
  refine ev_nil (hK1 _ ?_); clear hK1
  refine good_seq fun K2 hK2 => ?_
  refine good_region rfl ?_
  refine ev_q rfl (q_assign (by conv => lhs; whnf) ?_)
  refine ev_nil (hK2 _ ?_); clear hK2
  refine good_seq fun K3 hK3 => ?_
  refine good_seq fun K4 hK4 => ?_
  refine good_region rfl ?_
  refine ev_q rfl (q_fieldAddrP fO31_1 rfl rfl ?_)
  refine ev_q rfl (q_load tA29 rfl ?_)
  refine ev_q rfl (q_len tEs29 rfl ?_)
  intro n5 hn5
  try simp only [List.length_map] at hn5
  refine ev_q rfl (q_move (by conv => lhs; whnf) ?_)
  refine ev_nil (hK4 _ ?_); clear hK4
  refine good_block ?_
  refine good_loop (α := Nat) (fun i => { env := upd (upd (upd (upd (upd (upd ((fun _ => .junk)) 1 (.s (.int .i64 wa))) 2 (.s (.int .i64 gr))) 7 (.s (.int .i64 (nlG ps wa gr i)))) 11 (.lst 6 (ps.map piA))) 12 (.s (.int .i64 ((ps.length : Int))))) 13 (.s (.int .i64 i)), H := fun _ => none }) (fun i => i ≤ ps.length) (fun i => ps.length - i) 0 ?_ ?_ ?_
  · show 0 ≤ _; omega
  · refine sub_weak ?_ ?_
    · exact weakH_none _
    · refine weakE_upd ?e13 ?r13 (weakE_upd ?e12 ?r12 (weakE_upd ?e11 ?r11 (weakE_upd ?e7 ?r7 (weakE_upd ?e2 ?r2 (weakE_upd ?e1 ?r1 (weakE_junk _ _))))))
      case e1 => first | rfl | exact fI (by omega) | (simp_all)
      case r1 => intro h hh; cases hh
      case e2 => first | rfl | exact fI (by omega) | (simp_all)
      case r2 => intro h hh; cases hh
      case e7 => first | rfl | exact fI (by omega) | (first | rfl | exact fI (by omega))
      case r7 => intro h hh; cases hh
      case e11 => first | rfl | exact fI (by omega) | (simp_all)
      case r11 => intro h hh; cases hh
      case e12 => first | rfl | exact fI (by omega) | (simp_all)
      case r12 => intro h hh; cases hh
      case e13 => first | rfl | exact fI (by omega) | (simp_all)
      case r13 => intro h hh; cases hh
  · rintro i hI
    refine good_seq fun K6 hK6 => ?_
    refine good_region rfl ?_
    refine ev_q rfl (q_int rfl rfl ?_)
    intro b7 hb7; cases b7
    · replace hb7 := dF hb7
      refine ev_nil (hK6 _ ?_); clear hK6
      refine good_seq fun K8 hK8 => ?_
      refine good_condF rfl ?_
      refine good_exit ?_
      repeat (first | refine thenQ_exit ?_ | refine blockQ_pass rfl ?_)
      refine blockQ_exit (hK3 _ ?_); clear hK3
      refine good_seq fun K9 hK9 => ?_
      refine good_region rfl ?_
      refine ev_q rfl (q_move (by conv => lhs; whnf) ?_)
      refine ev_q rfl (q_assign (by conv => lhs; whnf) ?_)
      refine ev_nil (hK9 _ ?_); clear hK9
      refine good_ret ?_
      repeat (first | refine thenQ_ret ?_ | refine blockQ_ret ?_)
      refine ret_tmp (st := _) rfl (by conv => lhs; whnf) rfl ?_
      clear hK8
      exact fI (by rw [show ps.length = i by omega])
    · replace hb7 := dT hb7
      obtain ⟨p, hpp⟩ := getL (xs := ps) (n := (i : Int)) (by omega) (by omega)
      replace hpp : ps[i]? = some p := hpp
      obtain ⟨_, _, _, _, hle, _, hlo⟩ := (ok.2 i p hpp).1.1
      have hpb := plo_bd (ok.2 i p hpp).1.1 h3 h4
      have hpe : plo p wa gr = dr (p.lo * p.le * (wa - gr)) 100000 := rfl
      have hst := nlG_s (wa := wa) (gr := gr) hpp
      have hbd := nlG_bd ok h3 h4 i hI
      have h20 := ok.1.2.2
      refine ev_nil (hK6 _ ?_); clear hK6
      refine good_seq fun K10 hK10 => ?_
      refine good_condT rfl ?_
      refine good_skip (hK10 _ ?_); clear hK10
      refine good_seq fun K11 hK11 => ?_
      refine good_block ?_
      refine good_seq fun K12 hK12 => ?_
      refine good_region rfl ?_
      refine ev_q rfl (q_idx tE29 rfl rfl (by exact Int.natCast_nonneg _) (by exact map_get hpp) rfl ?_)
      refine ev_q rfl (q_loadA tA88 rfl rfl rfl ?_)
      refine ev_k rfl (k_alloc zA88 rfl ?_)
      refine ev_k rfl (k_store sz88 rfl (by conv => lhs; whnf) rfl rfl rfl (Nat.le_of_ble_eq_true rfl) rfl ?_)
      refine ev_nil (hK12 _ ?_); clear hK12
      refine good_region rfl ?_
      refine ev_q rfl (q_move (by conv => lhs; whnf) ?_)
      refine ev_q rfl (q_loadA tA88 rfl rfl rfl ?_)
      refine ev_q rfl (q_move (by conv => lhs; whnf) ?_)
      refine ev_q rfl (q_move (by conv => lhs; whnf) ?_)
      refine ev_q rfl (q_callI rfl rfl (rfl) (D_impl_Pipe_loss _ _ _ _ _ _ _ _ (by omega) (by omega) (by omega) (by omega)) ?_)
      intro n13 hn13
      refine ev_q rfl (q_int rfl rfl ?_)
      intro n14 hn14
      replace hn14 := in64 hn14 (by omega) (by omega)
      refine ev_q rfl (q_assign (by conv => lhs; whnf) ?_)
      refine ev_nil (hK11 _ ?_); clear hK11
      refine good_region rfl ?_
      refine ev_q rfl (q_int rfl rfl ?_)
      intro n15 hn15
      replace hn15 := in64 hn15 (by omega) (by omega)
      refine ev_q rfl (q_move (by conv => lhs; whnf) ?_)
      refine ev_nil ?_
      clear hK3
      refine ⟨i + 1, ?_, ?_, ?_⟩
      · show _ ≤ _; omega
      · first | omega | (simp only []; omega) | (dsimp only; omega)
      · refine sub_weak ?_ ?_
        · exact weakH_none _
        · refine weakE_upd ?e13 ?r13 (weakE_upd ?e12 ?r12 (weakE_upd ?e11 ?r11 (weakE_upd ?e7 ?r7 (weakE_upd ?e2 ?r2 (weakE_upd ?e1 ?r1 (weakE_junk _ _))))))
          case e1 => first | rfl | exact fI (by omega) | (simp_all)
          case r1 => intro h hh; cases hh
          case e2 => first | rfl | exact fI (by omega) | (simp_all)
          case r2 => intro h hh; cases hh
          case e7 => first | rfl | exact fI (by omega) | (first | rfl | exact fI (by omega))
          case r7 => intro h hh; cases hh
          case e11 => first | rfl | exact fI (by omega) | (simp_all)
          case r11 => intro h hh; cases hh
          case e12 => first | rfl | exact fI (by omega) | (simp_all)
          case r12 => intro h hh; cases hh
          case e13 => first | rfl | exact fI (by omega) | (simp_all)
          case r13 => intro h hh; cases hh

-- spec.YearLoss
set_option maxRecDepth 20000 in
set_option maxHeartbeats 2000000 in
theorem D_spec_YearLoss (ns : List Int) (ps : List Pi) (ws gs : List Int) (hn : ns.length ≤ 17592186044416) (hp : ps.length ≤ 2513169434843) (hz : idSz ps) (hw : ws.length ≤ 17592186044416) (hg : gs.length ≤ 17592186044416) : Den Try.prog 17 [.agg [.lst 1 (ns.map ci), .lst 6 (ps.map piA)], .lst 1 (ws.map ci), .lst 1 (gs.map ci)] (.tup [.s (.int .i64 (if netOk ns ps then (if ylOk ws gs then dr (ylG ps ws gs 12) 1000 else 0) else 0)), .s (.int .i64 (if netOk ns ps then (if ylOk ws gs then 0 else 2) else 1))]) := by
  refine den_of_good Try.func17 (by decide) rfl (Nat.le_of_ble_eq_true rfl) (Nat.le_of_ble_eq_true rfl) ?_
  refine good_seq fun K1 hK1 => ?_
  refine good_region rfl ?_
  refine ev_k rfl (k_box (by conv => lhs; whnf) rfl rfl rfl ?_)
  refine ev_q rfl (q_assign (by conv => lhs; whnf) ?_)
  refine ev_q rfl (q_assign (by conv => lhs; whnf) ?_)
  refine ev_nil (hK1 _ ?_); clear hK1
  refine good_seq fun K2 hK2 => ?_
  refine good_seq fun K3 hK3 => ?_
  refine good_region rfl ?_
  refine ev_q rfl (q_callB rfl rfl (rfl) (D_spec_l04Ok ns ps hn hp hz) ?_)
  intro b4 hb4; cases b4
  · first | replace hb4 := dF hb4 | skip
    refine ev_q rfl (q_not rfl rfl ?_)
    refine ev_nil (hK3 _ ?_); clear hK3
    refine good_condT rfl ?_
    refine good_seq fun K5 hK5 => ?_
    refine good_region rfl ?_
    refine ev_q rfl (q_assign (by conv => lhs; whnf) ?_)
    refine ev_q rfl (q_assign (by conv => lhs; whnf) ?_)
    refine ev_nil (hK5 _ ?_); clear hK5
    refine good_ret ?_
    repeat (first | refine thenQ_ret ?_ | refine blockQ_ret ?_)
    refine ret_many rfl ?_
    refine res_tmp (by conv => lhs; whnf) rfl ?_
    refine res_tmp (by conv => lhs; whnf) rfl ?_
    refine res_nil ?_
    clear hK2
    first | (have ok : netOk ns ps := (by assumption); have oy : ylOk ws gs := ⟨by omega, by omega, all_finI (Q := fun _ q => (-5000) ≤ q ∧ q ≤ 20000) hJ (by omega), all_finI (Q := fun _ q => (-5000) ≤ q ∧ q ≤ 20000) hK (by omega)⟩; exact fTup1 (fI (by rw [if_pos ok, if_pos oy, show (12 : Nat) = i by omega]; omega)) (fTup1 (fI (by rw [if_pos ok, if_pos oy])) rfl)) | (have ok : netOk ns ps := (by assumption); have oy : ¬ ylOk ws gs := (fun ⟨h1, h2, h5, h6⟩ => by first | omega | contradiction | (have := h5 _ _ hu; omega) | (have := h6 _ _ hv; omega)); exact fTup1 (fI (by rw [if_pos ok, if_neg oy])) (fTup1 (fI (by rw [if_pos ok, if_neg oy])) rfl)) | (have ok : ¬ netOk ns ps := (by assumption); exact fTup1 (fI (by rw [if_neg ok])) (fTup1 (fI (by rw [if_neg ok])) rfl))
  · first | replace hb4 := dT hb4 | skip
    refine ev_q rfl (q_not rfl rfl ?_)
    refine ev_nil (hK3 _ ?_); clear hK3
    refine good_condF rfl ?_
    refine good_skip (hK2 _ ?_); clear hK2
    refine good_seq fun K6 hK6 => ?_
    refine good_seq fun K7 hK7 => ?_
    refine good_region rfl ?_
    refine ev_q rfl (q_move (by conv => lhs; whnf) ?_)
    refine ev_q rfl (q_len tEs22 rfl ?_)
    intro n8 hn8
    try simp only [List.length_map] at hn8
    refine ev_q rfl (q_int rfl rfl ?_)
    intro b9 hb9; cases b9
    · replace hb9 := neF hb9
      refine ev_q rfl (q_move (by conv => lhs; whnf) ?_)
      refine ev_q rfl (q_move (by conv => lhs; whnf) ?_)
      refine ev_q rfl (q_len tEs22 rfl ?_)
      intro n10 hn10
      try simp only [List.length_map] at hn10
      refine ev_q rfl (q_int rfl rfl ?_)
      intro b11 hb11; cases b11
      · replace hb11 := neF hb11
        refine ev_q rfl (q_pickF rfl (by conv => lhs; whnf) ?_)
        refine ev_nil (hK7 _ ?_); clear hK7
        refine good_condF rfl ?_
        refine good_skip (hK6 _ ?_); clear hK6
        refine good_seq fun K12 hK12 => ?_
        refine good_region rfl ?_
        refine ev_q rfl (q_assign (by conv => lhs; whnf) ?_)
        refine ev_nil (hK12 _ ?_); clear hK12
        refine good_seq fun K13 hK13 => ?_
        refine good_seq fun K14 hK14 => ?_
        refine good_region rfl ?_
        refine ev_q rfl (q_assign (by conv => lhs; whnf) ?_)
        refine ev_nil (hK14 _ ?_); clear hK14
        refine good_block ?_
        refine good_loop (α := Nat) (fun i => { env := upd (upd (upd (upd (upd ((fun _ => .junk)) 1 (.lst 1 (ws.map ci))) 2 (.lst 1 (gs.map ci))) 3 (.ptr 3 0)) 8 (.s (.int .i64 (ylG ps ws gs i)))) 9 (.s (.int .i64 i)), H := upd ((fun _ => none)) 3 (some (.box 31 [.lst 1 (ns.map ci), .lst 6 (ps.map piA)])) }) (fun i => i ≤ 12 ∧ (∀ j q, j < i → ws[j]? = some q → (-5000) ≤ q ∧ q ≤ 20000) ∧ (∀ j q, j < i → gs[j]? = some q → (-5000) ≤ q ∧ q ≤ 20000)) (fun i => 12 - i) 0 ?_ ?_ ?_
        · exact ⟨by omega, fun j q hj => by omega, fun j q hj => by omega⟩
        · refine sub_weak ?_ ?_
          · exact weakH_box (boxEq (rfl)) rfl (weakH_none _)
          · refine weakE_upd ?e9 ?r9 (weakE_upd ?e8 ?r8 (weakE_upd ?e3 ?r3 (weakE_upd ?e2 ?r2 (weakE_upd ?e1 ?r1 (weakE_junk _ _)))))
            case e1 => first | rfl | exact fI (by omega) | (simp_all)
            case r1 => intro h hh; cases hh
            case e2 => first | rfl | exact fI (by omega) | (simp_all)
            case r2 => intro h hh; cases hh
            case e3 => first | rfl | exact fI (by omega) | (simp_all)
            case r3 => intro h hh; simp [refs] at hh; subst hh; rfl
            case e8 => first | rfl | exact fI (by omega) | (first | rfl | exact fI (by omega))
            case r8 => intro h hh; cases hh
            case e9 => first | rfl | exact fI (by omega) | (simp_all)
            case r9 => intro h hh; cases hh
        · rintro i ⟨hI, hJ, hK⟩
          refine good_seq fun K15 hK15 => ?_
          refine good_seq fun K16 hK16 => ?_
          refine good_region rfl ?_
          refine ev_q rfl (q_move (by conv => lhs; whnf) ?_)
          refine ev_q rfl (q_int rfl rfl ?_)
          intro b17 hb17; cases b17
          · replace hb17 := dF hb17
            refine ev_nil (hK16 _ ?_); clear hK16
            refine good_condF rfl ?_
            refine good_exit ?_
            repeat (first | refine thenQ_exit ?_ | refine blockQ_pass rfl ?_)
            refine blockQ_exit (hK13 _ ?_); clear hK13
            refine good_seq fun K18 hK18 => ?_
            refine good_region rfl ?_
            have hbd := ylG_bd ‹netOk ns ps› (by omega) (by omega) hJ hK i (Nat.le_refl _) hI
            refine ev_q rfl (q_move (by conv => lhs; whnf) ?_)
            refine ev_q rfl (q_callI rfl rfl (rfl) (D_spec_l01Div _ _ (by omega) (by omega)) ?_)
            intro n19 hn19
            refine ev_q rfl (q_assign (by conv => lhs; whnf) ?_)
            refine ev_q rfl (q_assign (by conv => lhs; whnf) ?_)
            refine ev_nil (hK18 _ ?_); clear hK18
            refine good_ret ?_
            repeat (first | refine thenQ_ret ?_ | refine blockQ_ret ?_)
            refine ret_many rfl ?_
            refine res_tmp (by conv => lhs; whnf) rfl ?_
            refine res_tmp (by conv => lhs; whnf) rfl ?_
            refine res_nil ?_
            clear hK15
            first | (have ok : netOk ns ps := (by assumption); have oy : ylOk ws gs := ⟨by omega, by omega, all_finI (Q := fun _ q => (-5000) ≤ q ∧ q ≤ 20000) hJ (by omega), all_finI (Q := fun _ q => (-5000) ≤ q ∧ q ≤ 20000) hK (by omega)⟩; exact fTup1 (fI (by rw [if_pos ok, if_pos oy, show (12 : Nat) = i by omega]; omega)) (fTup1 (fI (by rw [if_pos ok, if_pos oy])) rfl)) | (have ok : netOk ns ps := (by assumption); have oy : ¬ ylOk ws gs := (fun ⟨h1, h2, h5, h6⟩ => by first | omega | contradiction | (have := h5 _ _ hu; omega) | (have := h6 _ _ hv; omega)); exact fTup1 (fI (by rw [if_pos ok, if_neg oy])) (fTup1 (fI (by rw [if_pos ok, if_neg oy])) rfl)) | (have ok : ¬ netOk ns ps := (by assumption); exact fTup1 (fI (by rw [if_neg ok])) (fTup1 (fI (by rw [if_neg ok])) rfl))
          · replace hb17 := dT hb17
            obtain ⟨u, hu⟩ := getL (xs := ws) (n := (i : Int)) (by omega) (by omega)
            replace hu : ws[i]? = some u := hu
            obtain ⟨v, hv⟩ := getL (xs := gs) (n := (i : Int)) (by omega) (by omega)
            replace hv : gs[i]? = some v := hv
            refine ev_nil (hK16 _ ?_); clear hK16
            refine good_condT rfl ?_
            refine good_skip (hK15 _ ?_); clear hK15
            refine good_seq fun K20 hK20 => ?_
            refine good_block ?_
            refine good_seq fun K21 hK21 => ?_
            refine good_seq fun K22 hK22 => ?_
            refine good_region rfl ?_
            refine ev_q rfl (q_move (by conv => lhs; whnf) ?_)
            refine ev_q rfl (q_move (by conv => lhs; whnf) ?_)
            refine ev_q rfl (q_idx tE22 rfl rfl (by exact Int.natCast_nonneg _) (by exact map_get hu) rfl ?_)
            refine ev_q rfl (q_load tA2 rfl ?_)
            refine ev_q rfl (q_callB rfl rfl (rfl) (D_spec_l03Degrees ..) ?_)
            intro b23 hb23; cases b23
            · first | replace hb23 := dF hb23 | skip
              refine ev_q rfl (q_not rfl rfl ?_)
              refine ev_q rfl (q_move (by conv => lhs; whnf) ?_)
              refine ev_skip rfl ?_
              refine ev_skip rfl ?_
              refine ev_skip rfl ?_
              refine ev_skip rfl ?_
              refine ev_skip rfl ?_
              refine ev_skip rfl ?_
              refine ev_q rfl (q_pickT rfl (by conv => lhs; whnf) ?_)
              refine ev_nil (hK22 _ ?_); clear hK22
              refine good_condT rfl ?_
              refine good_seq fun K24 hK24 => ?_
              refine good_region rfl ?_
              refine ev_q rfl (q_assign (by conv => lhs; whnf) ?_)
              refine ev_q rfl (q_assign (by conv => lhs; whnf) ?_)
              refine ev_nil (hK24 _ ?_); clear hK24
              refine good_ret ?_
              repeat (first | refine thenQ_ret ?_ | refine blockQ_ret ?_)
              refine ret_many rfl ?_
              refine res_tmp (by conv => lhs; whnf) rfl ?_
              refine res_tmp (by conv => lhs; whnf) rfl ?_
              refine res_nil ?_
              clear hK13 hK20 hK21
              first | (have ok : netOk ns ps := (by assumption); have oy : ylOk ws gs := ⟨by omega, by omega, all_finI (Q := fun _ q => (-5000) ≤ q ∧ q ≤ 20000) hJ (by omega), all_finI (Q := fun _ q => (-5000) ≤ q ∧ q ≤ 20000) hK (by omega)⟩; exact fTup1 (fI (by rw [if_pos ok, if_pos oy, show (12 : Nat) = i by omega]; omega)) (fTup1 (fI (by rw [if_pos ok, if_pos oy])) rfl)) | (have ok : netOk ns ps := (by assumption); have oy : ¬ ylOk ws gs := (fun ⟨h1, h2, h5, h6⟩ => by first | omega | contradiction | (have := h5 _ _ hu; omega) | (have := h6 _ _ hv; omega)); exact fTup1 (fI (by rw [if_pos ok, if_neg oy])) (fTup1 (fI (by rw [if_pos ok, if_neg oy])) rfl)) | (have ok : ¬ netOk ns ps := (by assumption); exact fTup1 (fI (by rw [if_neg ok])) (fTup1 (fI (by rw [if_neg ok])) rfl))
            · first | replace hb23 := dT hb23 | skip
              refine ev_q rfl (q_not rfl rfl ?_)
              refine ev_q rfl (q_move (by conv => lhs; whnf) ?_)
              refine ev_q rfl (q_move (by conv => lhs; whnf) ?_)
              refine ev_q rfl (q_move (by conv => lhs; whnf) ?_)
              refine ev_q rfl (q_idx tE22 rfl rfl (by exact Int.natCast_nonneg _) (by exact map_get hv) rfl ?_)
              refine ev_q rfl (q_load tA2 rfl ?_)
              refine ev_q rfl (q_callB rfl rfl (rfl) (D_spec_l03Degrees ..) ?_)
              intro b25 hb25; cases b25
              · first | replace hb25 := dF hb25 | skip
                refine ev_q rfl (q_not rfl rfl ?_)
                refine ev_q rfl (q_pickF rfl (by conv => lhs; whnf) ?_)
                refine ev_nil (hK22 _ ?_); clear hK22
                refine good_condT rfl ?_
                refine good_seq fun K26 hK26 => ?_
                refine good_region rfl ?_
                refine ev_q rfl (q_assign (by conv => lhs; whnf) ?_)
                refine ev_q rfl (q_assign (by conv => lhs; whnf) ?_)
                refine ev_nil (hK26 _ ?_); clear hK26
                refine good_ret ?_
                repeat (first | refine thenQ_ret ?_ | refine blockQ_ret ?_)
                refine ret_many rfl ?_
                refine res_tmp (by conv => lhs; whnf) rfl ?_
                refine res_tmp (by conv => lhs; whnf) rfl ?_
                refine res_nil ?_
                clear hK13 hK20 hK21
                first | (have ok : netOk ns ps := (by assumption); have oy : ylOk ws gs := ⟨by omega, by omega, all_finI (Q := fun _ q => (-5000) ≤ q ∧ q ≤ 20000) hJ (by omega), all_finI (Q := fun _ q => (-5000) ≤ q ∧ q ≤ 20000) hK (by omega)⟩; exact fTup1 (fI (by rw [if_pos ok, if_pos oy, show (12 : Nat) = i by omega]; omega)) (fTup1 (fI (by rw [if_pos ok, if_pos oy])) rfl)) | (have ok : netOk ns ps := (by assumption); have oy : ¬ ylOk ws gs := (fun ⟨h1, h2, h5, h6⟩ => by first | omega | contradiction | (have := h5 _ _ hu; omega) | (have := h6 _ _ hv; omega)); exact fTup1 (fI (by rw [if_pos ok, if_neg oy])) (fTup1 (fI (by rw [if_pos ok, if_neg oy])) rfl)) | (have ok : ¬ netOk ns ps := (by assumption); exact fTup1 (fI (by rw [if_neg ok])) (fTup1 (fI (by rw [if_neg ok])) rfl))
              · first | replace hb25 := dT hb25 | skip
                refine ev_q rfl (q_not rfl rfl ?_)
                refine ev_q rfl (q_pickF rfl (by conv => lhs; whnf) ?_)
                refine ev_nil (hK22 _ ?_); clear hK22
                refine good_condF rfl ?_
                refine good_skip (hK21 _ ?_); clear hK21
                refine good_draw 13 hmix (by kernel_rfl) rfl ?_
                have hst := ylG_s (ps := ps) hu hv
                have hnb := nlG_bd ‹netOk ns ps› (wa := u) (gr := v) (by omega) (by omega) ps.length (Nat.le_refl _)
                have h20 := (‹netOk ns ps›).1.2.2
                have hbd := ylG_bd ‹netOk ns ps› (by omega) (by omega) hJ hK i (Nat.le_refl _) hI
                refine qo_q rfl (q_move (by conv => lhs; whnf) ?_)
                refine qo_q rfl (q_move (by conv => lhs; whnf) ?_)
                refine qo_q rfl (q_move (by conv => lhs; whnf) ?_)
                refine qo_q rfl (q_idx tE22 rfl rfl (by exact Int.natCast_nonneg _) (by exact map_get hu) rfl ?_)
                refine qo_q rfl (q_load tA2 rfl ?_)
                refine qo_q rfl (q_move (by conv => lhs; whnf) ?_)
                refine qo_q rfl (q_move (by conv => lhs; whnf) ?_)
                refine qo_q rfl (q_idx tE22 rfl rfl (by exact Int.natCast_nonneg _) (by exact map_get hv) rfl ?_)
                refine qo_q rfl (q_load tA2 rfl ?_)
                refine qo_q rfl (q_callI rfl rfl (rfl) (D_spec_l10Sum ns ps _ _ hn hp hz (by omega) (by omega) (by assumption)) ?_)
                intro n27 hn27
                refine qo_q rfl (q_int rfl rfl ?_)
                intro n28 hn28
                replace hn28 := in64 hn28 (by omega) (by omega)
                refine qo_q rfl (q_int rfl rfl ?_)
                intro n29 hn29
                replace hn29 := in64 hn29 (by omega) (by omega)
                refine qo_q rfl (q_assign (by conv => lhs; whnf) ?_)
                refine qo_nil ?_
                refine ev_nil (hK20 _ ?_); clear hK20
                refine good_region rfl ?_
                refine ev_q rfl (q_move (by conv => lhs; whnf) ?_)
                refine ev_q rfl (q_int rfl rfl ?_)
                intro n30 hn30
                replace hn30 := in64 hn30 (by omega) (by omega)
                refine ev_q rfl (q_assign (by conv => lhs; whnf) ?_)
                refine ev_nil ?_
                clear hK13
                refine ⟨i + 1, ?_, ?_, ?_⟩
                · exact ⟨by omega, all_extI (Q := fun _ q => (-5000) ≤ q ∧ q ≤ 20000) hJ hu (by omega), all_extI (Q := fun _ q => (-5000) ≤ q ∧ q ≤ 20000) hK hv (by omega)⟩
                · first | omega | (simp only []; omega) | (dsimp only; omega)
                · refine sub_weak ?_ ?_
                  · exact weakH_box (boxEq (rfl)) rfl (weakH_none _)
                  · refine weakE_upd ?e9 ?r9 (weakE_upd ?e8 ?r8 (weakE_upd ?e3 ?r3 (weakE_upd ?e2 ?r2 (weakE_upd ?e1 ?r1 (weakE_junk _ _)))))
                    case e1 => first | rfl | exact fI (by omega) | (simp_all)
                    case r1 => intro h hh; cases hh
                    case e2 => first | rfl | exact fI (by omega) | (simp_all)
                    case r2 => intro h hh; cases hh
                    case e3 => first | rfl | exact fI (by omega) | (simp_all)
                    case r3 => intro h hh; simp [refs] at hh; subst hh; rfl
                    case e8 => first | rfl | exact fI (by omega) | (first | rfl | exact fI (by omega))
                    case r8 => intro h hh; cases hh
                    case e9 => first | rfl | exact fI (by omega) | (simp_all)
                    case r9 => intro h hh; cases hh
      · replace hb11 := neT hb11
        refine ev_q rfl (q_pickF rfl (by conv => lhs; whnf) ?_)
        refine ev_nil (hK7 _ ?_); clear hK7
        refine good_condT rfl ?_
        refine good_seq fun K31 hK31 => ?_
        refine good_region rfl ?_
        refine ev_q rfl (q_assign (by conv => lhs; whnf) ?_)
        refine ev_q rfl (q_assign (by conv => lhs; whnf) ?_)
        refine ev_nil (hK31 _ ?_); clear hK31
        refine good_ret ?_
        repeat (first | refine thenQ_ret ?_ | refine blockQ_ret ?_)
        refine ret_many rfl ?_
        refine res_tmp (by conv => lhs; whnf) rfl ?_
        refine res_tmp (by conv => lhs; whnf) rfl ?_
        refine res_nil ?_
        clear hK6
        first | (have ok : netOk ns ps := (by assumption); have oy : ylOk ws gs := ⟨by omega, by omega, all_finI (Q := fun _ q => (-5000) ≤ q ∧ q ≤ 20000) hJ (by omega), all_finI (Q := fun _ q => (-5000) ≤ q ∧ q ≤ 20000) hK (by omega)⟩; exact fTup1 (fI (by rw [if_pos ok, if_pos oy, show (12 : Nat) = i by omega]; omega)) (fTup1 (fI (by rw [if_pos ok, if_pos oy])) rfl)) | (have ok : netOk ns ps := (by assumption); have oy : ¬ ylOk ws gs := (fun ⟨h1, h2, h5, h6⟩ => by first | omega | contradiction | (have := h5 _ _ hu; omega) | (have := h6 _ _ hv; omega)); exact fTup1 (fI (by rw [if_pos ok, if_neg oy])) (fTup1 (fI (by rw [if_pos ok, if_neg oy])) rfl)) | (have ok : ¬ netOk ns ps := (by assumption); exact fTup1 (fI (by rw [if_neg ok])) (fTup1 (fI (by rw [if_neg ok])) rfl))
    · replace hb9 := neT hb9
      refine ev_q rfl (q_move (by conv => lhs; whnf) ?_)
      refine ev_skip rfl ?_
      refine ev_skip rfl ?_
      refine ev_skip rfl ?_
      refine ev_q rfl (q_pickT rfl (by conv => lhs; whnf) ?_)
      refine ev_nil (hK7 _ ?_); clear hK7
      refine good_condT rfl ?_
      refine good_seq fun K32 hK32 => ?_
      refine good_region rfl ?_
      refine ev_q rfl (q_assign (by conv => lhs; whnf) ?_)
      refine ev_q rfl (q_assign (by conv => lhs; whnf) ?_)
      refine ev_nil (hK32 _ ?_); clear hK32
      refine good_ret ?_
      repeat (first | refine thenQ_ret ?_ | refine blockQ_ret ?_)
      refine ret_many rfl ?_
      refine res_tmp (by conv => lhs; whnf) rfl ?_
      refine res_tmp (by conv => lhs; whnf) rfl ?_
      refine res_nil ?_
      clear hK6
      first | (have ok : netOk ns ps := (by assumption); have oy : ylOk ws gs := ⟨by omega, by omega, all_finI (Q := fun _ q => (-5000) ≤ q ∧ q ≤ 20000) hJ (by omega), all_finI (Q := fun _ q => (-5000) ≤ q ∧ q ≤ 20000) hK (by omega)⟩; exact fTup1 (fI (by rw [if_pos ok, if_pos oy, show (12 : Nat) = i by omega]; omega)) (fTup1 (fI (by rw [if_pos ok, if_pos oy])) rfl)) | (have ok : netOk ns ps := (by assumption); have oy : ¬ ylOk ws gs := (fun ⟨h1, h2, h5, h6⟩ => by first | omega | contradiction | (have := h5 _ _ hu; omega) | (have := h6 _ _ hv; omega)); exact fTup1 (fI (by rw [if_pos ok, if_neg oy])) (fTup1 (fI (by rw [if_pos ok, if_neg oy])) rfl)) | (have ok : ¬ netOk ns ps := (by assumption); exact fTup1 (fI (by rw [if_neg ok])) (fTup1 (fI (by rw [if_neg ok])) rfl))

-- impl.YearLoss
set_option maxRecDepth 20000 in
set_option maxHeartbeats 2000000 in
theorem D_impl_YearLoss (ns : List Int) (ps : List Pi) (ws gs : List Int) (hn : ns.length ≤ 17592186044416) (hp : ps.length ≤ 2513169434843) (hz : idSz ps) (hw : ws.length ≤ 17592186044416) (hg : gs.length ≤ 17592186044416) : Den Try.prog 19 [.agg [.lst 1 (ns.map ci), .lst 6 (ps.map piA)], .lst 1 (ws.map ci), .lst 1 (gs.map ci)] (.tup [.s (.int .i64 (if netOk ns ps then (if ylOk ws gs then dr (ylG ps ws gs 12) 1000 else 0) else 0)), .s (.int .i64 (if netOk ns ps then (if ylOk ws gs then 0 else 2) else 1))]) := by
  refine den_of_good Try.func19 (by decide) rfl (Nat.le_of_ble_eq_true rfl) (Nat.le_of_ble_eq_true rfl) ?_
  refine good_seq fun K1 hK1 => ?_
  refine good_region rfl ?_
  refine ev_k rfl (k_box (by conv => lhs; whnf) rfl rfl rfl ?_)
  refine ev_q rfl (q_assign (by conv => lhs; whnf) ?_)
  refine ev_q rfl (q_assign (by conv => lhs; whnf) ?_)
  refine ev_nil (hK1 _ ?_); clear hK1
  refine good_seq fun K2 hK2 => ?_
  refine good_block ?_
  refine good_seq fun K3 hK3 => ?_
  refine good_region rfl ?_
  refine ev_q rfl (q_loadA tA31 rfl rfl rfl ?_)
  refine ev_q rfl (q_callB rfl rfl (rfl) (D_impl_ValidNetwork ns ps hn hp hz) ?_)
  intro b4 hb4; cases b4
  · first | replace hb4 := dF hb4 | skip
    refine ev_q rfl (q_not rfl rfl ?_)
    refine ev_q rfl (q_assign (by conv => lhs; whnf) ?_)
    refine ev_nil (hK3 _ ?_); clear hK3
    refine good_condT rfl ?_
    refine good_seq fun K5 hK5 => ?_
    refine good_region rfl ?_
    refine ev_q rfl (q_assign (by conv => lhs; whnf) ?_)
    refine ev_q rfl (q_assign (by conv => lhs; whnf) ?_)
    refine ev_nil (hK5 _ ?_); clear hK5
    refine good_ret ?_
    repeat (first | refine thenQ_ret ?_ | refine blockQ_ret ?_)
    refine ret_many rfl ?_
    refine res_tmp (by conv => lhs; whnf) rfl ?_
    refine res_tmp (by conv => lhs; whnf) rfl ?_
    refine res_nil ?_
    clear hK2
    first | (have ok : netOk ns ps := (by assumption); have oy : ylOk ws gs := ⟨by omega, by omega, hW, hG⟩; exact fTup1 (fI (by rw [if_pos ok, if_pos oy, show (12 : Nat) = i by omega]; omega)) (fTup1 (fI (by rw [if_pos ok, if_pos oy])) rfl)) | (have ok : netOk ns ps := (by assumption); have oy : ¬ ylOk ws gs := (fun ⟨h1, h2, h5, h6⟩ => by first | omega | contradiction | (have := h5 _ _ hu; omega) | (have := h6 _ _ hv; omega)); exact fTup1 (fI (by rw [if_pos ok, if_neg oy])) (fTup1 (fI (by rw [if_pos ok, if_neg oy])) rfl)) | (have ok : ¬ netOk ns ps := (by assumption); exact fTup1 (fI (by rw [if_neg ok])) (fTup1 (fI (by rw [if_neg ok])) rfl))
  · first | replace hb4 := dT hb4 | skip
    refine ev_q rfl (q_not rfl rfl ?_)
    refine ev_q rfl (q_assign (by conv => lhs; whnf) ?_)
    refine ev_nil (hK3 _ ?_); clear hK3
    refine good_condF rfl ?_
    refine good_seq fun K6 hK6 => ?_
    refine good_region rfl ?_
    refine ev_q rfl (q_move (by conv => lhs; whnf) ?_)
    refine ev_q rfl (q_len tEs22 rfl ?_)
    intro n7 hn7
    try simp only [List.length_map] at hn7
    refine ev_q rfl (q_int rfl rfl ?_)
    intro b8 hb8; cases b8
    · replace hb8 := neF hb8
      refine ev_q rfl (q_move (by conv => lhs; whnf) ?_)
      refine ev_q rfl (q_move (by conv => lhs; whnf) ?_)
      refine ev_q rfl (q_len tEs22 rfl ?_)
      intro n9 hn9
      try simp only [List.length_map] at hn9
      refine ev_q rfl (q_int rfl rfl ?_)
      intro b10 hb10; cases b10
      · replace hb10 := neF hb10
        refine ev_q rfl (q_pickF rfl (by conv => lhs; whnf) ?_)
        refine ev_q rfl (q_move (by conv => lhs; whnf) ?_)
        refine ev_q rfl (q_move (by conv => lhs; whnf) ?_)
        refine ev_q rfl (q_callB rfl rfl (rfl) (D_impl_allWithin ws _ _ hw) ?_)
        intro b11 hb11; cases b11
        · first | replace hb11 := dF hb11 | skip
          refine ev_q rfl (q_not rfl rfl ?_)
          refine ev_q rfl (q_pickF rfl (by conv => lhs; whnf) ?_)
          refine ev_q rfl (q_move (by conv => lhs; whnf) ?_)
          refine ev_skip rfl ?_
          refine ev_skip rfl ?_
          refine ev_skip rfl ?_
          refine ev_q rfl (q_pickT rfl (by conv => lhs; whnf) ?_)
          refine ev_q rfl (q_assign (by conv => lhs; whnf) ?_)
          refine ev_nil (hK6 _ ?_); clear hK6
          refine good_condT rfl ?_
          refine good_seq fun K12 hK12 => ?_
          refine good_region rfl ?_
          refine ev_q rfl (q_assign (by conv => lhs; whnf) ?_)
          refine ev_q rfl (q_assign (by conv => lhs; whnf) ?_)
          refine ev_nil (hK12 _ ?_); clear hK12
          refine good_ret ?_
          repeat (first | refine thenQ_ret ?_ | refine blockQ_ret ?_)
          refine ret_many rfl ?_
          refine res_tmp (by conv => lhs; whnf) rfl ?_
          refine res_tmp (by conv => lhs; whnf) rfl ?_
          refine res_nil ?_
          clear hK2
          first | (have ok : netOk ns ps := (by assumption); have oy : ylOk ws gs := ⟨by omega, by omega, hW, hG⟩; exact fTup1 (fI (by rw [if_pos ok, if_pos oy, show (12 : Nat) = i by omega]; omega)) (fTup1 (fI (by rw [if_pos ok, if_pos oy])) rfl)) | (have ok : netOk ns ps := (by assumption); have oy : ¬ ylOk ws gs := (fun ⟨h1, h2, h5, h6⟩ => by first | omega | contradiction | (have := h5 _ _ hu; omega) | (have := h6 _ _ hv; omega)); exact fTup1 (fI (by rw [if_pos ok, if_neg oy])) (fTup1 (fI (by rw [if_pos ok, if_neg oy])) rfl)) | (have ok : ¬ netOk ns ps := (by assumption); exact fTup1 (fI (by rw [if_neg ok])) (fTup1 (fI (by rw [if_neg ok])) rfl))
        · first | replace hb11 := dT hb11 | skip
          refine ev_q rfl (q_not rfl rfl ?_)
          refine ev_q rfl (q_pickF rfl (by conv => lhs; whnf) ?_)
          refine ev_q rfl (q_move (by conv => lhs; whnf) ?_)
          refine ev_q rfl (q_move (by conv => lhs; whnf) ?_)
          refine ev_q rfl (q_callB rfl rfl (rfl) (D_impl_allWithin gs _ _ hg) ?_)
          intro b13 hb13; cases b13
          · first | replace hb13 := dF hb13 | skip
            refine ev_q rfl (q_not rfl rfl ?_)
            refine ev_q rfl (q_pickF rfl (by conv => lhs; whnf) ?_)
            refine ev_q rfl (q_assign (by conv => lhs; whnf) ?_)
            refine ev_nil (hK6 _ ?_); clear hK6
            refine good_condT rfl ?_
            refine good_seq fun K14 hK14 => ?_
            refine good_region rfl ?_
            refine ev_q rfl (q_assign (by conv => lhs; whnf) ?_)
            refine ev_q rfl (q_assign (by conv => lhs; whnf) ?_)
            refine ev_nil (hK14 _ ?_); clear hK14
            refine good_ret ?_
            repeat (first | refine thenQ_ret ?_ | refine blockQ_ret ?_)
            refine ret_many rfl ?_
            refine res_tmp (by conv => lhs; whnf) rfl ?_
            refine res_tmp (by conv => lhs; whnf) rfl ?_
            refine res_nil ?_
            clear hK2
            first | (have ok : netOk ns ps := (by assumption); have oy : ylOk ws gs := ⟨by omega, by omega, hW, hG⟩; exact fTup1 (fI (by rw [if_pos ok, if_pos oy, show (12 : Nat) = i by omega]; omega)) (fTup1 (fI (by rw [if_pos ok, if_pos oy])) rfl)) | (have ok : netOk ns ps := (by assumption); have oy : ¬ ylOk ws gs := (fun ⟨h1, h2, h5, h6⟩ => by first | omega | contradiction | (have := h5 _ _ hu; omega) | (have := h6 _ _ hv; omega)); exact fTup1 (fI (by rw [if_pos ok, if_neg oy])) (fTup1 (fI (by rw [if_pos ok, if_neg oy])) rfl)) | (have ok : ¬ netOk ns ps := (by assumption); exact fTup1 (fI (by rw [if_neg ok])) (fTup1 (fI (by rw [if_neg ok])) rfl))
          · first | replace hb13 := dT hb13 | skip
            refine ev_q rfl (q_not rfl rfl ?_)
            refine ev_q rfl (q_pickF rfl (by conv => lhs; whnf) ?_)
            refine ev_q rfl (q_assign (by conv => lhs; whnf) ?_)
            refine ev_nil (hK6 _ ?_); clear hK6
            refine good_condF rfl ?_
            refine good_skip (hK2 _ ?_); clear hK2
            refine good_seq fun K15 hK15 => ?_
            refine good_region rfl ?_
            refine ev_q rfl (q_assign (by conv => lhs; whnf) ?_)
            refine ev_nil (hK15 _ ?_); clear hK15
            refine good_seq fun K16 hK16 => ?_
            refine good_seq fun K17 hK17 => ?_
            refine good_region rfl ?_
            have hW : within ws (-5000) 20000 := by assumption
            have hG : within gs (-5000) 20000 := by assumption
            refine ev_q rfl (q_move (by conv => lhs; whnf) ?_)
            refine ev_q rfl (q_len tEs22 rfl ?_)
            intro n18 hn18
            try simp only [List.length_map] at hn18
            refine ev_q rfl (q_move (by conv => lhs; whnf) ?_)
            refine ev_nil (hK17 _ ?_); clear hK17
            refine good_block ?_
            refine good_loop (α := Nat) (fun i => { env := upd (upd (upd (upd (upd (upd ((fun _ => .junk)) 2 (.lst 1 (gs.map ci))) 3 (.ptr 3 0)) 8 (.s (.int .i64 (ylG ps ws gs i)))) 34 (.lst 1 (ws.map ci))) 35 (.s (.int .i64 ((ws.length : Int))))) 36 (.s (.int .i64 i)), H := upd ((fun _ => none)) 3 (some (.box 31 [.lst 1 (ns.map ci), .lst 6 (ps.map piA)])) }) (fun i => i ≤ ws.length) (fun i => ws.length - i) 0 ?_ ?_ ?_
            · show 0 ≤ _; omega
            · refine sub_weak ?_ ?_
              · exact weakH_box (boxEq (rfl)) rfl (weakH_none _)
              · refine weakE_upd ?e36 ?r36 (weakE_upd ?e35 ?r35 (weakE_upd ?e34 ?r34 (weakE_upd ?e8 ?r8 (weakE_upd ?e3 ?r3 (weakE_upd ?e2 ?r2 (weakE_junk _ _))))))
                case e2 => first | rfl | exact fI (by omega) | (simp_all)
                case r2 => intro h hh; cases hh
                case e3 => first | rfl | exact fI (by omega) | (simp_all)
                case r3 => intro h hh; simp [refs] at hh; subst hh; rfl
                case e8 => first | rfl | exact fI (by omega) | (first | rfl | exact fI (by omega))
                case r8 => intro h hh; cases hh
                case e34 => first | rfl | exact fI (by omega) | (simp_all)
                case r34 => intro h hh; cases hh
                case e35 => first | rfl | exact fI (by omega) | (simp_all)
                case r35 => intro h hh; cases hh
                case e36 => first | rfl | exact fI (by omega) | (simp_all)
                case r36 => intro h hh; cases hh
            · rintro i hI
              refine good_seq fun K19 hK19 => ?_
              refine good_region rfl ?_
              refine ev_q rfl (q_int rfl rfl ?_)
              intro b20 hb20; cases b20
              · replace hb20 := dF hb20
                refine ev_nil (hK19 _ ?_); clear hK19
                refine good_seq fun K21 hK21 => ?_
                refine good_condF rfl ?_
                refine good_exit ?_
                repeat (first | refine thenQ_exit ?_ | refine blockQ_pass rfl ?_)
                refine blockQ_exit (hK16 _ ?_); clear hK16
                refine good_seq fun K22 hK22 => ?_
                refine good_region rfl ?_
                have hbd := ylG_bd ‹netOk ns ps› (by omega) (by omega) (n := i) (fun j q _ h => hW j q h) (fun j q _ h => hG j q h) i (Nat.le_refl _) (by omega)
                refine ev_q rfl (q_move (by conv => lhs; whnf) ?_)
                refine ev_q rfl (q_callI rfl rfl (rfl) (D_impl_divRound _ _ (by omega) (by omega)) ?_)
                intro n23 hn23
                refine ev_q rfl (q_assign (by conv => lhs; whnf) ?_)
                refine ev_q rfl (q_assign (by conv => lhs; whnf) ?_)
                refine ev_nil (hK22 _ ?_); clear hK22
                refine good_ret ?_
                repeat (first | refine thenQ_ret ?_ | refine blockQ_ret ?_)
                refine ret_many rfl ?_
                refine res_tmp (by conv => lhs; whnf) rfl ?_
                refine res_tmp (by conv => lhs; whnf) rfl ?_
                refine res_nil ?_
                clear hK21
                first | (have ok : netOk ns ps := (by assumption); have oy : ylOk ws gs := ⟨by omega, by omega, hW, hG⟩; exact fTup1 (fI (by rw [if_pos ok, if_pos oy, show (12 : Nat) = i by omega]; omega)) (fTup1 (fI (by rw [if_pos ok, if_pos oy])) rfl)) | (have ok : netOk ns ps := (by assumption); have oy : ¬ ylOk ws gs := (fun ⟨h1, h2, h5, h6⟩ => by first | omega | contradiction | (have := h5 _ _ hu; omega) | (have := h6 _ _ hv; omega)); exact fTup1 (fI (by rw [if_pos ok, if_neg oy])) (fTup1 (fI (by rw [if_pos ok, if_neg oy])) rfl)) | (have ok : ¬ netOk ns ps := (by assumption); exact fTup1 (fI (by rw [if_neg ok])) (fTup1 (fI (by rw [if_neg ok])) rfl))
              · replace hb20 := dT hb20
                obtain ⟨u, hu⟩ := getL (xs := ws) (n := (i : Int)) (by omega) (by omega)
                replace hu : ws[i]? = some u := hu
                obtain ⟨v, hv⟩ := getL (xs := gs) (n := (i : Int)) (by omega) (by omega)
                replace hv : gs[i]? = some v := hv
                have hwu := hW _ _ hu
                have hgv := hG _ _ hv
                have hst := ylG_s (ps := ps) hu hv
                have hnb := nlG_bd ‹netOk ns ps› (wa := u) (gr := v) (by omega) (by omega) ps.length (Nat.le_refl _)
                have h20 := (‹netOk ns ps›).1.2.2
                have hbd := ylG_bd ‹netOk ns ps› (by omega) (by omega) (n := i) (fun j q _ h => hW j q h) (fun j q _ h => hG j q h) i (Nat.le_refl _) (by omega)
                refine ev_nil (hK19 _ ?_); clear hK19
                refine good_seq fun K24 hK24 => ?_
                refine good_condT rfl ?_
                refine good_skip (hK24 _ ?_); clear hK24
                refine good_seq fun K25 hK25 => ?_
                refine good_block ?_
                refine good_seq fun K26 hK26 => ?_
                refine good_region rfl ?_
                refine ev_q rfl (q_move (by conv => lhs; whnf) ?_)
                refine ev_q rfl (q_idx tE22 rfl rfl (by exact Int.natCast_nonneg _) (by exact map_get hu) rfl ?_)
                refine ev_q rfl (q_load tA2 rfl ?_)
                refine ev_q rfl (q_assign (by conv => lhs; whnf) ?_)
                refine ev_q rfl (q_assign (by conv => lhs; whnf) ?_)
                refine ev_nil (hK26 _ ?_); clear hK26
                refine good_draw 11 hmix (by kernel_rfl) rfl ?_
                refine qo_q rfl (q_move (by conv => lhs; whnf) ?_)
                refine qo_q rfl (q_loadA tA31 rfl rfl rfl ?_)
                refine qo_q rfl (q_move (by conv => lhs; whnf) ?_)
                refine qo_q rfl (q_move (by conv => lhs; whnf) ?_)
                refine qo_q rfl (q_move (by conv => lhs; whnf) ?_)
                refine qo_q rfl (q_idx tE22 rfl rfl (by exact Int.natCast_nonneg _) (by exact map_get hv) rfl ?_)
                refine qo_q rfl (q_load tA2 rfl ?_)
                refine qo_q rfl (q_callI rfl rfl (rfl) (D_impl_Network_loss ns ps _ _ hn hp hz (by omega) (by omega) (by assumption)) ?_)
                intro n27 hn27
                refine qo_q rfl (q_int rfl rfl ?_)
                intro n28 hn28
                replace hn28 := in64 hn28 (by omega) (by omega)
                refine qo_q rfl (q_int rfl rfl ?_)
                intro n29 hn29
                replace hn29 := in64 hn29 (by omega) (by omega)
                refine qo_q rfl (q_assign (by conv => lhs; whnf) ?_)
                refine qo_nil ?_
                refine ev_nil (hK25 _ ?_); clear hK25
                refine good_region rfl ?_
                refine ev_q rfl (q_int rfl rfl ?_)
                intro n30 hn30
                replace hn30 := in64 hn30 (by omega) (by omega)
                refine ev_q rfl (q_move (by conv => lhs; whnf) ?_)
                refine ev_nil ?_
                clear hK16
                refine ⟨i + 1, ?_, ?_, ?_⟩
                · show _ ≤ _; omega
                · first | omega | (simp only []; omega) | (dsimp only; omega)
                · refine sub_weak ?_ ?_
                  · exact weakH_box (boxEq (rfl)) rfl (weakH_none _)
                  · refine weakE_upd ?e36 ?r36 (weakE_upd ?e35 ?r35 (weakE_upd ?e34 ?r34 (weakE_upd ?e8 ?r8 (weakE_upd ?e3 ?r3 (weakE_upd ?e2 ?r2 (weakE_junk _ _))))))
                    case e2 => first | rfl | exact fI (by omega) | (simp_all)
                    case r2 => intro h hh; cases hh
                    case e3 => first | rfl | exact fI (by omega) | (simp_all)
                    case r3 => intro h hh; simp [refs] at hh; subst hh; rfl
                    case e8 => first | rfl | exact fI (by omega) | (first | rfl | exact fI (by omega))
                    case r8 => intro h hh; cases hh
                    case e34 => first | rfl | exact fI (by omega) | (simp_all)
                    case r34 => intro h hh; cases hh
                    case e35 => first | rfl | exact fI (by omega) | (simp_all)
                    case r35 => intro h hh; cases hh
                    case e36 => first | rfl | exact fI (by omega) | (simp_all)
                    case r36 => intro h hh; cases hh
      · replace hb10 := neT hb10
        refine ev_q rfl (q_pickF rfl (by conv => lhs; whnf) ?_)
        refine ev_q rfl (q_move (by conv => lhs; whnf) ?_)
        refine ev_skip rfl ?_
        refine ev_skip rfl ?_
        refine ev_skip rfl ?_
        refine ev_q rfl (q_pickT rfl (by conv => lhs; whnf) ?_)
        refine ev_q rfl (q_move (by conv => lhs; whnf) ?_)
        refine ev_skip rfl ?_
        refine ev_skip rfl ?_
        refine ev_skip rfl ?_
        refine ev_q rfl (q_pickT rfl (by conv => lhs; whnf) ?_)
        refine ev_q rfl (q_assign (by conv => lhs; whnf) ?_)
        refine ev_nil (hK6 _ ?_); clear hK6
        refine good_condT rfl ?_
        refine good_seq fun K31 hK31 => ?_
        refine good_region rfl ?_
        refine ev_q rfl (q_assign (by conv => lhs; whnf) ?_)
        refine ev_q rfl (q_assign (by conv => lhs; whnf) ?_)
        refine ev_nil (hK31 _ ?_); clear hK31
        refine good_ret ?_
        repeat (first | refine thenQ_ret ?_ | refine blockQ_ret ?_)
        refine ret_many rfl ?_
        refine res_tmp (by conv => lhs; whnf) rfl ?_
        refine res_tmp (by conv => lhs; whnf) rfl ?_
        refine res_nil ?_
        clear hK2
        first | (have ok : netOk ns ps := (by assumption); have oy : ylOk ws gs := ⟨by omega, by omega, hW, hG⟩; exact fTup1 (fI (by rw [if_pos ok, if_pos oy, show (12 : Nat) = i by omega]; omega)) (fTup1 (fI (by rw [if_pos ok, if_pos oy])) rfl)) | (have ok : netOk ns ps := (by assumption); have oy : ¬ ylOk ws gs := (fun ⟨h1, h2, h5, h6⟩ => by first | omega | contradiction | (have := h5 _ _ hu; omega) | (have := h6 _ _ hv; omega)); exact fTup1 (fI (by rw [if_pos ok, if_neg oy])) (fTup1 (fI (by rw [if_pos ok, if_neg oy])) rfl)) | (have ok : ¬ netOk ns ps := (by assumption); exact fTup1 (fI (by rw [if_neg ok])) (fTup1 (fI (by rw [if_neg ok])) rfl))
    · replace hb8 := neT hb8
      refine ev_q rfl (q_move (by conv => lhs; whnf) ?_)
      refine ev_skip rfl ?_
      refine ev_skip rfl ?_
      refine ev_skip rfl ?_
      refine ev_q rfl (q_pickT rfl (by conv => lhs; whnf) ?_)
      refine ev_q rfl (q_move (by conv => lhs; whnf) ?_)
      refine ev_skip rfl ?_
      refine ev_skip rfl ?_
      refine ev_skip rfl ?_
      refine ev_q rfl (q_pickT rfl (by conv => lhs; whnf) ?_)
      refine ev_q rfl (q_move (by conv => lhs; whnf) ?_)
      refine ev_skip rfl ?_
      refine ev_skip rfl ?_
      refine ev_skip rfl ?_
      refine ev_q rfl (q_pickT rfl (by conv => lhs; whnf) ?_)
      refine ev_q rfl (q_assign (by conv => lhs; whnf) ?_)
      refine ev_nil (hK6 _ ?_); clear hK6
      refine good_condT rfl ?_
      refine good_seq fun K32 hK32 => ?_
      refine good_region rfl ?_
      refine ev_q rfl (q_assign (by conv => lhs; whnf) ?_)
      refine ev_q rfl (q_assign (by conv => lhs; whnf) ?_)
      refine ev_nil (hK32 _ ?_); clear hK32
      refine good_ret ?_
      repeat (first | refine thenQ_ret ?_ | refine blockQ_ret ?_)
      refine ret_many rfl ?_
      refine res_tmp (by conv => lhs; whnf) rfl ?_
      refine res_tmp (by conv => lhs; whnf) rfl ?_
      refine res_nil ?_
      clear hK2
      first | (have ok : netOk ns ps := (by assumption); have oy : ylOk ws gs := ⟨by omega, by omega, hW, hG⟩; exact fTup1 (fI (by rw [if_pos ok, if_pos oy, show (12 : Nat) = i by omega]; omega)) (fTup1 (fI (by rw [if_pos ok, if_pos oy])) rfl)) | (have ok : netOk ns ps := (by assumption); have oy : ¬ ylOk ws gs := (fun ⟨h1, h2, h5, h6⟩ => by first | omega | contradiction | (have := h5 _ _ hu; omega) | (have := h6 _ _ hv; omega)); exact fTup1 (fI (by rw [if_pos ok, if_neg oy])) (fTup1 (fI (by rw [if_pos ok, if_neg oy])) rfl)) | (have ok : ¬ netOk ns ps := (by assumption); exact fTup1 (fI (by rw [if_neg ok])) (fTup1 (fI (by rw [if_neg ok])) rfl))

-- laws.FnExactYearLoss
set_option maxRecDepth 20000 in
set_option maxHeartbeats 2000000 in
theorem D_laws_FnExactYearLoss (ns : List Int) (ps : List Pi) (ws gs : List Int) (hn : ns.length ≤ 17592186044416) (hp : ps.length ≤ 2513169434843) (hz : idSz ps) (hw : ws.length ≤ 17592186044416) (hg : gs.length ≤ 17592186044416) : Den Try.prog 4 [.agg [.lst 1 (ns.map ci), .lst 6 (ps.map piA)], .lst 1 (ws.map ci), .lst 1 (gs.map ci)] (.s (.bool true)) := by
  refine den_of_good Try.func4 (by decide) rfl (Nat.le_of_ble_eq_true rfl) (Nat.le_of_ble_eq_true rfl) ?_
  refine good_seq fun K1 hK1 => ?_
  refine good_region rfl ?_
  refine ev_k rfl (k_box (by conv => lhs; whnf) rfl rfl rfl ?_)
  refine ev_q rfl (q_assign (by conv => lhs; whnf) ?_)
  refine ev_nil (hK1 _ ?_); clear hK1
  refine good_seq fun K2 hK2 => ?_
  refine good_seq fun K3 hK3 => ?_
  refine good_region rfl ?_
  refine ev_q rfl (q_move (by conv => lhs; whnf) ?_)
  refine ev_q rfl (q_len tEs22 rfl ?_)
  intro n4 hn4
  try simp only [List.length_map] at hn4
  refine ev_q rfl (q_int rfl rfl ?_)
  intro b5 hb5; cases b5
  · replace hb5 := dF hb5
    refine ev_nil (hK3 _ ?_); clear hK3
    refine good_condF rfl ?_
    refine good_skip (hK2 _ ?_); clear hK2
    refine good_seq fun K6 hK6 => ?_
    refine good_seq fun K7 hK7 => ?_
    refine good_region rfl ?_
    refine ev_q rfl (q_move (by conv => lhs; whnf) ?_)
    refine ev_q rfl (q_len tEs22 rfl ?_)
    intro n8 hn8
    try simp only [List.length_map] at hn8
    refine ev_q rfl (q_int rfl rfl ?_)
    intro b9 hb9; cases b9
    · replace hb9 := dF hb9
      refine ev_nil (hK7 _ ?_); clear hK7
      refine good_condF rfl ?_
      refine good_skip (hK6 _ ?_); clear hK6
      refine good_seq fun K10 hK10 => ?_
      refine good_region rfl ?_
      refine ev_q rfl (q_assign (by conv => lhs; whnf) ?_)
      refine ev_nil (hK10 _ ?_); clear hK10
      refine good_seq fun K11 hK11 => ?_
      refine good_region rfl ?_
      refine ev_q rfl (q_loadA tA25 rfl rfl rfl ?_)
      refine ev_q rfl (q_move (by conv => lhs; whnf) ?_)
      refine ev_q rfl (q_callI rfl rfl (rfl) (D_laws_szNetwork ns ps _ hn hp hz (by omega)) ?_)
      intro n12 hn12
      refine ev_q rfl (q_assign (by conv => lhs; whnf) ?_)
      refine ev_nil (hK11 _ ?_); clear hK11
      refine good_seq fun K13 hK13 => ?_
      refine good_seq fun K14 hK14 => ?_
      refine good_region rfl ?_
      refine ev_q rfl (q_move (by conv => lhs; whnf) ?_)
      refine ev_q rfl (q_int rfl rfl ?_)
      intro b15 hb15; cases b15
      · replace hb15 := dF hb15
        refine ev_nil (hK14 _ ?_); clear hK14
        refine good_condF rfl ?_
        refine good_skip (hK13 _ ?_); clear hK13
        refine good_seq fun K16 hK16 => ?_
        refine good_region rfl ?_
        refine ev_q rfl (q_loadA tA25 rfl rfl rfl ?_)
        refine ev_q rfl (q_call rfl rfl (rfl) (D_laws_toNetwork ns ps hn hp) rfl ?_)
        refine ev_q rfl (q_move (by conv => lhs; whnf) ?_)
        refine ev_q rfl (q_call rfl rfl (rfl) (by first | exact (D_laws_toInt64S ws hw) | exact (D_laws_toInt64S gs hg)) rfl ?_)
        refine ev_q rfl (q_move (by conv => lhs; whnf) ?_)
        refine ev_q rfl (q_call rfl rfl (rfl) (by first | exact (D_laws_toInt64S ws hw) | exact (D_laws_toInt64S gs hg)) rfl ?_)
        refine ev_q rfl (q_call rfl rfl (rfl) (D_spec_YearLoss ns ps ws gs hn hp hz hw hg) rfl ?_)
        refine ev_q rfl (q_move (by conv => lhs; whnf) ?_)
        refine ev_q rfl (q_extractI rfl rfl ?_)
        intro n17 hn17
        refine ev_q rfl (q_extractI rfl rfl ?_)
        intro n18 hn18
        refine ev_q rfl (q_assign (by conv => lhs; whnf) ?_)
        refine ev_q rfl (q_assign (by conv => lhs; whnf) ?_)
        refine ev_nil (hK16 _ ?_); clear hK16
        refine good_seq fun K19 hK19 => ?_
        refine good_region rfl ?_
        refine ev_q rfl (q_loadA tA25 rfl rfl rfl ?_)
        refine ev_q rfl (q_call rfl rfl (rfl) (D_laws_toNetwork ns ps hn hp) rfl ?_)
        refine ev_k rfl (k_alloc zA31 rfl ?_)
        refine ev_k rfl (k_store sz31 rfl (by conv => lhs; whnf) rfl rfl rfl (Nat.le_of_ble_eq_true rfl) rfl ?_)
        refine ev_nil (hK19 _ ?_); clear hK19
        refine good_seq fun K20 hK20 => ?_
        refine good_region rfl ?_
        refine ev_q rfl (q_move (by conv => lhs; whnf) ?_)
        refine ev_q rfl (q_call rfl rfl (rfl) (by first | exact (D_laws_toInt64S ws hw) | exact (D_laws_toInt64S gs hg)) rfl ?_)
        refine ev_q rfl (q_assign (by conv => lhs; whnf) ?_)
        refine ev_nil (hK20 _ ?_); clear hK20
        refine good_seq fun K21 hK21 => ?_
        refine good_region rfl ?_
        refine ev_q rfl (q_move (by conv => lhs; whnf) ?_)
        refine ev_q rfl (q_call rfl rfl (rfl) (by first | exact (D_laws_toInt64S ws hw) | exact (D_laws_toInt64S gs hg)) rfl ?_)
        refine ev_q rfl (q_assign (by conv => lhs; whnf) ?_)
        refine ev_nil (hK21 _ ?_); clear hK21
        refine good_seq fun K22 hK22 => ?_
        refine good_region rfl ?_
        refine ev_q rfl (q_loadA tA31 rfl rfl rfl ?_)
        refine ev_q rfl (q_move (by conv => lhs; whnf) ?_)
        refine ev_q rfl (q_move (by conv => lhs; whnf) ?_)
        refine ev_q rfl (q_call rfl rfl (rfl) (D_impl_YearLoss ns ps ws gs hn hp hz hw hg) rfl ?_)
        refine ev_q rfl (q_move (by conv => lhs; whnf) ?_)
        refine ev_q rfl (q_extractI rfl rfl ?_)
        intro n23 hn23
        refine ev_q rfl (q_extractI rfl rfl ?_)
        intro n24 hn24
        refine ev_q rfl (q_assign (by conv => lhs; whnf) ?_)
        refine ev_q rfl (q_assign (by conv => lhs; whnf) ?_)
        refine ev_nil (hK22 _ ?_); clear hK22
        refine good_seq fun K25 hK25 => ?_
        refine good_seq fun K26 hK26 => ?_
        refine good_region rfl ?_
        refine ev_q rfl (q_move (by conv => lhs; whnf) ?_)
        refine ev_q rfl (q_move (by conv => lhs; whnf) ?_)
        refine ev_q rfl (q_int rfl rfl ?_)
        intro b27 hb27; cases b27
        · replace hb27 := neF hb27
          refine ev_q rfl (q_move (by conv => lhs; whnf) ?_)
          refine ev_q rfl (q_move (by conv => lhs; whnf) ?_)
          refine ev_q rfl (q_move (by conv => lhs; whnf) ?_)
          refine ev_q rfl (q_int rfl rfl ?_)
          intro b28 hb28; cases b28
          · replace hb28 := neF hb28
            refine ev_q rfl (q_pickF rfl (by conv => lhs; whnf) ?_)
            refine ev_nil (hK26 _ ?_); clear hK26
            refine good_condF rfl ?_
            refine good_skip (hK25 _ ?_); clear hK25
            refine good_seq fun K29 hK29 => ?_
            refine good_seq fun K30 hK30 => ?_
            refine good_draw 5 hmix (by kernel_rfl) rfl ?_
            refine qo_q rfl (q_loadA tA31 rfl rfl rfl ?_)
            refine qo_q rfl (q_loadA tA25 rfl rfl rfl ?_)
            refine qo_q rfl (q_call rfl rfl (rfl) (D_laws_toNetwork ns ps hn hp) rfl ?_)
            refine qo_q rfl (q_callB rfl rfl (rfl) (D_laws_eqNetwork ns ps hn hp) ?_)
            intro b31 hb31; cases b31
            · first | replace hb31 := dF hb31 | skip
              refine qo_q rfl (q_not rfl rfl ?_)
              refine qo_nil ?_
              refine ev_nil (hK30 _ ?_); clear hK30
              refine good_condT rfl ?_
              refine good_seq fun K32 hK32 => ?_
              refine good_region rfl ?_
              refine ev_q rfl (q_assign (by conv => lhs; whnf) ?_)
              refine ev_nil (hK32 _ ?_); clear hK32
              refine good_ret ?_
              repeat (first | refine thenQ_ret ?_ | refine blockQ_ret ?_)
              refine ret_tmp (st := _) rfl (by conv => lhs; whnf) rfl ?_
              clear hK29
              first | rfl | (exfalso; first | omega | contradiction | grind)
            · first | replace hb31 := dT hb31 | skip
              refine qo_q rfl (q_not rfl rfl ?_)
              refine qo_nil ?_
              refine ev_nil (hK30 _ ?_); clear hK30
              refine good_condF rfl ?_
              refine good_skip (hK29 _ ?_); clear hK29
              refine good_seq fun K33 hK33 => ?_
              refine good_seq fun K34 hK34 => ?_
              refine good_region rfl ?_
              refine ev_q rfl (q_move (by conv => lhs; whnf) ?_)
              refine ev_q rfl (q_move (by conv => lhs; whnf) ?_)
              refine ev_q rfl (q_call rfl rfl (rfl) (by first | exact (D_laws_toInt64S ws hw) | exact (D_laws_toInt64S gs hg)) rfl ?_)
              refine ev_q rfl (q_callB rfl rfl (rfl) (by first | exact (D_laws_eqInt64S ws hw) | exact (D_laws_eqInt64S gs hg)) ?_)
              intro b35 hb35; cases b35
              · first | replace hb35 := dF hb35 | skip
                refine ev_q rfl (q_not rfl rfl ?_)
                refine ev_nil (hK34 _ ?_); clear hK34
                refine good_condT rfl ?_
                refine good_seq fun K36 hK36 => ?_
                refine good_region rfl ?_
                refine ev_q rfl (q_assign (by conv => lhs; whnf) ?_)
                refine ev_nil (hK36 _ ?_); clear hK36
                refine good_ret ?_
                repeat (first | refine thenQ_ret ?_ | refine blockQ_ret ?_)
                refine ret_tmp (st := _) rfl (by conv => lhs; whnf) rfl ?_
                clear hK33
                first | rfl | (exfalso; first | omega | contradiction | grind)
              · first | replace hb35 := dT hb35 | skip
                refine ev_q rfl (q_not rfl rfl ?_)
                refine ev_nil (hK34 _ ?_); clear hK34
                refine good_condF rfl ?_
                refine good_skip (hK33 _ ?_); clear hK33
                refine good_seq fun K37 hK37 => ?_
                refine good_seq fun K38 hK38 => ?_
                refine good_region rfl ?_
                refine ev_q rfl (q_move (by conv => lhs; whnf) ?_)
                refine ev_q rfl (q_move (by conv => lhs; whnf) ?_)
                refine ev_q rfl (q_call rfl rfl (rfl) (by first | exact (D_laws_toInt64S ws hw) | exact (D_laws_toInt64S gs hg)) rfl ?_)
                refine ev_q rfl (q_callB rfl rfl (rfl) (by first | exact (D_laws_eqInt64S ws hw) | exact (D_laws_eqInt64S gs hg)) ?_)
                intro b39 hb39; cases b39
                · first | replace hb39 := dF hb39 | skip
                  refine ev_q rfl (q_not rfl rfl ?_)
                  refine ev_nil (hK38 _ ?_); clear hK38
                  refine good_condT rfl ?_
                  refine good_seq fun K40 hK40 => ?_
                  refine good_region rfl ?_
                  refine ev_q rfl (q_assign (by conv => lhs; whnf) ?_)
                  refine ev_nil (hK40 _ ?_); clear hK40
                  refine good_ret ?_
                  repeat (first | refine thenQ_ret ?_ | refine blockQ_ret ?_)
                  refine ret_tmp (st := _) rfl (by conv => lhs; whnf) rfl ?_
                  clear hK37
                  first | rfl | (exfalso; first | omega | contradiction | grind)
                · first | replace hb39 := dT hb39 | skip
                  refine ev_q rfl (q_not rfl rfl ?_)
                  refine ev_nil (hK38 _ ?_); clear hK38
                  refine good_condF rfl ?_
                  refine good_skip (hK37 _ ?_); clear hK37
                  refine good_seq fun K41 hK41 => ?_
                  refine good_region rfl ?_
                  refine ev_q rfl (q_assign (by conv => lhs; whnf) ?_)
                  refine ev_nil (hK41 _ ?_); clear hK41
                  refine good_ret ?_
                  repeat (first | refine thenQ_ret ?_ | refine blockQ_ret ?_)
                  refine ret_tmp (st := _) rfl (by conv => lhs; whnf) rfl ?_
                  first | rfl | (exfalso; first | omega | contradiction | grind)
          · replace hb28 := neT hb28
            refine ev_q rfl (q_pickF rfl (by conv => lhs; whnf) ?_)
            refine ev_nil (hK26 _ ?_); clear hK26
            refine good_condT rfl ?_
            refine good_seq fun K42 hK42 => ?_
            refine good_region rfl ?_
            refine ev_q rfl (q_assign (by conv => lhs; whnf) ?_)
            refine ev_nil (hK42 _ ?_); clear hK42
            refine good_ret ?_
            repeat (first | refine thenQ_ret ?_ | refine blockQ_ret ?_)
            refine ret_tmp (st := _) rfl (by conv => lhs; whnf) rfl ?_
            clear hK25
            first | rfl | (exfalso; first | omega | contradiction | grind)
        · replace hb27 := neT hb27
          refine ev_q rfl (q_move (by conv => lhs; whnf) ?_)
          refine ev_skip rfl ?_
          refine ev_skip rfl ?_
          refine ev_skip rfl ?_
          refine ev_q rfl (q_pickT rfl (by conv => lhs; whnf) ?_)
          refine ev_nil (hK26 _ ?_); clear hK26
          refine good_condT rfl ?_
          refine good_seq fun K43 hK43 => ?_
          refine good_region rfl ?_
          refine ev_q rfl (q_assign (by conv => lhs; whnf) ?_)
          refine ev_nil (hK43 _ ?_); clear hK43
          refine good_ret ?_
          repeat (first | refine thenQ_ret ?_ | refine blockQ_ret ?_)
          refine ret_tmp (st := _) rfl (by conv => lhs; whnf) rfl ?_
          clear hK25
          first | rfl | (exfalso; first | omega | contradiction | grind)
      · replace hb15 := dT hb15
        refine ev_nil (hK14 _ ?_); clear hK14
        refine good_condT rfl ?_
        refine good_seq fun K44 hK44 => ?_
        refine good_region rfl ?_
        refine ev_q rfl (q_assign (by conv => lhs; whnf) ?_)
        refine ev_nil (hK44 _ ?_); clear hK44
        refine good_ret ?_
        repeat (first | refine thenQ_ret ?_ | refine blockQ_ret ?_)
        refine ret_tmp (st := _) rfl (by conv => lhs; whnf) rfl ?_
        clear hK13
        first | rfl | (exfalso; first | omega | contradiction | grind)
    · replace hb9 := dT hb9
      refine ev_nil (hK7 _ ?_); clear hK7
      refine good_condT rfl ?_
      refine good_seq fun K45 hK45 => ?_
      refine good_region rfl ?_
      refine ev_q rfl (q_assign (by conv => lhs; whnf) ?_)
      refine ev_nil (hK45 _ ?_); clear hK45
      refine good_ret ?_
      repeat (first | refine thenQ_ret ?_ | refine blockQ_ret ?_)
      refine ret_tmp (st := _) rfl (by conv => lhs; whnf) rfl ?_
      clear hK6
      first | rfl | (exfalso; first | omega | contradiction | grind)
  · replace hb5 := dT hb5
    refine ev_nil (hK3 _ ?_); clear hK3
    refine good_condT rfl ?_
    refine good_seq fun K46 hK46 => ?_
    refine good_region rfl ?_
    refine ev_q rfl (q_assign (by conv => lhs; whnf) ?_)
    refine ev_nil (hK46 _ ?_); clear hK46
    refine good_ret ?_
    repeat (first | refine thenQ_ret ?_ | refine blockQ_ret ?_)
    refine ret_tmp (st := _) rfl (by conv => lhs; whnf) rfl ?_
    clear hK2
    first | rfl | (exfalso; first | omega | contradiction | grind)

end Go.Proofs.Ytpoppoglnjoomaa.DFnExactYearLoss
