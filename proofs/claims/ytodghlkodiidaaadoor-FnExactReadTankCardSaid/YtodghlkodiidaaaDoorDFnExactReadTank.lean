/- Walks through the functions that FnExactReadTank reaches: what each answers. -/
import Derived.Test.YtodghlkodiidaaaDoorDFnExactReadTanka
set_option linter.unusedVariables false
set_option linter.unusedSimpArgs false
namespace Go.Proofs.YtodghlkodiidaaaDoor.DFnExactReadTank
open Go Go.RowKit Go.Proofs Go.Proofs.YtodghlkodiidaaaDoor Go.Proofs.YtodghlkodiidaaaDoor.Ev
-- impl.ReadTank
set_option maxRecDepth 20000 in
set_option maxHeartbeats 2000000 in
theorem D_impl_ReadTank (s : ByteArray) (hs : s.size ≤ 1048576) : Den Tryd.prog 29 [.s (.string s)] (.tup [.agg [.s (.int .i64 (rtV s 0)), .s (.int .i64 (rtV s 1)), .s (.int .i64 (rtV s 2))], .s (.bool (decide (rtB s)))]) := by
  refine den_of_good Tryd.func29 (by decide) rfl (Nat.le_of_ble_eq_true rfl) (Nat.le_of_ble_eq_true rfl) ?_
  refine good_seq fun K1 hK1 => ?_
  refine good_region rfl ?_
  refine ev_k rfl (k_alloc zA25 rfl ?_)
  refine ev_q rfl (q_assign (by conv => lhs; whnf) ?_)
  refine ev_nil (hK1 _ ?_); clear hK1
  refine good_seq fun K2 hK2 => ?_
  refine good_region rfl ?_
  refine ev_q rfl (q_move (by conv => lhs; whnf) ?_)
  refine ev_q rfl (q_call rfl rfl (rfl) (D_impl_readNumbers s 3 hs (by omega)) rfl ?_)
  refine ev_q rfl (q_move (by conv => lhs; whnf) ?_)
  refine ev_q rfl (q_extract rfl rfl ?_)
  refine ev_q rfl (q_extractB rfl rfl ?_)
  intro b3 hb3; cases b3
  · first | replace hb3 := dF hb3 | skip
    have hno : ¬ rtB s := fun h => hb3 h.1
    refine ev_q rfl (q_assign (by conv => lhs; whnf) ?_)
    refine ev_q rfl (q_assign (by conv => lhs; whnf) ?_)
    refine ev_nil (hK2 _ ?_); clear hK2
    refine good_join { env := upd (upd (upd (upd ((fun _ => .junk)) 0 (.s (.string s))) 2 (.ptr 2 0)) 5 (.s (.bool false))) 6 (.ptr 6 0), H := upd (upd ((fun _ => none)) 6 (some (.box 25 [.s (.int .i64 (tkv s 3 0)), .s (.int .i64 (tkv s 3 1)), .s (.int .i64 (tkv s 3 2))]))) 2 (some (.box 25 [.s (.int .i64 0), .s (.int .i64 0), .s (.int .i64 0)])) } ?_ fun K4 hK4 => ?_
    · refine good_seq fun K5 hK5 => ?_
      refine good_seq fun K6 hK6 => ?_
      refine good_region rfl ?_
      refine ev_q rfl (q_move (by conv => lhs; whnf) ?_)
      refine ev_q rfl (q_not rfl rfl ?_)
      refine ev_q rfl (q_move (by conv => lhs; whnf) ?_)
      refine ev_skip rfl ?_
      refine ev_skip rfl ?_
      refine ev_skip rfl ?_
      refine ev_skip rfl ?_
      refine ev_q rfl (q_pickT rfl (by conv => lhs; whnf) ?_)
      refine ev_nil (hK6 _ ?_); clear hK6
      refine good_condT rfl ?_
      refine good_seq fun K7 hK7 => ?_
      refine good_region rfl ?_
      refine ev_k rfl (k_build (cs := [.s (.int .i64 0), .s (.int .i64 0), .s (.int .i64 0)]) zA25 pl25 (rfl) ?_)
      refine ev_k rfl (k_store sz25 rfl (by conv => lhs; whnf) rfl rfl rfl (Nat.le_of_ble_eq_true rfl) rfl ?_)
      refine ev_q rfl (q_assign (by conv => lhs; whnf) ?_)
      refine ev_nil (hK7 _ ?_); clear hK7
      refine good_ret ?_
      repeat (first | refine thenQ_ret ?_ | refine blockQ_ret ?_)
      refine ret_many rfl ?_
      refine res_cell tA25 rfl rfl rfl ?_
      refine res_tmp (by conv => lhs; whnf) rfl ?_
      refine res_nil ?_
      clear hK5
      first | exact fTup1 (by rw [rtV_n hno, rtV_n hno, rtV_n hno]) (fTup1 (fF hno) rfl) | exact fTup1 (by rw [rtV_y hyo, rtV_y hyo, rtV_y hyo]) (fTup1 (fT hyo) rfl)
    · refine good_any 12 (listed := #[false, false, false, false, false, false, false, false, false, false, false, false]) rfl rfl hmix rfl ?_
      refine tn_first_q (i := 0) (listed' := #[true, false, false, false, false, false, false, false, false, false, false, false]) rfl rfl (by kernel_rfl) rfl (q_move (by conv => lhs; whnf) ?_)
      refine tn_firstS_q (i := 1) (listed' := #[true, true, false, false, false, false, false, false, false, false, false, false]) rfl rfl (by kernel_rfl) rfl rfl (q_idx tE69 rfl rfl (by decide) (by exact rnL_get (by decide)) rfl ?_)
      refine tn_firstS_q (i := 2) (listed' := #[true, true, true, false, false, false, false, false, false, false, false, false]) rfl rfl (by kernel_rfl) rfl rfl (q_load tA2 rfl ?_)
      refine tn_first_q (i := 3) (listed' := #[true, true, true, true, false, false, false, false, false, false, false, false]) rfl rfl (by kernel_rfl) rfl (q_move (by conv => lhs; whnf) ?_)
      refine tn_firstS_q (i := 4) (listed' := #[true, true, true, true, true, false, false, false, false, false, false, false]) rfl rfl (by kernel_rfl) rfl rfl (q_idx tE69 rfl rfl (by decide) (by exact rnL_get (by decide)) rfl ?_)
      refine tn_firstS_q (i := 5) (listed' := #[true, true, true, true, true, true, false, false, false, false, false, false]) rfl rfl (by kernel_rfl) rfl rfl (q_load tA2 rfl ?_)
      refine tn_first_q (i := 6) (listed' := #[true, true, true, true, true, true, true, false, false, false, false, false]) rfl rfl (by kernel_rfl) rfl (q_move (by conv => lhs; whnf) ?_)
      refine tn_firstS_q (i := 7) (listed' := #[true, true, true, true, true, true, true, true, false, false, false, false]) rfl rfl (by kernel_rfl) rfl rfl (q_idx tE69 rfl rfl (by decide) (by exact rnL_get (by decide)) rfl ?_)
      refine tn_firstS_q (i := 8) (listed' := #[true, true, true, true, true, true, true, true, true, false, false, false]) rfl rfl (by kernel_rfl) rfl rfl (q_load tA2 rfl ?_)
      refine tn_step [9, 10] (by kernel_rfl) rfl ?_
      refine ⟨?_, ?_, trivial⟩
      · refine tn_k (listed' := #[true, true, true, true, true, true, true, true, true, true, false, false]) rfl rfl rfl rfl (k_build zA25 pl25 (rfl) ?_)
        refine tn_step [10] (by kernel_rfl) rfl ?_
        refine ⟨?_, trivial⟩
        · refine tn_k (listed' := #[true, true, true, true, true, true, true, true, true, true, true, false]) rfl rfl rfl rfl (k_alloc zA25 rfl ?_)
          refine tn_step [11] (by kernel_rfl) rfl ?_
          refine ⟨?_, trivial⟩
          · refine tn_k (listed' := #[true, true, true, true, true, true, true, true, true, true, true, true]) rfl rfl rfl rfl (k_store sz25 rfl (by conv => lhs; whnf) rfl rfl rfl (Nat.le_of_ble_eq_true rfl) rfl ?_)
            refine tn_end (by kernel_rfl) (hK4 _ ?_); clear hK4
            refine sub_weak ?_ ?_
            · exact weakH_box (boxEq (rfl)) rfl (weakH_box (boxEq (rfl)) rfl (weakH_none _))
            · refine weakE_upd ?e6 ?r6 (weakE_upd ?e5 ?r5 (weakE_upd ?e2 ?r2 (weakE_upd ?e0 ?r0 (weakE_junk _ _))))
              case e0 => first | rfl | exact fI (by omega) | (rfl)
              case r0 => intro h hh; cases hh
              case e2 => first | rfl | exact fI (by omega) | (rfl)
              case r2 => intro h hh; simp [refs] at hh; subst hh; rfl
              case e5 => first | rfl | exact fI (by omega) | (rfl)
              case r5 => intro h hh; cases hh
              case e6 => first | rfl | exact fI (by omega) | (rfl)
              case r6 => intro h hh; simp [refs] at hh; subst hh; rfl
      · refine tn_k (listed' := #[true, true, true, true, true, true, true, true, true, false, true, false]) rfl rfl rfl rfl (k_alloc zA25 rfl ?_)
        refine tn_step [9] (by kernel_rfl) rfl ?_
        refine ⟨?_, trivial⟩
        · refine tn_k (listed' := #[true, true, true, true, true, true, true, true, true, true, true, false]) rfl rfl rfl rfl (k_build zA25 pl25 (rfl) ?_)
          refine tn_step [11] (by kernel_rfl) rfl ?_
          refine ⟨?_, trivial⟩
          · refine tn_k (listed' := #[true, true, true, true, true, true, true, true, true, true, true, true]) rfl rfl rfl rfl (k_store sz25 rfl (by conv => lhs; whnf) rfl rfl rfl (Nat.le_of_ble_eq_true rfl) rfl ?_)
            refine tn_end (by kernel_rfl) (hK4 _ ?_); clear hK4
            refine sub_weak ?_ ?_
            · exact weakH_box (boxEq (rfl)) rfl (weakH_box (boxEq (rfl)) rfl (weakH_none _))
            · refine weakE_upd ?e6 ?r6 (weakE_upd ?e5 ?r5 (weakE_upd ?e2 ?r2 (weakE_upd ?e0 ?r0 (weakE_junk _ _))))
              case e0 => first | rfl | exact fI (by omega) | (rfl)
              case r0 => intro h hh; cases hh
              case e2 => first | rfl | exact fI (by omega) | (rfl)
              case r2 => intro h hh; simp [refs] at hh; subst hh; rfl
              case e5 => first | rfl | exact fI (by omega) | (rfl)
              case r5 => intro h hh; cases hh
              case e6 => first | rfl | exact fI (by omega) | (rfl)
              case r6 => intro h hh; simp [refs] at hh; subst hh; rfl
  · first | replace hb3 := dT hb3 | skip
    have hy3 : okN s 3 := hb3
    refine ev_q rfl (q_assign (by conv => lhs; whnf) ?_)
    refine ev_q rfl (q_assign (by conv => lhs; whnf) ?_)
    refine ev_nil (hK2 _ ?_); clear hK2
    refine good_join { env := upd (upd (upd (upd ((fun _ => .junk)) 0 (.s (.string s))) 2 (.ptr 2 0)) 5 (.s (.bool true))) 6 (.ptr 6 0), H := upd (upd ((fun _ => none)) 6 (some (.box 25 [.s (.int .i64 (tkv s 3 0)), .s (.int .i64 (tkv s 3 1)), .s (.int .i64 (tkv s 3 2))]))) 2 (some (.box 25 [.s (.int .i64 0), .s (.int .i64 0), .s (.int .i64 0)])) } ?_ fun K8 hK8 => ?_
    · refine good_seq fun K9 hK9 => ?_
      refine good_seq fun K10 hK10 => ?_
      refine good_region rfl ?_
      refine ev_q rfl (q_move (by conv => lhs; whnf) ?_)
      refine ev_q rfl (q_not rfl rfl ?_)
      refine ev_q rfl (q_move (by conv => lhs; whnf) ?_)
      refine ev_q rfl (q_loadA tA25 rfl rfl rfl ?_)
      refine ev_q rfl (q_call rfl rfl (rfl) (D_impl_TankText (tkv s 3 0) (tkv s 3 1) (tkv s 3 2)) rfl ?_)
      refine ev_q rfl (q_move (by conv => lhs; whnf) ?_)
      refine ev_q rfl (q_str rfl rfl ?_)
      intro b11 hb11; cases b11
      · replace hb11 := snF hb11
        have hyo : rtB s := ⟨hy3, (tk_text hy3).1 hb11⟩
        refine ev_q rfl (q_pickF rfl (by conv => lhs; whnf) ?_)
        refine ev_nil (hK10 _ ?_); clear hK10
        refine good_condF rfl ?_
        refine good_skip (hK9 _ ?_); clear hK9
        refine good_seq fun K12 hK12 => ?_
        refine good_region rfl ?_
        refine ev_q rfl (q_loadA tA25 rfl rfl rfl ?_)
        refine ev_k rfl (k_store sz25 rfl (by conv => lhs; whnf) rfl rfl rfl (Nat.le_of_ble_eq_true rfl) rfl ?_)
        refine ev_q rfl (q_assign (by conv => lhs; whnf) ?_)
        refine ev_nil (hK12 _ ?_); clear hK12
        refine good_ret ?_
        repeat (first | refine thenQ_ret ?_ | refine blockQ_ret ?_)
        refine ret_many rfl ?_
        refine res_cell tA25 rfl rfl rfl ?_
        refine res_tmp (by conv => lhs; whnf) rfl ?_
        refine res_nil ?_
        first | exact fTup1 (by rw [rtV_n hno, rtV_n hno, rtV_n hno]) (fTup1 (fF hno) rfl) | exact fTup1 (by rw [rtV_y hyo, rtV_y hyo, rtV_y hyo]) (fTup1 (fT hyo) rfl)
      · replace hb11 := snT hb11
        have hno : ¬ rtB s := fun h => hb11 ((tk_text hy3).2 h.2)
        refine ev_q rfl (q_pickF rfl (by conv => lhs; whnf) ?_)
        refine ev_nil (hK10 _ ?_); clear hK10
        refine good_condT rfl ?_
        refine good_seq fun K13 hK13 => ?_
        refine good_region rfl ?_
        refine ev_k rfl (k_build (cs := [.s (.int .i64 0), .s (.int .i64 0), .s (.int .i64 0)]) zA25 pl25 (rfl) ?_)
        refine ev_k rfl (k_store sz25 rfl (by conv => lhs; whnf) rfl rfl rfl (Nat.le_of_ble_eq_true rfl) rfl ?_)
        refine ev_q rfl (q_assign (by conv => lhs; whnf) ?_)
        refine ev_nil (hK13 _ ?_); clear hK13
        refine good_ret ?_
        repeat (first | refine thenQ_ret ?_ | refine blockQ_ret ?_)
        refine ret_many rfl ?_
        refine res_cell tA25 rfl rfl rfl ?_
        refine res_tmp (by conv => lhs; whnf) rfl ?_
        refine res_nil ?_
        clear hK9
        first | exact fTup1 (by rw [rtV_n hno, rtV_n hno, rtV_n hno]) (fTup1 (fF hno) rfl) | exact fTup1 (by rw [rtV_y hyo, rtV_y hyo, rtV_y hyo]) (fTup1 (fT hyo) rfl)
    · refine good_any 12 (listed := #[false, false, false, false, false, false, false, false, false, false, false, false]) rfl rfl hmix rfl ?_
      refine tn_first_q (i := 0) (listed' := #[true, false, false, false, false, false, false, false, false, false, false, false]) rfl rfl (by kernel_rfl) rfl (q_move (by conv => lhs; whnf) ?_)
      refine tn_firstS_q (i := 1) (listed' := #[true, true, false, false, false, false, false, false, false, false, false, false]) rfl rfl (by kernel_rfl) rfl rfl (q_idx tE69 rfl rfl (by decide) (by exact rnL_get (by decide)) rfl ?_)
      refine tn_firstS_q (i := 2) (listed' := #[true, true, true, false, false, false, false, false, false, false, false, false]) rfl rfl (by kernel_rfl) rfl rfl (q_load tA2 rfl ?_)
      refine tn_first_q (i := 3) (listed' := #[true, true, true, true, false, false, false, false, false, false, false, false]) rfl rfl (by kernel_rfl) rfl (q_move (by conv => lhs; whnf) ?_)
      refine tn_firstS_q (i := 4) (listed' := #[true, true, true, true, true, false, false, false, false, false, false, false]) rfl rfl (by kernel_rfl) rfl rfl (q_idx tE69 rfl rfl (by decide) (by exact rnL_get (by decide)) rfl ?_)
      refine tn_firstS_q (i := 5) (listed' := #[true, true, true, true, true, true, false, false, false, false, false, false]) rfl rfl (by kernel_rfl) rfl rfl (q_load tA2 rfl ?_)
      refine tn_first_q (i := 6) (listed' := #[true, true, true, true, true, true, true, false, false, false, false, false]) rfl rfl (by kernel_rfl) rfl (q_move (by conv => lhs; whnf) ?_)
      refine tn_firstS_q (i := 7) (listed' := #[true, true, true, true, true, true, true, true, false, false, false, false]) rfl rfl (by kernel_rfl) rfl rfl (q_idx tE69 rfl rfl (by decide) (by exact rnL_get (by decide)) rfl ?_)
      refine tn_firstS_q (i := 8) (listed' := #[true, true, true, true, true, true, true, true, true, false, false, false]) rfl rfl (by kernel_rfl) rfl rfl (q_load tA2 rfl ?_)
      refine tn_step [9, 10] (by kernel_rfl) rfl ?_
      refine ⟨?_, ?_, trivial⟩
      · refine tn_k (listed' := #[true, true, true, true, true, true, true, true, true, true, false, false]) rfl rfl rfl rfl (k_build zA25 pl25 (rfl) ?_)
        refine tn_step [10] (by kernel_rfl) rfl ?_
        refine ⟨?_, trivial⟩
        · refine tn_k (listed' := #[true, true, true, true, true, true, true, true, true, true, true, false]) rfl rfl rfl rfl (k_alloc zA25 rfl ?_)
          refine tn_step [11] (by kernel_rfl) rfl ?_
          refine ⟨?_, trivial⟩
          · refine tn_k (listed' := #[true, true, true, true, true, true, true, true, true, true, true, true]) rfl rfl rfl rfl (k_store sz25 rfl (by conv => lhs; whnf) rfl rfl rfl (Nat.le_of_ble_eq_true rfl) rfl ?_)
            refine tn_end (by kernel_rfl) (hK8 _ ?_); clear hK8
            refine sub_weak ?_ ?_
            · exact weakH_box (boxEq (rfl)) rfl (weakH_box (boxEq (rfl)) rfl (weakH_none _))
            · refine weakE_upd ?e6 ?r6 (weakE_upd ?e5 ?r5 (weakE_upd ?e2 ?r2 (weakE_upd ?e0 ?r0 (weakE_junk _ _))))
              case e0 => first | rfl | exact fI (by omega) | (rfl)
              case r0 => intro h hh; cases hh
              case e2 => first | rfl | exact fI (by omega) | (rfl)
              case r2 => intro h hh; simp [refs] at hh; subst hh; rfl
              case e5 => first | rfl | exact fI (by omega) | (rfl)
              case r5 => intro h hh; cases hh
              case e6 => first | rfl | exact fI (by omega) | (rfl)
              case r6 => intro h hh; simp [refs] at hh; subst hh; rfl
      · refine tn_k (listed' := #[true, true, true, true, true, true, true, true, true, false, true, false]) rfl rfl rfl rfl (k_alloc zA25 rfl ?_)
        refine tn_step [9] (by kernel_rfl) rfl ?_
        refine ⟨?_, trivial⟩
        · refine tn_k (listed' := #[true, true, true, true, true, true, true, true, true, true, true, false]) rfl rfl rfl rfl (k_build zA25 pl25 (rfl) ?_)
          refine tn_step [11] (by kernel_rfl) rfl ?_
          refine ⟨?_, trivial⟩
          · refine tn_k (listed' := #[true, true, true, true, true, true, true, true, true, true, true, true]) rfl rfl rfl rfl (k_store sz25 rfl (by conv => lhs; whnf) rfl rfl rfl (Nat.le_of_ble_eq_true rfl) rfl ?_)
            refine tn_end (by kernel_rfl) (hK8 _ ?_); clear hK8
            refine sub_weak ?_ ?_
            · exact weakH_box (boxEq (rfl)) rfl (weakH_box (boxEq (rfl)) rfl (weakH_none _))
            · refine weakE_upd ?e6 ?r6 (weakE_upd ?e5 ?r5 (weakE_upd ?e2 ?r2 (weakE_upd ?e0 ?r0 (weakE_junk _ _))))
              case e0 => first | rfl | exact fI (by omega) | (rfl)
              case r0 => intro h hh; cases hh
              case e2 => first | rfl | exact fI (by omega) | (rfl)
              case r2 => intro h hh; simp [refs] at hh; subst hh; rfl
              case e5 => first | rfl | exact fI (by omega) | (rfl)
              case r5 => intro h hh; cases hh
              case e6 => first | rfl | exact fI (by omega) | (rfl)
              case r6 => intro h hh; simp [refs] at hh; subst hh; rfl

-- spec.ReadTank
set_option maxRecDepth 20000 in
set_option maxHeartbeats 2000000 in
theorem D_spec_ReadTank (s : ByteArray) (hs : s.size ≤ 1048576) : Den Tryd.prog 28 [.s (.string s)] (.tup [.agg [.s (.int .i64 (rtV s 0)), .s (.int .i64 (rtV s 1)), .s (.int .i64 (rtV s 2))], .s (.bool (decide (rtB s)))]) := by
  refine den_of_good Tryd.func28 (by decide) rfl (Nat.le_of_ble_eq_true rfl) (Nat.le_of_ble_eq_true rfl) ?_
  refine good_seq fun K1 hK1 => ?_
  refine good_region rfl ?_
  refine ev_k rfl (k_alloc zA25 rfl ?_)
  refine ev_q rfl (q_assign (by conv => lhs; whnf) ?_)
  refine ev_nil (hK1 _ ?_); clear hK1
  refine good_seq fun K2 hK2 => ?_
  refine good_region rfl ?_
  refine ev_q rfl (q_move (by conv => lhs; whnf) ?_)
  refine ev_q rfl (q_call rfl rfl (rfl) (D_spec_ReadList s hs) rfl ?_)
  refine ev_q rfl (q_move (by conv => lhs; whnf) ?_)
  refine ev_q rfl (q_extract rfl rfl ?_)
  refine ev_q rfl (q_extractB rfl rfl ?_)
  intro b3 hb3; cases b3
  · first | replace hb3 := dF hb3 | skip
    have hno : ¬ rtB s := fun h => hb3 h.1.1
    refine ev_q rfl (q_assign (by conv => lhs; whnf) ?_)
    refine ev_q rfl (q_assign (by conv => lhs; whnf) ?_)
    refine ev_nil (hK2 _ ?_); clear hK2
    refine good_seq fun K4 hK4 => ?_
    refine good_seq fun K5 hK5 => ?_
    refine good_region rfl ?_
    refine ev_q rfl (q_move (by conv => lhs; whnf) ?_)
    refine ev_q rfl (q_not rfl rfl ?_)
    refine ev_q rfl (q_move (by conv => lhs; whnf) ?_)
    refine ev_skip rfl ?_
    refine ev_skip rfl ?_
    refine ev_skip rfl ?_
    refine ev_q rfl (q_pickT rfl (by conv => lhs; whnf) ?_)
    refine ev_nil (hK5 _ ?_); clear hK5
    refine good_condT rfl ?_
    refine good_seq fun K6 hK6 => ?_
    refine good_region rfl ?_
    refine ev_k rfl (k_build (cs := [.s (.int .i64 0), .s (.int .i64 0), .s (.int .i64 0)]) zA25 pl25 (rfl) ?_)
    refine ev_k rfl (k_store sz25 rfl (by conv => lhs; whnf) rfl rfl rfl (Nat.le_of_ble_eq_true rfl) rfl ?_)
    refine ev_q rfl (q_assign (by conv => lhs; whnf) ?_)
    refine ev_nil (hK6 _ ?_); clear hK6
    refine good_ret ?_
    repeat (first | refine thenQ_ret ?_ | refine blockQ_ret ?_)
    refine ret_many rfl ?_
    refine res_cell tA25 rfl rfl rfl ?_
    refine res_tmp (by conv => lhs; whnf) rfl ?_
    refine res_nil ?_
    clear hK4
    first | exact fTup1 (by rw [rtV_n hno, rtV_n hno, rtV_n hno]) (fTup1 (fF hno) rfl) | exact fTup1 (by rw [rtV_y hyo, rtV_y hyo, rtV_y hyo]) (fTup1 (fT hyo) rfl)
  · first | replace hb3 := dT hb3 | skip
    have hyb : rlB s := hb3
    refine ev_q rfl (q_assign (by conv => lhs; whnf) ?_)
    refine ev_q rfl (q_assign (by conv => lhs; whnf) ?_)
    refine ev_nil (hK2 _ ?_); clear hK2
    refine good_seq fun K7 hK7 => ?_
    refine good_seq fun K8 hK8 => ?_
    refine good_region rfl ?_
    refine ev_q rfl (q_move (by conv => lhs; whnf) ?_)
    refine ev_q rfl (q_not rfl rfl ?_)
    refine ev_q rfl (q_move (by conv => lhs; whnf) ?_)
    refine ev_q rfl (q_move (by conv => lhs; whnf) ?_)
    refine ev_q rfl (q_len tEs69 rfl ?_)
    intro n9 hn9
    try simp only [List.length_map] at hn9
    refine ev_q rfl (q_int rfl rfl ?_)
    intro b10 hb10; cases b10
    · replace hb10 := neF hb10
      have hy3 : okN s 3 := ⟨hyb, by omega⟩
      refine ev_q rfl (q_pickF rfl (by conv => lhs; whnf) ?_)
      refine ev_nil (hK8 _ ?_); clear hK8
      refine good_condF rfl ?_
      refine good_skip (hK7 _ ?_); clear hK7
      refine good_join { env := upd (upd ((fun _ => .junk)) 2 (.ptr 2 0)) 6 (.ptr 6 0), H := upd (upd ((fun _ => none)) 6 (some (.box 25 [.s (.int .i64 (tkv s 3 0)), .s (.int .i64 (tkv s 3 1)), .s (.int .i64 (tkv s 3 2))]))) 2 (some (.box 25 [.s (.int .i64 0), .s (.int .i64 0), .s (.int .i64 0)])) } ?_ fun K11 hK11 => ?_
      · refine good_seq fun K12 hK12 => ?_
        refine good_seq fun K13 hK13 => ?_
        refine good_region rfl ?_
        refine ev_q rfl (q_callB rfl rfl (rfl) (D_spec_l14Ok (tkv s 3 0) (tkv s 3 1) (tkv s 3 2)) ?_)
        intro b14 hb14; cases b14
        · first | replace hb14 := dF hb14 | skip
          have hno : ¬ rtB s := fun h => hb14 h.2
          refine ev_q rfl (q_not rfl rfl ?_)
          refine ev_nil (hK13 _ ?_); clear hK13
          refine good_condT rfl ?_
          refine good_seq fun K15 hK15 => ?_
          refine good_region rfl ?_
          refine ev_k rfl (k_build (cs := [.s (.int .i64 0), .s (.int .i64 0), .s (.int .i64 0)]) zA25 pl25 (rfl) ?_)
          refine ev_k rfl (k_store sz25 rfl (by conv => lhs; whnf) rfl rfl rfl (Nat.le_of_ble_eq_true rfl) rfl ?_)
          refine ev_q rfl (q_assign (by conv => lhs; whnf) ?_)
          refine ev_nil (hK15 _ ?_); clear hK15
          refine good_ret ?_
          repeat (first | refine thenQ_ret ?_ | refine blockQ_ret ?_)
          refine ret_many rfl ?_
          refine res_cell tA25 rfl rfl rfl ?_
          refine res_tmp (by conv => lhs; whnf) rfl ?_
          refine res_nil ?_
          clear hK12
          first | exact fTup1 (by rw [rtV_n hno, rtV_n hno, rtV_n hno]) (fTup1 (fF hno) rfl) | exact fTup1 (by rw [rtV_y hyo, rtV_y hyo, rtV_y hyo]) (fTup1 (fT hyo) rfl)
        · first | replace hb14 := dT hb14 | skip
          have hyo : rtB s := ⟨hy3, hb14⟩
          refine ev_q rfl (q_not rfl rfl ?_)
          refine ev_nil (hK13 _ ?_); clear hK13
          refine good_condF rfl ?_
          refine good_skip (hK12 _ ?_); clear hK12
          refine good_seq fun K16 hK16 => ?_
          refine good_region rfl ?_
          refine ev_q rfl (q_loadA tA25 rfl rfl rfl ?_)
          refine ev_k rfl (k_store sz25 rfl (by conv => lhs; whnf) rfl rfl rfl (Nat.le_of_ble_eq_true rfl) rfl ?_)
          refine ev_q rfl (q_assign (by conv => lhs; whnf) ?_)
          refine ev_nil (hK16 _ ?_); clear hK16
          refine good_ret ?_
          repeat (first | refine thenQ_ret ?_ | refine blockQ_ret ?_)
          refine ret_many rfl ?_
          refine res_cell tA25 rfl rfl rfl ?_
          refine res_tmp (by conv => lhs; whnf) rfl ?_
          refine res_nil ?_
          first | exact fTup1 (by rw [rtV_n hno, rtV_n hno, rtV_n hno]) (fTup1 (fF hno) rfl) | exact fTup1 (by rw [rtV_y hyo, rtV_y hyo, rtV_y hyo]) (fTup1 (fT hyo) rfl)
      · refine good_any 12 (listed := #[false, false, false, false, false, false, false, false, false, false, false, false]) rfl rfl hmix rfl ?_
        refine tn_first_q (i := 0) (listed' := #[true, false, false, false, false, false, false, false, false, false, false, false]) rfl rfl (by kernel_rfl) rfl (q_move (by conv => lhs; whnf) ?_)
        refine tn_firstS_q (i := 1) (listed' := #[true, true, false, false, false, false, false, false, false, false, false, false]) rfl rfl (by kernel_rfl) rfl rfl (q_idx tE69 rfl rfl (by decide) (by exact map_get (rl_get hy3 (by decide))) rfl ?_)
        refine tn_firstS_q (i := 2) (listed' := #[true, true, true, false, false, false, false, false, false, false, false, false]) rfl rfl (by kernel_rfl) rfl rfl (q_load tA2 rfl ?_)
        refine tn_first_q (i := 3) (listed' := #[true, true, true, true, false, false, false, false, false, false, false, false]) rfl rfl (by kernel_rfl) rfl (q_move (by conv => lhs; whnf) ?_)
        refine tn_firstS_q (i := 4) (listed' := #[true, true, true, true, true, false, false, false, false, false, false, false]) rfl rfl (by kernel_rfl) rfl rfl (q_idx tE69 rfl rfl (by decide) (by exact map_get (rl_get hy3 (by decide))) rfl ?_)
        refine tn_firstS_q (i := 5) (listed' := #[true, true, true, true, true, true, false, false, false, false, false, false]) rfl rfl (by kernel_rfl) rfl rfl (q_load tA2 rfl ?_)
        refine tn_first_q (i := 6) (listed' := #[true, true, true, true, true, true, true, false, false, false, false, false]) rfl rfl (by kernel_rfl) rfl (q_move (by conv => lhs; whnf) ?_)
        refine tn_firstS_q (i := 7) (listed' := #[true, true, true, true, true, true, true, true, false, false, false, false]) rfl rfl (by kernel_rfl) rfl rfl (q_idx tE69 rfl rfl (by decide) (by exact map_get (rl_get hy3 (by decide))) rfl ?_)
        refine tn_firstS_q (i := 8) (listed' := #[true, true, true, true, true, true, true, true, true, false, false, false]) rfl rfl (by kernel_rfl) rfl rfl (q_load tA2 rfl ?_)
        refine tn_step [9, 10] (by kernel_rfl) rfl ?_
        refine ⟨?_, ?_, trivial⟩
        · refine tn_k (listed' := #[true, true, true, true, true, true, true, true, true, true, false, false]) rfl rfl rfl rfl (k_build zA25 pl25 (rfl) ?_)
          refine tn_step [10] (by kernel_rfl) rfl ?_
          refine ⟨?_, trivial⟩
          · refine tn_k (listed' := #[true, true, true, true, true, true, true, true, true, true, true, false]) rfl rfl rfl rfl (k_alloc zA25 rfl ?_)
            refine tn_step [11] (by kernel_rfl) rfl ?_
            refine ⟨?_, trivial⟩
            · refine tn_k (listed' := #[true, true, true, true, true, true, true, true, true, true, true, true]) rfl rfl rfl rfl (k_store sz25 rfl (by conv => lhs; whnf) rfl rfl rfl (Nat.le_of_ble_eq_true rfl) rfl ?_)
              refine tn_end (by kernel_rfl) (hK11 _ ?_); clear hK11
              refine sub_weak ?_ ?_
              · exact weakH_box (boxEq (rfl)) rfl (weakH_box (boxEq (rfl)) rfl (weakH_none _))
              · refine weakE_upd ?e6 ?r6 (weakE_upd ?e2 ?r2 (weakE_junk _ _))
                case e2 => first | rfl | exact fI (by omega) | (rfl)
                case r2 => intro h hh; simp [refs] at hh; subst hh; rfl
                case e6 => first | rfl | exact fI (by omega) | (rfl)
                case r6 => intro h hh; simp [refs] at hh; subst hh; rfl
        · refine tn_k (listed' := #[true, true, true, true, true, true, true, true, true, false, true, false]) rfl rfl rfl rfl (k_alloc zA25 rfl ?_)
          refine tn_step [9] (by kernel_rfl) rfl ?_
          refine ⟨?_, trivial⟩
          · refine tn_k (listed' := #[true, true, true, true, true, true, true, true, true, true, true, false]) rfl rfl rfl rfl (k_build zA25 pl25 (rfl) ?_)
            refine tn_step [11] (by kernel_rfl) rfl ?_
            refine ⟨?_, trivial⟩
            · refine tn_k (listed' := #[true, true, true, true, true, true, true, true, true, true, true, true]) rfl rfl rfl rfl (k_store sz25 rfl (by conv => lhs; whnf) rfl rfl rfl (Nat.le_of_ble_eq_true rfl) rfl ?_)
              refine tn_end (by kernel_rfl) (hK11 _ ?_); clear hK11
              refine sub_weak ?_ ?_
              · exact weakH_box (boxEq (rfl)) rfl (weakH_box (boxEq (rfl)) rfl (weakH_none _))
              · refine weakE_upd ?e6 ?r6 (weakE_upd ?e2 ?r2 (weakE_junk _ _))
                case e2 => first | rfl | exact fI (by omega) | (rfl)
                case r2 => intro h hh; simp [refs] at hh; subst hh; rfl
                case e6 => first | rfl | exact fI (by omega) | (rfl)
                case r6 => intro h hh; simp [refs] at hh; subst hh; rfl
    · replace hb10 := neT hb10
      have hno : ¬ rtB s := fun h => by have := h.1.2; omega
      refine ev_q rfl (q_pickF rfl (by conv => lhs; whnf) ?_)
      refine ev_nil (hK8 _ ?_); clear hK8
      refine good_condT rfl ?_
      refine good_seq fun K17 hK17 => ?_
      refine good_region rfl ?_
      refine ev_k rfl (k_build (cs := [.s (.int .i64 0), .s (.int .i64 0), .s (.int .i64 0)]) zA25 pl25 (rfl) ?_)
      refine ev_k rfl (k_store sz25 rfl (by conv => lhs; whnf) rfl rfl rfl (Nat.le_of_ble_eq_true rfl) rfl ?_)
      refine ev_q rfl (q_assign (by conv => lhs; whnf) ?_)
      refine ev_nil (hK17 _ ?_); clear hK17
      refine good_ret ?_
      repeat (first | refine thenQ_ret ?_ | refine blockQ_ret ?_)
      refine ret_many rfl ?_
      refine res_cell tA25 rfl rfl rfl ?_
      refine res_tmp (by conv => lhs; whnf) rfl ?_
      refine res_nil ?_
      clear hK7
      first | exact fTup1 (by rw [rtV_n hno, rtV_n hno, rtV_n hno]) (fTup1 (fF hno) rfl) | exact fTup1 (by rw [rtV_y hyo, rtV_y hyo, rtV_y hyo]) (fTup1 (fT hyo) rfl)

-- laws.eqTank
set_option maxRecDepth 20000 in
set_option maxHeartbeats 2000000 in
theorem D_laws_eqTank (c r l : Int)  : Den Tryd.prog 30 [.agg [.s (.int .i64 c), .s (.int .i64 r), .s (.int .i64 l)], .agg [.s (.int .i64 c), .s (.int .i64 r), .s (.int .i64 l)]] (.s (.bool true)) := by
  refine den_of_good Tryd.func30 (by decide) rfl (Nat.le_of_ble_eq_true rfl) (Nat.le_of_ble_eq_true rfl) ?_
  refine good_seq fun K1 hK1 => ?_
  refine good_region rfl ?_
  refine ev_k rfl (k_box (by conv => lhs; whnf) rfl rfl rfl ?_)
  refine ev_k rfl (k_box (by conv => lhs; whnf) rfl rfl rfl ?_)
  refine ev_q rfl (q_assign (by conv => lhs; whnf) ?_)
  refine ev_nil (hK1 _ ?_); clear hK1
  refine good_seq fun K2 hK2 => ?_
  refine good_seq fun K3 hK3 => ?_
  refine good_region rfl ?_
  refine ev_q rfl (q_fieldAddrP fO25_0 rfl rfl ?_)
  refine ev_q rfl (q_load tA2 rfl ?_)
  refine ev_q rfl (q_fieldAddrP fO25_0 rfl rfl ?_)
  refine ev_q rfl (q_load tA2 rfl ?_)
  refine ev_q rfl (q_int rfl rfl ?_)
  intro b4 hb4; cases b4
  · replace hb4 := neF hb4
    refine ev_nil (hK3 _ ?_); clear hK3
    refine good_condF rfl ?_
    refine good_skip (hK2 _ ?_); clear hK2
    refine good_seq fun K5 hK5 => ?_
    refine good_seq fun K6 hK6 => ?_
    refine good_region rfl ?_
    refine ev_q rfl (q_fieldAddrP fO25_1 rfl rfl ?_)
    refine ev_q rfl (q_load tA2 rfl ?_)
    refine ev_q rfl (q_fieldAddrP fO25_1 rfl rfl ?_)
    refine ev_q rfl (q_load tA2 rfl ?_)
    refine ev_q rfl (q_int rfl rfl ?_)
    intro b7 hb7; cases b7
    · replace hb7 := neF hb7
      refine ev_nil (hK6 _ ?_); clear hK6
      refine good_condF rfl ?_
      refine good_skip (hK5 _ ?_); clear hK5
      refine good_seq fun K8 hK8 => ?_
      refine good_seq fun K9 hK9 => ?_
      refine good_region rfl ?_
      refine ev_q rfl (q_fieldAddrP fO25_2 rfl rfl ?_)
      refine ev_q rfl (q_load tA2 rfl ?_)
      refine ev_q rfl (q_fieldAddrP fO25_2 rfl rfl ?_)
      refine ev_q rfl (q_load tA2 rfl ?_)
      refine ev_q rfl (q_int rfl rfl ?_)
      intro b10 hb10; cases b10
      · replace hb10 := neF hb10
        refine ev_nil (hK9 _ ?_); clear hK9
        refine good_condF rfl ?_
        refine good_skip (hK8 _ ?_); clear hK8
        refine good_seq fun K11 hK11 => ?_
        refine good_region rfl ?_
        refine ev_q rfl (q_assign (by conv => lhs; whnf) ?_)
        refine ev_nil (hK11 _ ?_); clear hK11
        refine good_ret ?_
        repeat (first | refine thenQ_ret ?_ | refine blockQ_ret ?_)
        refine ret_tmp (st := _) rfl (by conv => lhs; whnf) rfl ?_
        first | rfl | (exfalso; first | omega | contradiction)
      · replace hb10 := neT hb10
        refine ev_nil (hK9 _ ?_); clear hK9
        refine good_condT rfl ?_
        refine good_seq fun K12 hK12 => ?_
        refine good_region rfl ?_
        refine ev_q rfl (q_assign (by conv => lhs; whnf) ?_)
        refine ev_nil (hK12 _ ?_); clear hK12
        refine good_ret ?_
        repeat (first | refine thenQ_ret ?_ | refine blockQ_ret ?_)
        refine ret_tmp (st := _) rfl (by conv => lhs; whnf) rfl ?_
        clear hK8
        first | rfl | (exfalso; first | omega | contradiction)
    · replace hb7 := neT hb7
      refine ev_nil (hK6 _ ?_); clear hK6
      refine good_condT rfl ?_
      refine good_seq fun K13 hK13 => ?_
      refine good_region rfl ?_
      refine ev_q rfl (q_assign (by conv => lhs; whnf) ?_)
      refine ev_nil (hK13 _ ?_); clear hK13
      refine good_ret ?_
      repeat (first | refine thenQ_ret ?_ | refine blockQ_ret ?_)
      refine ret_tmp (st := _) rfl (by conv => lhs; whnf) rfl ?_
      clear hK5
      first | rfl | (exfalso; first | omega | contradiction)
  · replace hb4 := neT hb4
    refine ev_nil (hK3 _ ?_); clear hK3
    refine good_condT rfl ?_
    refine good_seq fun K14 hK14 => ?_
    refine good_region rfl ?_
    refine ev_q rfl (q_assign (by conv => lhs; whnf) ?_)
    refine ev_nil (hK14 _ ?_); clear hK14
    refine good_ret ?_
    repeat (first | refine thenQ_ret ?_ | refine blockQ_ret ?_)
    refine ret_tmp (st := _) rfl (by conv => lhs; whnf) rfl ?_
    clear hK2
    first | rfl | (exfalso; first | omega | contradiction)

-- laws.FnExactReadTank
set_option maxRecDepth 20000 in
set_option maxHeartbeats 2000000 in
theorem D_laws_FnExactReadTank (s : ByteArray) (hs : s.size ≤ 140737488351232) : Den Tryd.prog 7 [.s (.string s)] (.s (.bool true)) := by
  refine den_of_good Tryd.func7 (by decide) rfl (Nat.le_of_ble_eq_true rfl) (Nat.le_of_ble_eq_true rfl) ?_
  refine good_seq fun K1 hK1 => ?_
  refine good_region rfl ?_
  refine ev_q rfl (q_assign (by conv => lhs; whnf) ?_)
  refine ev_nil (hK1 _ ?_); clear hK1
  refine good_seq fun K2 hK2 => ?_
  refine good_seq fun K3 hK3 => ?_
  refine good_region rfl ?_
  refine ev_q rfl (q_move (by conv => lhs; whnf) ?_)
  refine ev_q rfl (q_lenS tStr9 rfl ?_)
  intro n4 hn4
  refine ev_q rfl (q_int rfl rfl ?_)
  intro b5 hb5; cases b5
  · replace hb5 := dF hb5
    refine ev_nil (hK3 _ ?_); clear hK3
    refine good_condF rfl ?_
    refine good_skip (hK2 _ ?_); clear hK2
    refine good_seq fun K6 hK6 => ?_
    refine good_region rfl ?_
    refine ev_q rfl (q_move (by conv => lhs; whnf) ?_)
    refine ev_q rfl (q_call rfl rfl (rfl) (D_spec_ReadTank s (by omega)) rfl ?_)
    refine ev_q rfl (q_move (by conv => lhs; whnf) ?_)
    refine ev_q rfl (q_extract rfl rfl ?_)
    refine ev_q rfl (q_extractB rfl rfl ?_)
    intro b7 hb7; cases b7
    · first | replace hb7 := dF hb7 | skip
      refine ev_k rfl (k_alloc zA25 rfl ?_)
      refine ev_k rfl (k_store sz25 rfl (by conv => lhs; whnf) rfl rfl rfl (Nat.le_of_ble_eq_true rfl) rfl ?_)
      refine ev_q rfl (q_assign (by conv => lhs; whnf) ?_)
      refine ev_nil (hK6 _ ?_); clear hK6
      refine good_seq fun K8 hK8 => ?_
      refine good_region rfl ?_
      refine ev_q rfl (q_move (by conv => lhs; whnf) ?_)
      refine ev_q rfl (q_call rfl rfl (rfl) (D_impl_ReadTank s (by omega)) rfl ?_)
      refine ev_q rfl (q_move (by conv => lhs; whnf) ?_)
      refine ev_q rfl (q_extract rfl rfl ?_)
      refine ev_q rfl (q_extractB rfl rfl ?_)
      intro b9 hb9; cases b9
      · first | replace hb9 := dF hb9 | skip
        refine ev_k rfl (k_alloc zA25 rfl ?_)
        refine ev_k rfl (k_store sz25 rfl (by conv => lhs; whnf) rfl rfl rfl (Nat.le_of_ble_eq_true rfl) rfl ?_)
        refine ev_q rfl (q_assign (by conv => lhs; whnf) ?_)
        refine ev_nil (hK8 _ ?_); clear hK8
        refine good_seq fun K10 hK10 => ?_
        refine good_seq fun K11 hK11 => ?_
        refine good_region rfl ?_
        refine ev_q rfl (q_loadA tA25 rfl rfl rfl ?_)
        refine ev_q rfl (q_loadA tA25 rfl rfl rfl ?_)
        refine ev_q rfl (q_callB rfl rfl (rfl) (D_laws_eqTank _ _ _) ?_)
        intro b12 hb12; cases b12
        · first | replace hb12 := dF hb12 | skip
          refine ev_q rfl (q_not rfl rfl ?_)
          refine ev_q rfl (q_move (by conv => lhs; whnf) ?_)
          refine ev_skip rfl ?_
          refine ev_skip rfl ?_
          refine ev_skip rfl ?_
          refine ev_q rfl (q_pickT rfl (by conv => lhs; whnf) ?_)
          refine ev_nil (hK11 _ ?_); clear hK11
          refine good_condT rfl ?_
          refine good_seq fun K13 hK13 => ?_
          refine good_region rfl ?_
          refine ev_q rfl (q_assign (by conv => lhs; whnf) ?_)
          refine ev_nil (hK13 _ ?_); clear hK13
          refine good_ret ?_
          repeat (first | refine thenQ_ret ?_ | refine blockQ_ret ?_)
          refine ret_tmp (st := _) rfl (by conv => lhs; whnf) rfl ?_
          clear hK10
          first | rfl | (exfalso; first | omega | contradiction | (simp_all; done))
        · first | replace hb12 := dT hb12 | skip
          refine ev_q rfl (q_not rfl rfl ?_)
          refine ev_q rfl (q_move (by conv => lhs; whnf) ?_)
          refine ev_q rfl (q_move (by conv => lhs; whnf) ?_)
          refine ev_q rfl (q_move (by conv => lhs; whnf) ?_)
          refine ev_q rfl (q_bne tB4 rfl rfl ?_)
          intro b14 hb14; replace hb14 : b14 = false := hb14; subst hb14
          refine ev_q rfl (q_pickF rfl (by conv => lhs; whnf) ?_)
          refine ev_nil (hK11 _ ?_); clear hK11
          refine good_condF rfl ?_
          refine good_skip (hK10 _ ?_); clear hK10
          refine good_seq fun K15 hK15 => ?_
          refine good_region rfl ?_
          refine ev_q rfl (q_assign (by conv => lhs; whnf) ?_)
          refine ev_nil (hK15 _ ?_); clear hK15
          refine good_ret ?_
          repeat (first | refine thenQ_ret ?_ | refine blockQ_ret ?_)
          refine ret_tmp (st := _) rfl (by conv => lhs; whnf) rfl ?_
          first | rfl | (exfalso; first | omega | contradiction | (simp_all; done))
      · first | replace hb9 := dT hb9 | skip
        refine ev_k rfl (k_alloc zA25 rfl ?_)
        refine ev_k rfl (k_store sz25 rfl (by conv => lhs; whnf) rfl rfl rfl (Nat.le_of_ble_eq_true rfl) rfl ?_)
        refine ev_q rfl (q_assign (by conv => lhs; whnf) ?_)
        refine ev_nil (hK8 _ ?_); clear hK8
        refine good_seq fun K16 hK16 => ?_
        refine good_seq fun K17 hK17 => ?_
        refine good_region rfl ?_
        refine ev_q rfl (q_loadA tA25 rfl rfl rfl ?_)
        refine ev_q rfl (q_loadA tA25 rfl rfl rfl ?_)
        refine ev_q rfl (q_callB rfl rfl (rfl) (D_laws_eqTank _ _ _) ?_)
        intro b18 hb18; cases b18
        · first | replace hb18 := dF hb18 | skip
          refine ev_q rfl (q_not rfl rfl ?_)
          refine ev_q rfl (q_move (by conv => lhs; whnf) ?_)
          refine ev_skip rfl ?_
          refine ev_skip rfl ?_
          refine ev_skip rfl ?_
          refine ev_q rfl (q_pickT rfl (by conv => lhs; whnf) ?_)
          refine ev_nil (hK17 _ ?_); clear hK17
          refine good_condT rfl ?_
          refine good_seq fun K19 hK19 => ?_
          refine good_region rfl ?_
          refine ev_q rfl (q_assign (by conv => lhs; whnf) ?_)
          refine ev_nil (hK19 _ ?_); clear hK19
          refine good_ret ?_
          repeat (first | refine thenQ_ret ?_ | refine blockQ_ret ?_)
          refine ret_tmp (st := _) rfl (by conv => lhs; whnf) rfl ?_
          clear hK16
          first | rfl | (exfalso; first | omega | contradiction | (simp_all; done))
        · first | replace hb18 := dT hb18 | skip
          refine ev_q rfl (q_not rfl rfl ?_)
          refine ev_q rfl (q_move (by conv => lhs; whnf) ?_)
          refine ev_q rfl (q_move (by conv => lhs; whnf) ?_)
          refine ev_q rfl (q_move (by conv => lhs; whnf) ?_)
          refine ev_q rfl (q_bne tB4 rfl rfl ?_)
          intro b20 hb20; replace hb20 : b20 = true := hb20; subst hb20
          refine ev_q rfl (q_pickF rfl (by conv => lhs; whnf) ?_)
          refine ev_nil (hK17 _ ?_); clear hK17
          refine good_condT rfl ?_
          refine good_seq fun K21 hK21 => ?_
          refine good_region rfl ?_
          refine ev_q rfl (q_assign (by conv => lhs; whnf) ?_)
          refine ev_nil (hK21 _ ?_); clear hK21
          refine good_ret ?_
          repeat (first | refine thenQ_ret ?_ | refine blockQ_ret ?_)
          refine ret_tmp (st := _) rfl (by conv => lhs; whnf) rfl ?_
          clear hK16
          first | rfl | (exfalso; first | omega | contradiction | (simp_all; done))
    · first | replace hb7 := dT hb7 | skip
      refine ev_k rfl (k_alloc zA25 rfl ?_)
      refine ev_k rfl (k_store sz25 rfl (by conv => lhs; whnf) rfl rfl rfl (Nat.le_of_ble_eq_true rfl) rfl ?_)
      refine ev_q rfl (q_assign (by conv => lhs; whnf) ?_)
      refine ev_nil (hK6 _ ?_); clear hK6
      refine good_seq fun K22 hK22 => ?_
      refine good_region rfl ?_
      refine ev_q rfl (q_move (by conv => lhs; whnf) ?_)
      refine ev_q rfl (q_call rfl rfl (rfl) (D_impl_ReadTank s (by omega)) rfl ?_)
      refine ev_q rfl (q_move (by conv => lhs; whnf) ?_)
      refine ev_q rfl (q_extract rfl rfl ?_)
      refine ev_q rfl (q_extractB rfl rfl ?_)
      intro b23 hb23; cases b23
      · first | replace hb23 := dF hb23 | skip
        refine ev_k rfl (k_alloc zA25 rfl ?_)
        refine ev_k rfl (k_store sz25 rfl (by conv => lhs; whnf) rfl rfl rfl (Nat.le_of_ble_eq_true rfl) rfl ?_)
        refine ev_q rfl (q_assign (by conv => lhs; whnf) ?_)
        refine ev_nil (hK22 _ ?_); clear hK22
        refine good_seq fun K24 hK24 => ?_
        refine good_seq fun K25 hK25 => ?_
        refine good_region rfl ?_
        refine ev_q rfl (q_loadA tA25 rfl rfl rfl ?_)
        refine ev_q rfl (q_loadA tA25 rfl rfl rfl ?_)
        refine ev_q rfl (q_callB rfl rfl (rfl) (D_laws_eqTank _ _ _) ?_)
        intro b26 hb26; cases b26
        · first | replace hb26 := dF hb26 | skip
          refine ev_q rfl (q_not rfl rfl ?_)
          refine ev_q rfl (q_move (by conv => lhs; whnf) ?_)
          refine ev_skip rfl ?_
          refine ev_skip rfl ?_
          refine ev_skip rfl ?_
          refine ev_q rfl (q_pickT rfl (by conv => lhs; whnf) ?_)
          refine ev_nil (hK25 _ ?_); clear hK25
          refine good_condT rfl ?_
          refine good_seq fun K27 hK27 => ?_
          refine good_region rfl ?_
          refine ev_q rfl (q_assign (by conv => lhs; whnf) ?_)
          refine ev_nil (hK27 _ ?_); clear hK27
          refine good_ret ?_
          repeat (first | refine thenQ_ret ?_ | refine blockQ_ret ?_)
          refine ret_tmp (st := _) rfl (by conv => lhs; whnf) rfl ?_
          clear hK24
          first | rfl | (exfalso; first | omega | contradiction | (simp_all; done))
        · first | replace hb26 := dT hb26 | skip
          refine ev_q rfl (q_not rfl rfl ?_)
          refine ev_q rfl (q_move (by conv => lhs; whnf) ?_)
          refine ev_q rfl (q_move (by conv => lhs; whnf) ?_)
          refine ev_q rfl (q_move (by conv => lhs; whnf) ?_)
          refine ev_q rfl (q_bne tB4 rfl rfl ?_)
          intro b28 hb28; replace hb28 : b28 = true := hb28; subst hb28
          refine ev_q rfl (q_pickF rfl (by conv => lhs; whnf) ?_)
          refine ev_nil (hK25 _ ?_); clear hK25
          refine good_condT rfl ?_
          refine good_seq fun K29 hK29 => ?_
          refine good_region rfl ?_
          refine ev_q rfl (q_assign (by conv => lhs; whnf) ?_)
          refine ev_nil (hK29 _ ?_); clear hK29
          refine good_ret ?_
          repeat (first | refine thenQ_ret ?_ | refine blockQ_ret ?_)
          refine ret_tmp (st := _) rfl (by conv => lhs; whnf) rfl ?_
          clear hK24
          first | rfl | (exfalso; first | omega | contradiction | (simp_all; done))
      · first | replace hb23 := dT hb23 | skip
        refine ev_k rfl (k_alloc zA25 rfl ?_)
        refine ev_k rfl (k_store sz25 rfl (by conv => lhs; whnf) rfl rfl rfl (Nat.le_of_ble_eq_true rfl) rfl ?_)
        refine ev_q rfl (q_assign (by conv => lhs; whnf) ?_)
        refine ev_nil (hK22 _ ?_); clear hK22
        refine good_seq fun K30 hK30 => ?_
        refine good_seq fun K31 hK31 => ?_
        refine good_region rfl ?_
        refine ev_q rfl (q_loadA tA25 rfl rfl rfl ?_)
        refine ev_q rfl (q_loadA tA25 rfl rfl rfl ?_)
        refine ev_q rfl (q_callB rfl rfl (rfl) (D_laws_eqTank _ _ _) ?_)
        intro b32 hb32; cases b32
        · first | replace hb32 := dF hb32 | skip
          refine ev_q rfl (q_not rfl rfl ?_)
          refine ev_q rfl (q_move (by conv => lhs; whnf) ?_)
          refine ev_skip rfl ?_
          refine ev_skip rfl ?_
          refine ev_skip rfl ?_
          refine ev_q rfl (q_pickT rfl (by conv => lhs; whnf) ?_)
          refine ev_nil (hK31 _ ?_); clear hK31
          refine good_condT rfl ?_
          refine good_seq fun K33 hK33 => ?_
          refine good_region rfl ?_
          refine ev_q rfl (q_assign (by conv => lhs; whnf) ?_)
          refine ev_nil (hK33 _ ?_); clear hK33
          refine good_ret ?_
          repeat (first | refine thenQ_ret ?_ | refine blockQ_ret ?_)
          refine ret_tmp (st := _) rfl (by conv => lhs; whnf) rfl ?_
          clear hK30
          first | rfl | (exfalso; first | omega | contradiction | (simp_all; done))
        · first | replace hb32 := dT hb32 | skip
          refine ev_q rfl (q_not rfl rfl ?_)
          refine ev_q rfl (q_move (by conv => lhs; whnf) ?_)
          refine ev_q rfl (q_move (by conv => lhs; whnf) ?_)
          refine ev_q rfl (q_move (by conv => lhs; whnf) ?_)
          refine ev_q rfl (q_bne tB4 rfl rfl ?_)
          intro b34 hb34; replace hb34 : b34 = false := hb34; subst hb34
          refine ev_q rfl (q_pickF rfl (by conv => lhs; whnf) ?_)
          refine ev_nil (hK31 _ ?_); clear hK31
          refine good_condF rfl ?_
          refine good_skip (hK30 _ ?_); clear hK30
          refine good_seq fun K35 hK35 => ?_
          refine good_region rfl ?_
          refine ev_q rfl (q_assign (by conv => lhs; whnf) ?_)
          refine ev_nil (hK35 _ ?_); clear hK35
          refine good_ret ?_
          repeat (first | refine thenQ_ret ?_ | refine blockQ_ret ?_)
          refine ret_tmp (st := _) rfl (by conv => lhs; whnf) rfl ?_
          first | rfl | (exfalso; first | omega | contradiction | (simp_all; done))
  · replace hb5 := dT hb5
    refine ev_nil (hK3 _ ?_); clear hK3
    refine good_condT rfl ?_
    refine good_seq fun K36 hK36 => ?_
    refine good_region rfl ?_
    refine ev_q rfl (q_assign (by conv => lhs; whnf) ?_)
    refine ev_nil (hK36 _ ?_); clear hK36
    refine good_ret ?_
    repeat (first | refine thenQ_ret ?_ | refine blockQ_ret ?_)
    refine ret_tmp (st := _) rfl (by conv => lhs; whnf) rfl ?_
    clear hK2
    first | rfl | (exfalso; first | omega | contradiction | (simp_all; done))

end Go.Proofs.YtodghlkodiidaaaDoor.DFnExactReadTank
