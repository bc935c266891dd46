/- Walks through the functions that FnExactPumpText reaches: what each answers. -/
import Derived.Test.YtodghlkodiidaaaDoorDFnExactPumpTexta
set_option linter.unusedVariables false
set_option linter.unusedSimpArgs false
namespace Go.Proofs.YtodghlkodiidaaaDoor.DFnExactPumpText
open Go Go.RowKit Go.Proofs Go.Proofs.YtodghlkodiidaaaDoor Go.Proofs.YtodghlkodiidaaaDoor.Ev
-- laws.szInt64SS
set_option maxRecDepth 20000 in
set_option maxHeartbeats 2000000 in
theorem D_laws_szInt64SS (cs : List (List Int)) (left : Int) (hc : cs.length ≤ 5864062014805) (hci : ∀ (j : Nat) (c : List Int), cs[j]? = some c → c.length ≤ 17592186044416) (hl : 0 ≤ left ∧ left ≤ 1152921504606846976) : Den Tryd.prog 63 [.lst 1 (cs.map lsI), .s (.int .i64 left)] (.s (.int .i64 (if left - cs.length - tot List.length cs cs.length < 0 then -1 else left - cs.length - tot List.length cs cs.length))) := by
  refine den_of_good Tryd.func63 (by decide) rfl (Nat.le_of_ble_eq_true rfl) (Nat.le_of_ble_eq_true rfl) ?_
  refine good_seq fun K1 hK1 => ?_
  refine good_region rfl ?_
  refine ev_q rfl (q_assign (by conv => lhs; whnf) ?_)
  refine ev_nil (hK1 _ ?_); clear hK1
  refine good_seq fun K2 hK2 => ?_
  refine good_region rfl ?_
  refine ev_q rfl (q_move (by conv => lhs; whnf) ?_)
  refine ev_q rfl (q_move (by conv => lhs; whnf) ?_)
  refine ev_q rfl (q_len tEs42 rfl ?_)
  intro n3 hn3
  try simp only [List.length_map] at hn3
  refine ev_q rfl (q_int rfl rfl ?_)
  intro n4 hn4
  replace hn4 := in64 hn4 (by omega) (by omega)
  refine ev_q rfl (q_assign (by conv => lhs; whnf) ?_)
  refine ev_nil (hK2 _ ?_); clear hK2
  refine good_seq fun K5 hK5 => ?_
  refine good_seq fun K6 hK6 => ?_
  refine good_region rfl ?_
  refine ev_q rfl (q_move (by conv => lhs; whnf) ?_)
  refine ev_q rfl (q_int rfl rfl ?_)
  intro b7 hb7; cases b7
  · replace hb7 := dF hb7
    refine ev_nil (hK6 _ ?_); clear hK6
    refine good_condF rfl ?_
    refine good_skip (hK5 _ ?_); clear hK5
    refine good_seq fun K8 hK8 => ?_
    refine good_seq fun K9 hK9 => ?_
    refine good_region rfl ?_
    refine ev_q rfl (q_assign (by conv => lhs; whnf) ?_)
    refine ev_nil (hK9 _ ?_); clear hK9
    refine good_block ?_
    refine good_loop (α := Nat) (fun i => { env := upd (upd (upd ((fun _ => .junk)) 0 (.lst 1 (cs.map lsI))) 1 (.s (.int .i64 (left - cs.length - tot List.length cs i)))) 5 (.s (.int .i64 ((i : Int)))), H := fun _ => none }) (fun i => i ≤ cs.length ∧ 0 ≤ left - cs.length - tot List.length cs i) (fun i => cs.length - i) 0 ?_ ?_ ?_
    · exact ⟨by omega, by rw [tot_zero]; omega⟩
    · refine sub_weak ?_ ?_
      · exact weakH_none _
      · refine weakE_upd ?e5 ?r5 (weakE_upd ?e1 ?r1 (weakE_upd ?e0 ?r0 (weakE_junk _ _)))
        case e0 => first | rfl | exact fI (by omega) | (simp_all)
        case r0 => intro h hh; cases hh
        case e1 => first | rfl | exact fI (by omega) | (first | exact fI (by omega) | exact fI (by rw [tot_zero]; omega))
        case r1 => intro h hh; cases hh
        case e5 => first | rfl | exact fI (by omega) | (simp_all)
        case r5 => intro h hh; cases hh
    · rintro i ⟨hI, hJ⟩
      refine good_seq fun K10 hK10 => ?_
      refine good_seq fun K11 hK11 => ?_
      refine good_region rfl ?_
      refine ev_q rfl (q_move (by conv => lhs; whnf) ?_)
      refine ev_q rfl (q_move (by conv => lhs; whnf) ?_)
      refine ev_q rfl (q_len tEs42 rfl ?_)
      intro n12 hn12
      try simp only [List.length_map] at hn12
      refine ev_q rfl (q_int rfl rfl ?_)
      intro b13 hb13; cases b13
      · replace hb13 := dF hb13
        refine ev_nil (hK11 _ ?_); clear hK11
        refine good_condF rfl ?_
        refine good_exit ?_
        repeat (first | refine thenQ_exit ?_ | refine blockQ_pass rfl ?_)
        refine blockQ_exit (hK8 _ ?_); clear hK8
        refine good_seq fun K14 hK14 => ?_
        refine good_region rfl ?_
        refine ev_q rfl (q_move (by conv => lhs; whnf) ?_)
        refine ev_q rfl (q_assign (by conv => lhs; whnf) ?_)
        refine ev_nil (hK14 _ ?_); clear hK14
        refine good_ret ?_
        repeat (first | refine thenQ_ret ?_ | refine blockQ_ret ?_)
        refine ret_tmp (st := _) rfl (by conv => lhs; whnf) rfl ?_
        clear hK10
        first | (have he := tot_end (f := List.length) (xs := cs) (i := i) (by omega); exact fI (by omega)) | exact fI (by omega)
      · replace hb13 := dT hb13
        obtain ⟨c, hcc⟩ := getL (xs := cs) (n := (i : Int)) (by omega) (by omega)
        replace hcc : cs[i]? = some c := hcc
        have hst := tot_step (f := List.length) hcc
        have hle := tot_le (f := List.length) (xs := cs) (i := i + 1)
        have hzp := hci i c hcc
        refine ev_nil (hK11 _ ?_); clear hK11
        refine good_condT rfl ?_
        refine good_skip (hK10 _ ?_); clear hK10
        refine good_seq fun K15 hK15 => ?_
        refine good_block ?_
        refine good_seq fun K16 hK16 => ?_
        refine good_region rfl ?_
        refine ev_q rfl (q_move (by conv => lhs; whnf) ?_)
        refine ev_q rfl (q_move (by conv => lhs; whnf) ?_)
        refine ev_q rfl (q_idx tE42 rfl rfl (by exact Int.natCast_nonneg _) (by exact map_get hcc) rfl ?_)
        refine ev_q rfl (q_load tA69 rfl ?_)
        refine ev_q rfl (q_move (by conv => lhs; whnf) ?_)
        refine ev_q rfl (q_callI rfl rfl (rfl) (D_laws_szInt64S c _ (by omega) (by omega)) ?_)
        intro n17 hn17
        refine ev_q rfl (q_assign (by conv => lhs; whnf) ?_)
        refine ev_nil (hK16 _ ?_); clear hK16
        refine good_seq fun K18 hK18 => ?_
        refine good_region rfl ?_
        refine ev_q rfl (q_move (by conv => lhs; whnf) ?_)
        refine ev_q rfl (q_int rfl rfl ?_)
        intro b19 hb19; cases b19
        · replace hb19 := dF hb19
          refine ev_nil (hK18 _ ?_); clear hK18
          refine good_condF rfl ?_
          refine good_skip (hK15 _ ?_); clear hK15
          refine good_region rfl ?_
          refine ev_q rfl (q_move (by conv => lhs; whnf) ?_)
          refine ev_q rfl (q_int rfl rfl ?_)
          intro n20 hn20
          replace hn20 := in64 hn20 (by omega) (by omega)
          refine ev_q rfl (q_assign (by conv => lhs; whnf) ?_)
          refine ev_nil ?_
          clear hK8
          refine ⟨i + 1, ?_, ?_, ?_⟩
          · exact ⟨by omega, by omega⟩
          · first | omega | (simp only []; omega) | (dsimp only; omega)
          · refine sub_weak ?_ ?_
            · exact weakH_none _
            · refine weakE_upd ?e5 ?r5 (weakE_upd ?e1 ?r1 (weakE_upd ?e0 ?r0 (weakE_junk _ _)))
              case e0 => first | rfl | exact fI (by omega) | (simp_all)
              case r0 => intro h hh; cases hh
              case e1 => first | rfl | exact fI (by omega) | (first | exact fI (by omega) | exact fI (by rw [tot_zero]; omega))
              case r1 => intro h hh; cases hh
              case e5 => first | rfl | exact fI (by omega) | (simp_all)
              case r5 => intro h hh; cases hh
        · replace hb19 := dT hb19
          refine ev_nil (hK18 _ ?_); clear hK18
          refine good_condT rfl ?_
          refine good_seq fun K21 hK21 => ?_
          refine good_region rfl ?_
          refine ev_q rfl (q_assign (by conv => lhs; whnf) ?_)
          refine ev_nil (hK21 _ ?_); clear hK21
          refine good_ret ?_
          repeat (first | refine thenQ_ret ?_ | refine blockQ_ret ?_)
          refine ret_tmp (st := _) rfl (by conv => lhs; whnf) rfl ?_
          clear hK8 hK15
          first | (have he := tot_end (f := List.length) (xs := cs) (i := i) (by omega); exact fI (by omega)) | exact fI (by omega)
  · replace hb7 := dT hb7
    refine ev_nil (hK6 _ ?_); clear hK6
    refine good_condT rfl ?_
    refine good_seq fun K22 hK22 => ?_
    refine good_region rfl ?_
    refine ev_q rfl (q_assign (by conv => lhs; whnf) ?_)
    refine ev_nil (hK22 _ ?_); clear hK22
    refine good_ret ?_
    repeat (first | refine thenQ_ret ?_ | refine blockQ_ret ?_)
    refine ret_tmp (st := _) rfl (by conv => lhs; whnf) rfl ?_
    clear hK5
    first | (have he := tot_end (f := List.length) (xs := cs) (i := i) (by omega); exact fI (by omega)) | exact fI (by omega)

-- laws.szPump
set_option maxRecDepth 20000 in
set_option maxHeartbeats 2000000 in
theorem D_laws_szPump (s : ByteArray) (cs : List (List Int)) (left : Int) (hs : s.size ≤ 140737488351232) (hc : cs.length ≤ 5864062014805) (hci : ∀ (j : Nat) (c : List Int), cs[j]? = some c → c.length ≤ 17592186044416) (hl : 0 ≤ left ∧ left ≤ 1152921504606846976) : Den Tryd.prog 23 [.agg [.s (.string s), .lst 1 (cs.map lsI)], .s (.int .i64 left)] (.s (.int .i64 (if left - s.size < 0 then -1 else if left - s.size - cs.length - tot List.length cs cs.length < 0 then -1 else left - s.size - cs.length - tot List.length cs cs.length))) := by
  refine den_of_good Tryd.func23 (by decide) rfl (Nat.le_of_ble_eq_true rfl) (Nat.le_of_ble_eq_true rfl) ?_
  refine good_seq fun K1 hK1 => ?_
  refine good_region rfl ?_
  refine ev_k rfl (k_box (by conv => lhs; whnf) rfl rfl rfl ?_)
  refine ev_q rfl (q_assign (by conv => lhs; whnf) ?_)
  refine ev_nil (hK1 _ ?_); clear hK1
  refine good_seq fun K2 hK2 => ?_
  refine good_region rfl ?_
  refine ev_q rfl (q_move (by conv => lhs; whnf) ?_)
  refine ev_q rfl (q_fieldAddrP fO44_0 rfl rfl ?_)
  refine ev_q rfl (q_load tA9 rfl ?_)
  refine ev_q rfl (q_lenS tStr9 rfl ?_)
  intro n3 hn3
  refine ev_q rfl (q_int rfl rfl ?_)
  intro n4 hn4
  replace hn4 := in64 hn4 (by omega) (by omega)
  refine ev_q rfl (q_assign (by conv => lhs; whnf) ?_)
  refine ev_nil (hK2 _ ?_); clear hK2
  refine good_seq fun K5 hK5 => ?_
  refine good_seq fun K6 hK6 => ?_
  refine good_region rfl ?_
  refine ev_q rfl (q_move (by conv => lhs; whnf) ?_)
  refine ev_q rfl (q_int rfl rfl ?_)
  intro b7 hb7; cases b7
  · replace hb7 := dF hb7
    refine ev_nil (hK6 _ ?_); clear hK6
    refine good_condF rfl ?_
    refine good_skip (hK5 _ ?_); clear hK5
    refine good_seq fun K8 hK8 => ?_
    refine good_region rfl ?_
    refine ev_q rfl (q_fieldAddrP fO44_1 rfl rfl ?_)
    refine ev_q rfl (q_load tA42 rfl ?_)
    refine ev_q rfl (q_move (by conv => lhs; whnf) ?_)
    refine ev_q rfl (q_callI rfl rfl (rfl) (D_laws_szInt64SS cs _ hc hci (by omega)) ?_)
    intro n9 hn9
    refine ev_q rfl (q_assign (by conv => lhs; whnf) ?_)
    refine ev_nil (hK8 _ ?_); clear hK8
    refine good_seq fun K10 hK10 => ?_
    refine good_seq fun K11 hK11 => ?_
    refine good_region rfl ?_
    refine ev_q rfl (q_move (by conv => lhs; whnf) ?_)
    refine ev_q rfl (q_int rfl rfl ?_)
    intro b12 hb12; cases b12
    · replace hb12 := dF hb12
      refine ev_nil (hK11 _ ?_); clear hK11
      refine good_condF rfl ?_
      refine good_skip (hK10 _ ?_); clear hK10
      refine good_seq fun K13 hK13 => ?_
      refine good_region rfl ?_
      refine ev_q rfl (q_move (by conv => lhs; whnf) ?_)
      refine ev_q rfl (q_assign (by conv => lhs; whnf) ?_)
      refine ev_nil (hK13 _ ?_); clear hK13
      refine good_ret ?_
      repeat (first | refine thenQ_ret ?_ | refine blockQ_ret ?_)
      refine ret_tmp (st := _) rfl (by conv => lhs; whnf) rfl ?_
      exact fI (by grind)
    · replace hb12 := dT hb12
      refine ev_nil (hK11 _ ?_); clear hK11
      refine good_condT rfl ?_
      refine good_seq fun K14 hK14 => ?_
      refine good_region rfl ?_
      refine ev_q rfl (q_assign (by conv => lhs; whnf) ?_)
      refine ev_nil (hK14 _ ?_); clear hK14
      refine good_ret ?_
      repeat (first | refine thenQ_ret ?_ | refine blockQ_ret ?_)
      refine ret_tmp (st := _) rfl (by conv => lhs; whnf) rfl ?_
      clear hK10
      exact fI (by grind)
  · replace hb7 := dT hb7
    refine ev_nil (hK6 _ ?_); clear hK6
    refine good_condT rfl ?_
    refine good_seq fun K15 hK15 => ?_
    refine good_region rfl ?_
    refine ev_q rfl (q_assign (by conv => lhs; whnf) ?_)
    refine ev_nil (hK15 _ ?_); clear hK15
    refine good_ret ?_
    repeat (first | refine thenQ_ret ?_ | refine blockQ_ret ?_)
    refine ret_tmp (st := _) rfl (by conv => lhs; whnf) rfl ?_
    clear hK5
    exact fI (by grind)

-- laws.toInt64SS
set_option maxRecDepth 20000 in
set_option maxHeartbeats 2000000 in
theorem D_laws_toInt64SS (cs : List (List Int)) (hc : cs.length ≤ 5864062014805) (hci : ∀ (j : Nat) (c : List Int), cs[j]? = some c → c.length ≤ 17592186044416) : Den Tryd.prog 66 [.lst 1 (cs.map lsI)] (.lst 1 (cs.map lsI)) := by
  refine den_of_good Tryd.func66 (by decide) rfl (Nat.le_of_ble_eq_true rfl) (Nat.le_of_ble_eq_true rfl) ?_
  refine good_seq fun K1 hK1 => ?_
  refine good_region rfl ?_
  refine ev_q rfl (q_assign (by conv => lhs; whnf) ?_)
  refine ev_nil (hK1 _ ?_); clear hK1
  refine good_seq fun K2 hK2 => ?_
  refine good_region rfl ?_
  refine ev_q rfl (q_move (by conv => lhs; whnf) ?_)
  refine ev_q rfl (q_len tEs42 rfl ?_)
  intro n3 hn3
  try simp only [List.length_map] at hn3
  refine ev_k rfl (k_make tE42 rfl rfl zA69 tBy69 rfl (by omega) (by omega) (by omega) rfl (by show _ = cs.length; omega) ?_)
  refine ev_q rfl (q_assign (by conv => lhs; whnf) ?_)
  refine ev_nil (hK2 _ ?_); clear hK2
  refine good_seq fun K4 hK4 => ?_
  refine good_seq fun K5 hK5 => ?_
  refine good_region rfl ?_
  refine ev_q rfl (q_assign (by conv => lhs; whnf) ?_)
  refine ev_nil (hK5 _ ?_); clear hK5
  refine good_block ?_
  refine good_loop (α := Nat) (fun i => { env := upd (upd (upd ((fun _ => .junk)) 0 (.lst 1 (cs.map lsI))) 3 (.own 7 cs.length)) 4 (.s (.int .i64 ((i : Int)))), H := upd ((fun _ => none)) 7 (some (.row 69 1 (fillC lsI .nil cs i))) }) (fun i => i ≤ cs.length) (fun i => cs.length - i) 0 ?_ ?_ ?_
  · exact Nat.zero_le _
  · refine sub_weak ?_ ?_
    · exact weakH_row (rowEq (fill0 rfl)) (weakH_none _)
    · refine weakE_upd ?e4 ?r4 (weakE_upd ?e3 ?r3 (weakE_upd ?e0 ?r0 (weakE_junk _ _)))
      case e0 => first | rfl | exact fI (by omega) | (simp_all)
      case r0 => intro h hh; cases hh
      case e3 => first | rfl | exact fI (by omega) | (simp_all)
      case r3 => intro h hh; simp [refs] at hh; subst hh; rfl
      case e4 => first | rfl | exact fI (by omega) | (simp_all)
      case r4 => intro h hh; cases hh
  · rintro i hI
    refine good_seq fun K6 hK6 => ?_
    refine good_seq fun K7 hK7 => ?_
    refine good_region rfl ?_
    refine ev_q rfl (q_move (by conv => lhs; whnf) ?_)
    refine ev_q rfl (q_move (by conv => lhs; whnf) ?_)
    refine ev_q rfl (q_len tEs42 rfl ?_)
    intro n8 hn8
    try simp only [List.length_map] at hn8
    refine ev_q rfl (q_int rfl rfl ?_)
    intro b9 hb9; cases b9
    · replace hb9 := dF hb9
      refine ev_nil (hK7 _ ?_); clear hK7
      refine good_condF rfl ?_
      refine good_exit ?_
      repeat (first | refine thenQ_exit ?_ | refine blockQ_pass rfl ?_)
      refine blockQ_exit (hK4 _ ?_); clear hK4
      refine good_seq fun K10 hK10 => ?_
      refine good_region rfl ?_
      refine ev_q rfl (q_move (by conv => lhs; whnf) ?_)
      refine ev_q rfl (q_assign (by conv => lhs; whnf) ?_)
      refine ev_nil (hK10 _ ?_); clear hK10
      refine good_ret ?_
      repeat (first | refine thenQ_ret ?_ | refine blockQ_ret ?_)
      refine ret_tmp (st := _) rfl (by conv => lhs; whnf) rfl ?_
      clear hK6
      exact lstEq (fillE (by omega) rfl)
    · replace hb9 := dT hb9
      obtain ⟨c, hcc⟩ := getL (xs := cs) (n := (i : Int)) (by omega) (by omega)
      replace hcc : cs[i]? = some c := hcc
      refine ev_nil (hK7 _ ?_); clear hK7
      refine good_condT rfl ?_
      refine good_skip (hK6 _ ?_); clear hK6
      refine good_seq fun K11 hK11 => ?_
      refine good_block ?_
      refine good_region rfl ?_
      refine ev_q rfl (q_move (by conv => lhs; whnf) ?_)
      refine ev_q rfl (q_move (by conv => lhs; whnf) ?_)
      refine ev_q rfl (q_move (by conv => lhs; whnf) ?_)
      refine ev_q rfl (q_move (by conv => lhs; whnf) ?_)
      refine ev_q rfl (q_idx tE42 rfl rfl (by exact Int.natCast_nonneg _) (by exact map_get hcc) rfl ?_)
      refine ev_q rfl (q_load tA69 rfl ?_)
      refine ev_q rfl (q_call rfl rfl (rfl) (D_laws_toInt64S c (hci i c hcc)) rfl ?_)
      refine ev_q rfl (q_idxO tE42 rfl rfl rfl (by exact Int.natCast_nonneg _) (by omega) rfl ?_)
      refine ev_k rfl (k_storeE sz69 rfl (by conv => lhs; whnf) rfl rfl rfl (Nat.le_of_ble_eq_true rfl) rfl (by exact fillG (by omega)) (Nat.le_of_ble_eq_true rfl) rfl ?_)
      refine ev_nil (hK11 _ ?_); clear hK11
      refine good_region rfl ?_
      refine ev_q rfl (q_move (by conv => lhs; whnf) ?_)
      refine ev_q rfl (q_int rfl rfl ?_)
      intro n12 hn12
      replace hn12 := in64 hn12 (by omega) (by omega)
      refine ev_q rfl (q_assign (by conv => lhs; whnf) ?_)
      refine ev_nil ?_
      clear hK4
      refine ⟨i + 1, ?_, ?_, ?_⟩
      · show _ ≤ _; omega
      · first | omega | (simp only []; omega) | (dsimp only; omega)
      · refine sub_weak ?_ ?_
        · exact weakH_row (rowEq (fillS hcc rfl)) (weakH_none _)
        · refine weakE_upd ?e4 ?r4 (weakE_upd ?e3 ?r3 (weakE_upd ?e0 ?r0 (weakE_junk _ _)))
          case e0 => first | rfl | exact fI (by omega) | (simp_all)
          case r0 => intro h hh; cases hh
          case e3 => first | rfl | exact fI (by omega) | (simp_all)
          case r3 => intro h hh; simp [refs] at hh; subst hh; rfl
          case e4 => first | rfl | exact fI (by omega) | (simp_all)
          case r4 => intro h hh; cases hh

-- laws.toPump
set_option maxRecDepth 20000 in
set_option maxHeartbeats 2000000 in
theorem D_laws_toPump (s : ByteArray) (cs : List (List Int)) (hc : cs.length ≤ 5864062014805) (hci : ∀ (j : Nat) (c : List Int), cs[j]? = some c → c.length ≤ 17592186044416) : Den Tryd.prog 25 [.agg [.s (.string s), .lst 1 (cs.map lsI)]] (.agg [.s (.string s), .lst 1 (cs.map lsI)]) := by
  refine den_of_good Tryd.func25 (by decide) rfl (Nat.le_of_ble_eq_true rfl) (Nat.le_of_ble_eq_true rfl) ?_
  refine good_seq fun K1 hK1 => ?_
  refine good_region rfl ?_
  refine ev_k rfl (k_box (by conv => lhs; whnf) rfl rfl rfl ?_)
  refine ev_k rfl (k_alloc zA47 rfl ?_)
  refine ev_nil (hK1 _ ?_); clear hK1
  refine good_seq fun K2 hK2 => ?_
  refine good_region rfl ?_
  refine ev_k rfl (k_alloc zA47 rfl ?_)
  refine ev_nil (hK2 _ ?_); clear hK2
  refine good_seq fun K3 hK3 => ?_
  refine good_region rfl ?_
  refine ev_q rfl (q_fieldAddrP fO44_0 rfl rfl ?_)
  refine ev_q rfl (q_load tA9 rfl ?_)
  refine ev_q rfl (q_fieldAddrP fO47_0 rfl rfl ?_)
  refine ev_k rfl (k_store sz9 rfl (by conv => lhs; whnf) rfl rfl rfl (Nat.le_of_ble_eq_true rfl) rfl ?_)
  refine ev_nil (hK3 _ ?_); clear hK3
  refine good_seq fun K4 hK4 => ?_
  refine good_region rfl ?_
  refine ev_q rfl (q_fieldAddrP fO44_1 rfl rfl ?_)
  refine ev_q rfl (q_load tA42 rfl ?_)
  refine ev_q rfl (q_call rfl rfl (rfl) (D_laws_toInt64SS cs hc hci) rfl ?_)
  refine ev_q rfl (q_fieldAddrP fO47_1 rfl rfl ?_)
  refine ev_k rfl (k_store sz42 rfl (by conv => lhs; whnf) rfl rfl rfl (Nat.le_of_ble_eq_true rfl) rfl ?_)
  refine ev_nil (hK4 _ ?_); clear hK4
  refine good_seq fun K5 hK5 => ?_
  refine good_region rfl ?_
  refine ev_q rfl (q_loadA tA47 rfl rfl rfl ?_)
  refine ev_k rfl (k_store sz47 rfl (by conv => lhs; whnf) rfl rfl rfl (Nat.le_of_ble_eq_true rfl) rfl ?_)
  refine ev_nil (hK5 _ ?_); clear hK5
  refine good_ret ?_
  repeat (first | refine thenQ_ret ?_ | refine blockQ_ret ?_)
  refine ret_cell rfl tA47 rfl rfl rfl ?_
  rfl

-- laws.eqInt64SS
set_option maxRecDepth 20000 in
set_option maxHeartbeats 2000000 in
theorem D_laws_eqInt64SS (cs : List (List Int)) (hc : cs.length ≤ 5864062014805) (hci : ∀ (j : Nat) (c : List Int), cs[j]? = some c → c.length ≤ 17592186044416) : Den Tryd.prog 68 [.lst 1 (cs.map lsI), .lst 1 (cs.map lsI)] (.s (.bool true)) := by
  refine den_of_good Tryd.func68 (by decide) rfl (Nat.le_of_ble_eq_true rfl) (Nat.le_of_ble_eq_true rfl) ?_
  refine good_seq fun K1 hK1 => ?_
  refine good_region rfl ?_
  refine ev_q rfl (q_assign (by conv => lhs; whnf) ?_)
  refine ev_nil (hK1 _ ?_); clear hK1
  refine good_seq fun K2 hK2 => ?_
  refine good_seq fun K3 hK3 => ?_
  refine good_region rfl ?_
  refine ev_q rfl (q_move (by conv => lhs; whnf) ?_)
  refine ev_q rfl (q_len tEs42 rfl ?_)
  intro n4 hn4
  try simp only [List.length_map] at hn4
  refine ev_q rfl (q_move (by conv => lhs; whnf) ?_)
  refine ev_q rfl (q_len tEs42 rfl ?_)
  intro n5 hn5
  try simp only [List.length_map] at hn5
  refine ev_q rfl (q_int rfl rfl ?_)
  intro b6 hb6; cases b6
  · replace hb6 := neF hb6
    refine ev_nil (hK3 _ ?_); clear hK3
    refine good_condF rfl ?_
    refine good_skip (hK2 _ ?_); clear hK2
    refine good_seq fun K7 hK7 => ?_
    refine good_seq fun K8 hK8 => ?_
    refine good_region rfl ?_
    refine ev_q rfl (q_assign (by conv => lhs; whnf) ?_)
    refine ev_nil (hK8 _ ?_); clear hK8
    refine good_block ?_
    refine good_loop (α := Nat) (fun i => { env := upd (upd (upd ((fun _ => .junk)) 0 (.lst 1 (cs.map lsI))) 1 (.lst 1 (cs.map lsI))) 5 (.s (.int .i64 ((i : Int)))), H := fun _ => none }) (fun i => i ≤ cs.length) (fun i => cs.length - i) 0 ?_ ?_ ?_
    · exact Nat.zero_le _
    · refine sub_weak ?_ ?_
      · exact weakH_none _
      · refine weakE_upd ?e5 ?r5 (weakE_upd ?e1 ?r1 (weakE_upd ?e0 ?r0 (weakE_junk _ _)))
        case e0 => first | rfl | exact fI (by omega) | (simp_all)
        case r0 => intro h hh; cases hh
        case e1 => first | rfl | exact fI (by omega) | (simp_all)
        case r1 => intro h hh; cases hh
        case e5 => first | rfl | exact fI (by omega) | (simp_all)
        case r5 => intro h hh; cases hh
    · rintro i hI
      refine good_seq fun K9 hK9 => ?_
      refine good_seq fun K10 hK10 => ?_
      refine good_region rfl ?_
      refine ev_q rfl (q_move (by conv => lhs; whnf) ?_)
      refine ev_q rfl (q_move (by conv => lhs; whnf) ?_)
      refine ev_q rfl (q_len tEs42 rfl ?_)
      intro n11 hn11
      try simp only [List.length_map] at hn11
      refine ev_q rfl (q_int rfl rfl ?_)
      intro b12 hb12; cases b12
      · replace hb12 := dF hb12
        refine ev_nil (hK10 _ ?_); clear hK10
        refine good_condF rfl ?_
        refine good_exit ?_
        repeat (first | refine thenQ_exit ?_ | refine blockQ_pass rfl ?_)
        refine blockQ_exit (hK7 _ ?_); clear hK7
        refine good_seq fun K13 hK13 => ?_
        refine good_region rfl ?_
        refine ev_q rfl (q_assign (by conv => lhs; whnf) ?_)
        refine ev_nil (hK13 _ ?_); clear hK13
        refine good_ret ?_
        repeat (first | refine thenQ_ret ?_ | refine blockQ_ret ?_)
        refine ret_tmp (st := _) rfl (by conv => lhs; whnf) rfl ?_
        clear hK9
        first | rfl | (exfalso; first | omega | contradiction)
      · replace hb12 := dT hb12
        obtain ⟨c, hcc⟩ := getL (xs := cs) (n := (i : Int)) (by omega) (by omega)
        replace hcc : cs[i]? = some c := hcc
        refine ev_nil (hK10 _ ?_); clear hK10
        refine good_condT rfl ?_
        refine good_skip (hK9 _ ?_); clear hK9
        refine good_seq fun K14 hK14 => ?_
        refine good_block ?_
        refine good_seq fun K15 hK15 => ?_
        refine good_draw 10 hmix (by kernel_rfl) rfl ?_
        refine qo_q rfl (q_move (by conv => lhs; whnf) ?_)
        refine qo_q rfl (q_move (by conv => lhs; whnf) ?_)
        refine qo_q rfl (q_idx tE42 rfl rfl (by exact Int.natCast_nonneg _) (by exact map_get hcc) rfl ?_)
        refine qo_q rfl (q_load tA69 rfl ?_)
        refine qo_q rfl (q_move (by conv => lhs; whnf) ?_)
        refine qo_q rfl (q_move (by conv => lhs; whnf) ?_)
        refine qo_q rfl (q_idx tE42 rfl rfl (by exact Int.natCast_nonneg _) (by exact map_get hcc) rfl ?_)
        refine qo_q rfl (q_load tA69 rfl ?_)
        refine qo_q rfl (q_callB rfl rfl (rfl) (D_laws_eqInt64S c (hci i c hcc)) ?_)
        intro b16 hb16; cases b16
        · first | replace hb16 := dF hb16 | skip
          refine qo_q rfl (q_not rfl rfl ?_)
          refine qo_nil ?_
          refine ev_nil (hK15 _ ?_); clear hK15
          refine good_condT rfl ?_
          refine good_seq fun K17 hK17 => ?_
          refine good_region rfl ?_
          refine ev_q rfl (q_assign (by conv => lhs; whnf) ?_)
          refine ev_nil (hK17 _ ?_); clear hK17
          refine good_ret ?_
          repeat (first | refine thenQ_ret ?_ | refine blockQ_ret ?_)
          refine ret_tmp (st := _) rfl (by conv => lhs; whnf) rfl ?_
          clear hK7 hK14
          first | rfl | (exfalso; first | omega | contradiction)
        · first | replace hb16 := dT hb16 | skip
          refine qo_q rfl (q_not rfl rfl ?_)
          refine qo_nil ?_
          refine ev_nil (hK15 _ ?_); clear hK15
          refine good_condF rfl ?_
          refine good_skip (hK14 _ ?_); clear hK14
          refine good_region rfl ?_
          refine ev_q rfl (q_move (by conv => lhs; whnf) ?_)
          refine ev_q rfl (q_int rfl rfl ?_)
          intro n18 hn18
          replace hn18 := in64 hn18 (by omega) (by omega)
          refine ev_q rfl (q_assign (by conv => lhs; whnf) ?_)
          refine ev_nil ?_
          clear hK7
          refine ⟨i + 1, ?_, ?_, ?_⟩
          · show _ ≤ _; omega
          · first | omega | (simp only []; omega) | (dsimp only; omega)
          · refine sub_weak ?_ ?_
            · exact weakH_none _
            · refine weakE_upd ?e5 ?r5 (weakE_upd ?e1 ?r1 (weakE_upd ?e0 ?r0 (weakE_junk _ _)))
              case e0 => first | rfl | exact fI (by omega) | (simp_all)
              case r0 => intro h hh; cases hh
              case e1 => first | rfl | exact fI (by omega) | (simp_all)
              case r1 => intro h hh; cases hh
              case e5 => first | rfl | exact fI (by omega) | (simp_all)
              case r5 => intro h hh; cases hh
  · replace hb6 := neT hb6
    refine ev_nil (hK3 _ ?_); clear hK3
    refine good_condT rfl ?_
    refine good_seq fun K19 hK19 => ?_
    refine good_region rfl ?_
    refine ev_q rfl (q_assign (by conv => lhs; whnf) ?_)
    refine ev_nil (hK19 _ ?_); clear hK19
    refine good_ret ?_
    repeat (first | refine thenQ_ret ?_ | refine blockQ_ret ?_)
    refine ret_tmp (st := _) rfl (by conv => lhs; whnf) rfl ?_
    clear hK2
    first | rfl | (exfalso; first | omega | contradiction)

-- laws.eqPump
set_option maxRecDepth 20000 in
set_option maxHeartbeats 2000000 in
theorem D_laws_eqPump (s : ByteArray) (cs : List (List Int)) (hc : cs.length ≤ 5864062014805) (hci : ∀ (j : Nat) (c : List Int), cs[j]? = some c → c.length ≤ 17592186044416) : Den Tryd.prog 27 [.agg [.s (.string s), .lst 1 (cs.map lsI)], .agg [.s (.string s), .lst 1 (cs.map lsI)]] (.s (.bool true)) := by
  refine den_of_good Tryd.func27 (by decide) rfl (Nat.le_of_ble_eq_true rfl) (Nat.le_of_ble_eq_true rfl) ?_
  refine good_seq fun K1 hK1 => ?_
  refine good_region rfl ?_
  refine ev_k rfl (k_box (by conv => lhs; whnf) rfl rfl rfl ?_)
  refine ev_k rfl (k_box (by conv => lhs; whnf) rfl rfl rfl ?_)
  refine ev_q rfl (q_assign (by conv => lhs; whnf) ?_)
  refine ev_nil (hK1 _ ?_); clear hK1
  refine good_seq fun K2 hK2 => ?_
  refine good_seq fun K3 hK3 => ?_
  refine good_region rfl ?_
  refine ev_q rfl (q_fieldAddrP fO47_0 rfl rfl ?_)
  refine ev_q rfl (q_load tA9 rfl ?_)
  refine ev_q rfl (q_fieldAddrP fO47_0 rfl rfl ?_)
  refine ev_q rfl (q_load tA9 rfl ?_)
  refine ev_q rfl (q_str rfl rfl ?_)
  intro b4 hb4; cases b4
  · replace hb4 := snF hb4
    refine ev_nil (hK3 _ ?_); clear hK3
    refine good_condF rfl ?_
    refine good_skip (hK2 _ ?_); clear hK2
    refine good_seq fun K5 hK5 => ?_
    refine good_seq fun K6 hK6 => ?_
    refine good_region rfl ?_
    refine ev_q rfl (q_fieldAddrP fO47_1 rfl rfl ?_)
    refine ev_q rfl (q_load tA42 rfl ?_)
    refine ev_q rfl (q_fieldAddrP fO47_1 rfl rfl ?_)
    refine ev_q rfl (q_load tA42 rfl ?_)
    refine ev_q rfl (q_callB rfl rfl (rfl) (D_laws_eqInt64SS cs hc hci) ?_)
    intro b7 hb7; cases b7
    · first | replace hb7 := dF hb7 | skip
      refine ev_q rfl (q_not rfl rfl ?_)
      refine ev_nil (hK6 _ ?_); clear hK6
      refine good_condT rfl ?_
      refine good_seq fun K8 hK8 => ?_
      refine good_region rfl ?_
      refine ev_q rfl (q_assign (by conv => lhs; whnf) ?_)
      refine ev_nil (hK8 _ ?_); clear hK8
      refine good_ret ?_
      repeat (first | refine thenQ_ret ?_ | refine blockQ_ret ?_)
      refine ret_tmp (st := _) rfl (by conv => lhs; whnf) rfl ?_
      clear hK5
      first | rfl | (exfalso; first | omega | contradiction)
    · first | replace hb7 := dT hb7 | skip
      refine ev_q rfl (q_not rfl rfl ?_)
      refine ev_nil (hK6 _ ?_); clear hK6
      refine good_condF rfl ?_
      refine good_skip (hK5 _ ?_); clear hK5
      refine good_seq fun K9 hK9 => ?_
      refine good_region rfl ?_
      refine ev_q rfl (q_assign (by conv => lhs; whnf) ?_)
      refine ev_nil (hK9 _ ?_); clear hK9
      refine good_ret ?_
      repeat (first | refine thenQ_ret ?_ | refine blockQ_ret ?_)
      refine ret_tmp (st := _) rfl (by conv => lhs; whnf) rfl ?_
      first | rfl | (exfalso; first | omega | contradiction)
  · replace hb4 := snT hb4
    refine ev_nil (hK3 _ ?_); clear hK3
    refine good_condT rfl ?_
    refine good_seq fun K10 hK10 => ?_
    refine good_region rfl ?_
    refine ev_q rfl (q_assign (by conv => lhs; whnf) ?_)
    refine ev_nil (hK10 _ ?_); clear hK10
    refine good_ret ?_
    repeat (first | refine thenQ_ret ?_ | refine blockQ_ret ?_)
    refine ret_tmp (st := _) rfl (by conv => lhs; whnf) rfl ?_
    clear hK2
    first | rfl | (exfalso; first | omega | contradiction)

-- laws.FnExactPumpText
set_option maxRecDepth 20000 in
set_option maxHeartbeats 2000000 in
theorem D_laws_FnExactPumpText (s : ByteArray) (cs : List (List Int)) (hs : s.size ≤ 140737488351232) (hc : cs.length ≤ 5864062014805) (hci : ∀ (j : Nat) (c : List Int), cs[j]? = some c → c.length ≤ 17592186044416) : Den Tryd.prog 6 [.agg [.s (.string s), .lst 1 (cs.map lsI)]] (.s (.bool true)) := by
  refine den_of_good Tryd.func6 (by decide) rfl (Nat.le_of_ble_eq_true rfl) (Nat.le_of_ble_eq_true rfl) ?_
  refine good_seq fun K1 hK1 => ?_
  refine good_region rfl ?_
  refine ev_k rfl (k_box (by conv => lhs; whnf) rfl rfl rfl ?_)
  refine ev_q rfl (q_assign (by conv => lhs; whnf) ?_)
  refine ev_nil (hK1 _ ?_); clear hK1
  refine good_seq fun K2 hK2 => ?_
  refine good_region rfl ?_
  refine ev_q rfl (q_assign (by conv => lhs; whnf) ?_)
  refine ev_nil (hK2 _ ?_); clear hK2
  refine good_seq fun K3 hK3 => ?_
  refine good_region rfl ?_
  refine ev_q rfl (q_loadA tA44 rfl rfl rfl ?_)
  refine ev_q rfl (q_move (by conv => lhs; whnf) ?_)
  refine ev_q rfl (q_callI rfl rfl (rfl) (D_laws_szPump s cs _ hs hc hci (by omega)) ?_)
  intro n4 hn4
  refine ev_q rfl (q_assign (by conv => lhs; whnf) ?_)
  refine ev_nil (hK3 _ ?_); clear hK3
  refine good_seq fun K5 hK5 => ?_
  refine good_seq fun K6 hK6 => ?_
  refine good_region rfl ?_
  refine ev_q rfl (q_move (by conv => lhs; whnf) ?_)
  refine ev_q rfl (q_int rfl rfl ?_)
  intro b7 hb7; cases b7
  · replace hb7 := dF hb7
    refine ev_nil (hK6 _ ?_); clear hK6
    refine good_condF rfl ?_
    refine good_skip (hK5 _ ?_); clear hK5
    refine good_seq fun K8 hK8 => ?_
    refine good_region rfl ?_
    refine ev_q rfl (q_loadA tA44 rfl rfl rfl ?_)
    refine ev_q rfl (q_call rfl rfl (rfl) (D_laws_toPump s cs hc hci) rfl ?_)
    refine ev_q rfl (q_call rfl rfl (rfl) (D_spec_PumpText s cs hs hc) rfl ?_)
    refine ev_q rfl (q_assign (by conv => lhs; whnf) ?_)
    refine ev_nil (hK8 _ ?_); clear hK8
    refine good_seq fun K9 hK9 => ?_
    refine good_region rfl ?_
    refine ev_q rfl (q_loadA tA44 rfl rfl rfl ?_)
    refine ev_q rfl (q_call rfl rfl (rfl) (D_laws_toPump s cs hc hci) rfl ?_)
    refine ev_k rfl (k_alloc zA47 rfl ?_)
    refine ev_k rfl (k_store sz47 rfl (by conv => lhs; whnf) rfl rfl rfl (Nat.le_of_ble_eq_true rfl) rfl ?_)
    refine ev_nil (hK9 _ ?_); clear hK9
    refine good_seq fun K10 hK10 => ?_
    refine good_region rfl ?_
    refine ev_q rfl (q_loadA tA47 rfl rfl rfl ?_)
    refine ev_q rfl (q_call rfl rfl (rfl) (D_impl_PumpText s cs hs hc) rfl ?_)
    refine ev_q rfl (q_assign (by conv => lhs; whnf) ?_)
    refine ev_nil (hK10 _ ?_); clear hK10
    refine good_seq fun K11 hK11 => ?_
    refine good_seq fun K12 hK12 => ?_
    refine good_region rfl ?_
    refine ev_q rfl (q_move (by conv => lhs; whnf) ?_)
    refine ev_q rfl (q_move (by conv => lhs; whnf) ?_)
    refine ev_q rfl (q_str rfl rfl ?_)
    intro b13 hb13; cases b13
    · replace hb13 := snF hb13
      refine ev_nil (hK12 _ ?_); clear hK12
      refine good_condF rfl ?_
      refine good_skip (hK11 _ ?_); clear hK11
      refine good_seq fun K14 hK14 => ?_
      refine good_seq fun K15 hK15 => ?_
      refine good_draw 5 hmix (by kernel_rfl) rfl ?_
      refine qo_q rfl (q_loadA tA47 rfl rfl rfl ?_)
      refine qo_q rfl (q_loadA tA44 rfl rfl rfl ?_)
      refine qo_q rfl (q_call rfl rfl (rfl) (D_laws_toPump s cs hc hci) rfl ?_)
      refine qo_q rfl (q_callB rfl rfl (rfl) (D_laws_eqPump s cs hc hci) ?_)
      intro b16 hb16; cases b16
      · first | replace hb16 := dF hb16 | skip
        refine qo_q rfl (q_not rfl rfl ?_)
        refine qo_nil ?_
        refine ev_nil (hK15 _ ?_); clear hK15
        refine good_condT rfl ?_
        refine good_seq fun K17 hK17 => ?_
        refine good_region rfl ?_
        refine ev_q rfl (q_assign (by conv => lhs; whnf) ?_)
        refine ev_nil (hK17 _ ?_); clear hK17
        refine good_ret ?_
        repeat (first | refine thenQ_ret ?_ | refine blockQ_ret ?_)
        refine ret_tmp (st := _) rfl (by conv => lhs; whnf) rfl ?_
        clear hK14
        first | rfl | (exfalso; first | omega | contradiction | (simp_all; done))
      · first | replace hb16 := dT hb16 | skip
        refine qo_q rfl (q_not rfl rfl ?_)
        refine qo_nil ?_
        refine ev_nil (hK15 _ ?_); clear hK15
        refine good_condF rfl ?_
        refine good_skip (hK14 _ ?_); clear hK14
        refine good_seq fun K18 hK18 => ?_
        refine good_region rfl ?_
        refine ev_q rfl (q_assign (by conv => lhs; whnf) ?_)
        refine ev_nil (hK18 _ ?_); clear hK18
        refine good_ret ?_
        repeat (first | refine thenQ_ret ?_ | refine blockQ_ret ?_)
        refine ret_tmp (st := _) rfl (by conv => lhs; whnf) rfl ?_
        first | rfl | (exfalso; first | omega | contradiction | (simp_all; done))
    · replace hb13 := snT hb13
      refine ev_nil (hK12 _ ?_); clear hK12
      refine good_condT rfl ?_
      refine good_seq fun K19 hK19 => ?_
      refine good_region rfl ?_
      refine ev_q rfl (q_assign (by conv => lhs; whnf) ?_)
      refine ev_nil (hK19 _ ?_); clear hK19
      refine good_ret ?_
      repeat (first | refine thenQ_ret ?_ | refine blockQ_ret ?_)
      refine ret_tmp (st := _) rfl (by conv => lhs; whnf) rfl ?_
      clear hK11
      first | rfl | (exfalso; first | omega | contradiction | (simp_all; done))
  · replace hb7 := dT hb7
    refine ev_nil (hK6 _ ?_); clear hK6
    refine good_condT rfl ?_
    refine good_seq fun K20 hK20 => ?_
    refine good_region rfl ?_
    refine ev_q rfl (q_assign (by conv => lhs; whnf) ?_)
    refine ev_nil (hK20 _ ?_); clear hK20
    refine good_ret ?_
    repeat (first | refine thenQ_ret ?_ | refine blockQ_ret ?_)
    refine ret_tmp (st := _) rfl (by conv => lhs; whnf) rfl ?_
    clear hK5
    first | rfl | (exfalso; first | omega | contradiction | (simp_all; done))

end Go.Proofs.YtodghlkodiidaaaDoor.DFnExactPumpText
