/- Walks through the functions that FnExactReadWave reaches: what each answers. -/
import Derived.Test.YtodghlkodiidaaaDoorDFnExactReadWavea
set_option linter.unusedVariables false
set_option linter.unusedSimpArgs false
namespace Go.Proofs.YtodghlkodiidaaaDoor.DFnExactReadWave
open Go Go.RowKit Go.Proofs Go.Proofs.YtodghlkodiidaaaDoor Go.Proofs.YtodghlkodiidaaaDoor.Ev
-- spec.l01Number
set_option maxRecDepth 20000 in
set_option maxHeartbeats 2000000 in
theorem D_spec_l01Number (s : ByteArray) (hs : s.size ≤ 1048576) : Den Tryd.prog 108 [.s (.string s)] (.tup [.s (.int .i64 (rdN s)), .s (.bool (decide (rdB s)))]) := by
  refine den_of_good Tryd.func108 (by decide) rfl (Nat.le_of_ble_eq_true rfl) (Nat.le_of_ble_eq_true rfl) ?_
  refine good_seq fun K1 hK1 => ?_
  refine good_region rfl ?_
  refine ev_q rfl (q_assign (by conv => lhs; whnf) ?_)
  refine ev_q rfl (q_assign (by conv => lhs; whnf) ?_)
  refine ev_nil (hK1 _ ?_); clear hK1
  refine good_seq fun K2 hK2 => ?_
  refine good_region rfl ?_
  refine ev_q rfl (q_assign (by conv => lhs; whnf) ?_)
  refine ev_nil (hK2 _ ?_); clear hK2
  refine good_seq fun K3 hK3 => ?_
  refine good_seq fun K4 hK4 => ?_
  refine good_region rfl ?_
  refine ev_q rfl (q_move (by conv => lhs; whnf) ?_)
  refine ev_q rfl (q_lenS tStr9 rfl ?_)
  intro n5 hn5
  refine ev_q rfl (q_int rfl rfl ?_)
  intro b6 hb6; cases b6
  · replace hb6 := dF hb6
    have ha : sg s = 0 := sg_0 (by rw [← ba_get, getElem?_neg s 0 (by omega)]; simp)
    refine ev_q rfl (q_move (by conv => lhs; whnf) ?_)
    refine ev_skip rfl ?_
    refine ev_skip rfl ?_
    refine ev_skip rfl ?_
    refine ev_q rfl (q_pickF rfl (by conv => lhs; whnf) ?_)
    refine ev_nil (hK4 _ ?_); clear hK4
    refine good_condF rfl ?_
    refine good_skip (hK3 _ ?_); clear hK3
    refine good_seq fun K7 hK7 => ?_
    refine good_seq fun K8 hK8 => ?_
    refine good_region rfl ?_
    refine ev_q rfl (q_move (by conv => lhs; whnf) ?_)
    refine ev_q rfl (q_lenS tStr9 rfl ?_)
    intro n9 hn9
    refine ev_q rfl (q_move (by conv => lhs; whnf) ?_)
    refine ev_q rfl (q_int rfl rfl ?_)
    intro b10 hb10; cases b10
    · replace hb10 := eqF hb10
      have h0a : ¬ s.size = sg s := by omega
      have hle : sg s ≤ s.size := by omega
      refine ev_q rfl (q_move (by conv => lhs; whnf) ?_)
      refine ev_q rfl (q_move (by conv => lhs; whnf) ?_)
      refine ev_q rfl (q_lenS tStr9 rfl ?_)
      intro n11 hn11
      refine ev_q rfl (q_move (by conv => lhs; whnf) ?_)
      refine ev_q rfl (q_int rfl rfl ?_)
      intro n12 hn12
      replace hn12 := in64 hn12 (by omega) (by omega)
      refine ev_q rfl (q_int rfl rfl ?_)
      intro b13 hb13; cases b13
      · replace hb13 := dF hb13
        have h18 : (s.size : Int) - sg s ≤ 18 := by omega
        refine ev_q rfl (q_pickF rfl (by conv => lhs; whnf) ?_)
        refine ev_q rfl (q_move (by conv => lhs; whnf) ?_)
        refine ev_q rfl (q_move (by conv => lhs; whnf) ?_)
        refine ev_q rfl (q_move (by conv => lhs; whnf) ?_)
        obtain ⟨ua, hua⟩ := getB (s := s) (i := sg s) (by omega)
        have hua2 := hua
        rw [ha] at hua2
        refine ev_q rfl (q_indexS tStr9 rfl rfl (by first | decide | exact Int.natCast_nonneg _ | omega) (by exact hua2) ?_)
        intro n14 hn14
        subst hn14
        refine ev_q rfl (q_int rfl rfl ?_)
        intro b15 hb15; cases b15
        · replace hb15 := eqF hb15
          have hz : ¬ ((ua.toNat : Int) = 48 ∧ (s.size : Int) > 1) := by omega
          refine ev_q rfl (q_move (by conv => lhs; whnf) ?_)
          refine ev_skip rfl ?_
          refine ev_skip rfl ?_
          refine ev_skip rfl ?_
          refine ev_q rfl (q_pickF rfl (by conv => lhs; whnf) ?_)
          refine ev_q rfl (q_pickF rfl (by conv => lhs; whnf) ?_)
          refine ev_nil (hK8 _ ?_); clear hK8
          refine good_condF rfl ?_
          refine good_skip (hK7 _ ?_); clear hK7
          refine good_seq fun K16 hK16 => ?_
          refine good_region rfl ?_
          refine ev_q rfl (q_assign (by conv => lhs; whnf) ?_)
          refine ev_nil (hK16 _ ?_); clear hK16
          refine good_seq fun K17 hK17 => ?_
          refine good_seq fun K18 hK18 => ?_
          refine good_region rfl ?_
          refine ev_q rfl (q_move (by conv => lhs; whnf) ?_)
          refine ev_q rfl (q_assign (by conv => lhs; whnf) ?_)
          refine ev_nil (hK18 _ ?_); clear hK18
          refine good_block ?_
          refine good_loop (α := Nat) (fun i => { env := upd (upd (upd (upd ((fun _ => .junk)) 0 (.s (.string s))) 4 (.s (.int .i64 ((sg s : Int))))) 5 (.s (.int .i64 (numV s (sg s) i)))) 6 (.s (.int .i64 ((i : Int)))), H := fun _ => none }) (fun i => sg s ≤ i ∧ i ≤ s.size ∧ ∀ j u, sg s ≤ j → j < i → s[j]? = some u → dig u) (fun i => s.size - i) (sg s) ?_ ?_ ?_
          · exact ⟨Nat.le_refl _, hle, fun j u h1 h2 => by omega⟩
          · refine sub_weak ?_ ?_
            · exact weakH_none _
            · refine weakE_upd ?e6 ?r6 (weakE_upd ?e5 ?r5 (weakE_upd ?e4 ?r4 (weakE_upd ?e0 ?r0 (weakE_junk _ _))))
              case e0 => first | rfl | exact fI (by omega) | (simp_all)
              case r0 => intro h hh; cases hh
              case e4 => first | rfl | exact fI (by omega) | (simp_all)
              case r4 => intro h hh; cases hh
              case e5 => first | rfl | exact fI (by omega) | (first | exact fI numV_0.symm | exact fI numV_0 | exact fI (by rw [numV_s hI hu hdg]; omega))
              case r5 => intro h hh; cases hh
              case e6 => first | rfl | exact fI (by omega) | (simp_all)
              case r6 => intro h hh; cases hh
          · rintro i ⟨hI, hI2, hJ⟩
            refine good_seq fun K19 hK19 => ?_
            refine good_seq fun K20 hK20 => ?_
            refine good_region rfl ?_
            refine ev_q rfl (q_move (by conv => lhs; whnf) ?_)
            refine ev_q rfl (q_move (by conv => lhs; whnf) ?_)
            refine ev_q rfl (q_lenS tStr9 rfl ?_)
            intro n21 hn21
            refine ev_q rfl (q_int rfl rfl ?_)
            intro b22 hb22; cases b22
            · replace hb22 := dF hb22
              obtain rfl : i = s.size := by omega
              have hnl := numV_lt hJ (Nat.le_refl _) h18
              have hy := num_y rfl h0a h18 hle hua hz hJ
              refine ev_nil (hK20 _ ?_); clear hK20
              refine good_condF rfl ?_
              refine good_exit ?_
              repeat (first | refine thenQ_exit ?_ | refine blockQ_pass rfl ?_)
              refine blockQ_exit (hK17 _ ?_); clear hK17
              refine good_seq fun K23 hK23 => ?_
              refine good_seq fun K24 hK24 => ?_
              refine good_region rfl ?_
              refine ev_q rfl (q_move (by conv => lhs; whnf) ?_)
              refine ev_q rfl (q_int rfl rfl ?_)
              intro b25 hb25; cases b25
              · replace hb25 := eqF hb25
                rw [if_neg (by omega)] at hy
                refine ev_nil (hK24 _ ?_); clear hK24
                refine good_condF rfl ?_
                refine good_skip (hK23 _ ?_); clear hK23
                refine good_seq fun K26 hK26 => ?_
                refine good_region rfl ?_
                refine ev_q rfl (q_move (by conv => lhs; whnf) ?_)
                refine ev_q rfl (q_assign (by conv => lhs; whnf) ?_)
                refine ev_q rfl (q_assign (by conv => lhs; whnf) ?_)
                refine ev_nil (hK26 _ ?_); clear hK26
                refine good_ret ?_
                repeat (first | refine thenQ_ret ?_ | refine blockQ_ret ?_)
                refine ret_many rfl ?_
                refine res_tmp (by conv => lhs; whnf) rfl ?_
                refine res_tmp (by conv => lhs; whnf) rfl ?_
                refine res_nil ?_
                clear hK19
                first | exact fTup1 (fI (rdN_no hc).symm) (fTup1 (fF hc) rfl) | exact fTup1 (fI (by rw [hy.2]; first | done | omega)) (fTup1 (fT hy.1) rfl)
              · replace hb25 := eqT hb25
                rw [if_pos (by omega)] at hy
                refine ev_nil (hK24 _ ?_); clear hK24
                refine good_condT rfl ?_
                refine good_region rfl ?_
                refine ev_q rfl (q_move (by conv => lhs; whnf) ?_)
                refine ev_q rfl (q_neg rfl ?_)
                intro n27 hn27
                replace hn27 := neg64 hn27 (by omega) (by omega)
                refine ev_q rfl (q_assign (by conv => lhs; whnf) ?_)
                refine ev_nil (hK23 _ ?_); clear hK23
                refine good_seq fun K28 hK28 => ?_
                refine good_region rfl ?_
                refine ev_q rfl (q_move (by conv => lhs; whnf) ?_)
                refine ev_q rfl (q_assign (by conv => lhs; whnf) ?_)
                refine ev_q rfl (q_assign (by conv => lhs; whnf) ?_)
                refine ev_nil (hK28 _ ?_); clear hK28
                refine good_ret ?_
                repeat (first | refine thenQ_ret ?_ | refine blockQ_ret ?_)
                refine ret_many rfl ?_
                refine res_tmp (by conv => lhs; whnf) rfl ?_
                refine res_tmp (by conv => lhs; whnf) rfl ?_
                refine res_nil ?_
                clear hK19
                first | exact fTup1 (fI (rdN_no hc).symm) (fTup1 (fF hc) rfl) | exact fTup1 (fI (by rw [hy.2]; first | done | omega)) (fTup1 (fT hy.1) rfl)
            · replace hb22 := dT hb22
              obtain ⟨u, hu⟩ := getB (s := s) (i := i) (by omega)
              have hnl := numV_lt2 hJ (by omega) h18
              refine ev_nil (hK20 _ ?_); clear hK20
              refine good_condT rfl ?_
              refine good_skip (hK19 _ ?_); clear hK19
              refine good_seq fun K29 hK29 => ?_
              refine good_block ?_
              refine good_seq fun K30 hK30 => ?_
              refine good_seq fun K31 hK31 => ?_
              refine good_region rfl ?_
              refine ev_q rfl (q_move (by conv => lhs; whnf) ?_)
              refine ev_q rfl (q_move (by conv => lhs; whnf) ?_)
              refine ev_q rfl (q_indexS tStr9 rfl rfl (by first | decide | exact Int.natCast_nonneg _ | omega) (by exact hu) ?_)
              intro n32 hn32
              subst hn32
              refine ev_q rfl (q_callB rfl rfl (rfl) (D_spec_l01Digit ..) ?_)
              intro b33 hb33; cases b33
              · first | replace hb33 := dF hb33 | skip
                have hc := num_n4 rfl hI hu hb33
                refine ev_q rfl (q_not rfl rfl ?_)
                refine ev_nil (hK31 _ ?_); clear hK31
                refine good_condT rfl ?_
                refine good_seq fun K34 hK34 => ?_
                refine good_region rfl ?_
                refine ev_q rfl (q_assign (by conv => lhs; whnf) ?_)
                refine ev_q rfl (q_assign (by conv => lhs; whnf) ?_)
                refine ev_nil (hK34 _ ?_); clear hK34
                refine good_ret ?_
                repeat (first | refine thenQ_ret ?_ | refine blockQ_ret ?_)
                refine ret_many rfl ?_
                refine res_tmp (by conv => lhs; whnf) rfl ?_
                refine res_tmp (by conv => lhs; whnf) rfl ?_
                refine res_nil ?_
                clear hK17 hK29 hK30
                first | exact fTup1 (fI (rdN_no hc).symm) (fTup1 (fF hc) rfl) | exact fTup1 (fI (by rw [hy.2]; first | done | omega)) (fTup1 (fT hy.1) rfl)
              · first | replace hb33 := dT hb33 | skip
                have hdg : dig u := hb33
                refine ev_q rfl (q_not rfl rfl ?_)
                refine ev_nil (hK31 _ ?_); clear hK31
                refine good_condF rfl ?_
                refine good_skip (hK30 _ ?_); clear hK30
                refine good_region rfl ?_
                refine ev_q rfl (q_move (by conv => lhs; whnf) ?_)
                refine ev_q rfl (q_int rfl rfl ?_)
                intro n35 hn35
                replace hn35 := in64 hn35 (by omega) (by omega)
                refine ev_q rfl (q_move (by conv => lhs; whnf) ?_)
                refine ev_q rfl (q_move (by conv => lhs; whnf) ?_)
                refine ev_q rfl (q_indexS tStr9 rfl rfl (by first | decide | exact Int.natCast_nonneg _ | omega) (by exact hu) ?_)
                intro n36 hn36
                subst hn36
                refine ev_q rfl (q_int rfl rfl ?_)
                intro n37 hn37
                replace hn37 := u8w hn37 (by have := hdg.1; omega) (by have := u.toNat_lt; omega)
                refine ev_q rfl (q_conv tK5 tK2 rfl ?_)
                intro n38 hn38
                replace hn38 := in64 hn38 (by omega) (by omega)
                refine ev_q rfl (q_int rfl rfl ?_)
                intro n39 hn39
                replace hn39 := in64 hn39 (by omega) (by omega)
                refine ev_q rfl (q_assign (by conv => lhs; whnf) ?_)
                refine ev_nil (hK29 _ ?_); clear hK29
                refine good_region rfl ?_
                refine ev_q rfl (q_move (by conv => lhs; whnf) ?_)
                refine ev_q rfl (q_int rfl rfl ?_)
                intro n40 hn40
                replace hn40 := in64 hn40 (by omega) (by omega)
                refine ev_q rfl (q_assign (by conv => lhs; whnf) ?_)
                refine ev_nil ?_
                clear hK17
                refine ⟨i + 1, ?_, ?_, ?_⟩
                · exact ⟨by omega, by omega, dig_ext hJ hu hdg⟩
                · first | omega | (simp only []; omega) | (dsimp only; omega)
                · refine sub_weak ?_ ?_
                  · exact weakH_none _
                  · refine weakE_upd ?e6 ?r6 (weakE_upd ?e5 ?r5 (weakE_upd ?e4 ?r4 (weakE_upd ?e0 ?r0 (weakE_junk _ _))))
                    case e0 => first | rfl | exact fI (by omega) | (simp_all)
                    case r0 => intro h hh; cases hh
                    case e4 => first | rfl | exact fI (by omega) | (simp_all)
                    case r4 => intro h hh; cases hh
                    case e5 => first | rfl | exact fI (by omega) | (first | exact fI numV_0.symm | exact fI numV_0 | exact fI (by rw [numV_s hI hu hdg]; omega))
                    case r5 => intro h hh; cases hh
                    case e6 => first | rfl | exact fI (by omega) | (simp_all)
                    case r6 => intro h hh; cases hh
        · replace hb15 := eqT hb15
          refine ev_q rfl (q_move (by conv => lhs; whnf) ?_)
          refine ev_q rfl (q_move (by conv => lhs; whnf) ?_)
          refine ev_q rfl (q_lenS tStr9 rfl ?_)
          intro n41 hn41
          refine ev_q rfl (q_int rfl rfl ?_)
          intro b42 hb42; cases b42
          · replace hb42 := dF hb42
            have hz : ¬ ((ua.toNat : Int) = 48 ∧ (s.size : Int) > 1) := by omega
            refine ev_q rfl (q_pickT rfl (by conv => lhs; whnf) ?_)
            refine ev_q rfl (q_pickF rfl (by conv => lhs; whnf) ?_)
            refine ev_nil (hK8 _ ?_); clear hK8
            refine good_condF rfl ?_
            refine good_skip (hK7 _ ?_); clear hK7
            refine good_seq fun K43 hK43 => ?_
            refine good_region rfl ?_
            refine ev_q rfl (q_assign (by conv => lhs; whnf) ?_)
            refine ev_nil (hK43 _ ?_); clear hK43
            refine good_seq fun K44 hK44 => ?_
            refine good_seq fun K45 hK45 => ?_
            refine good_region rfl ?_
            refine ev_q rfl (q_move (by conv => lhs; whnf) ?_)
            refine ev_q rfl (q_assign (by conv => lhs; whnf) ?_)
            refine ev_nil (hK45 _ ?_); clear hK45
            refine good_block ?_
            refine good_loop (α := Nat) (fun i => { env := upd (upd (upd (upd ((fun _ => .junk)) 0 (.s (.string s))) 4 (.s (.int .i64 ((sg s : Int))))) 5 (.s (.int .i64 (numV s (sg s) i)))) 6 (.s (.int .i64 ((i : Int)))), H := fun _ => none }) (fun i => sg s ≤ i ∧ i ≤ s.size ∧ ∀ j u, sg s ≤ j → j < i → s[j]? = some u → dig u) (fun i => s.size - i) (sg s) ?_ ?_ ?_
            · exact ⟨Nat.le_refl _, hle, fun j u h1 h2 => by omega⟩
            · refine sub_weak ?_ ?_
              · exact weakH_none _
              · refine weakE_upd ?e6 ?r6 (weakE_upd ?e5 ?r5 (weakE_upd ?e4 ?r4 (weakE_upd ?e0 ?r0 (weakE_junk _ _))))
                case e0 => first | rfl | exact fI (by omega) | (simp_all)
                case r0 => intro h hh; cases hh
                case e4 => first | rfl | exact fI (by omega) | (simp_all)
                case r4 => intro h hh; cases hh
                case e5 => first | rfl | exact fI (by omega) | (first | exact fI numV_0.symm | exact fI numV_0 | exact fI (by rw [numV_s hI hu hdg]; omega))
                case r5 => intro h hh; cases hh
                case e6 => first | rfl | exact fI (by omega) | (simp_all)
                case r6 => intro h hh; cases hh
            · rintro i ⟨hI, hI2, hJ⟩
              refine good_seq fun K46 hK46 => ?_
              refine good_seq fun K47 hK47 => ?_
              refine good_region rfl ?_
              refine ev_q rfl (q_move (by conv => lhs; whnf) ?_)
              refine ev_q rfl (q_move (by conv => lhs; whnf) ?_)
              refine ev_q rfl (q_lenS tStr9 rfl ?_)
              intro n48 hn48
              refine ev_q rfl (q_int rfl rfl ?_)
              intro b49 hb49; cases b49
              · replace hb49 := dF hb49
                obtain rfl : i = s.size := by omega
                have hnl := numV_lt hJ (Nat.le_refl _) h18
                have hy := num_y rfl h0a h18 hle hua hz hJ
                refine ev_nil (hK47 _ ?_); clear hK47
                refine good_condF rfl ?_
                refine good_exit ?_
                repeat (first | refine thenQ_exit ?_ | refine blockQ_pass rfl ?_)
                refine blockQ_exit (hK44 _ ?_); clear hK44
                refine good_seq fun K50 hK50 => ?_
                refine good_seq fun K51 hK51 => ?_
                refine good_region rfl ?_
                refine ev_q rfl (q_move (by conv => lhs; whnf) ?_)
                refine ev_q rfl (q_int rfl rfl ?_)
                intro b52 hb52; cases b52
                · replace hb52 := eqF hb52
                  rw [if_neg (by omega)] at hy
                  refine ev_nil (hK51 _ ?_); clear hK51
                  refine good_condF rfl ?_
                  refine good_skip (hK50 _ ?_); clear hK50
                  refine good_seq fun K53 hK53 => ?_
                  refine good_region rfl ?_
                  refine ev_q rfl (q_move (by conv => lhs; whnf) ?_)
                  refine ev_q rfl (q_assign (by conv => lhs; whnf) ?_)
                  refine ev_q rfl (q_assign (by conv => lhs; whnf) ?_)
                  refine ev_nil (hK53 _ ?_); clear hK53
                  refine good_ret ?_
                  repeat (first | refine thenQ_ret ?_ | refine blockQ_ret ?_)
                  refine ret_many rfl ?_
                  refine res_tmp (by conv => lhs; whnf) rfl ?_
                  refine res_tmp (by conv => lhs; whnf) rfl ?_
                  refine res_nil ?_
                  clear hK46
                  first | exact fTup1 (fI (rdN_no hc).symm) (fTup1 (fF hc) rfl) | exact fTup1 (fI (by rw [hy.2]; first | done | omega)) (fTup1 (fT hy.1) rfl)
                · replace hb52 := eqT hb52
                  rw [if_pos (by omega)] at hy
                  refine ev_nil (hK51 _ ?_); clear hK51
                  refine good_condT rfl ?_
                  refine good_region rfl ?_
                  refine ev_q rfl (q_move (by conv => lhs; whnf) ?_)
                  refine ev_q rfl (q_neg rfl ?_)
                  intro n54 hn54
                  replace hn54 := neg64 hn54 (by omega) (by omega)
                  refine ev_q rfl (q_assign (by conv => lhs; whnf) ?_)
                  refine ev_nil (hK50 _ ?_); clear hK50
                  refine good_seq fun K55 hK55 => ?_
                  refine good_region rfl ?_
                  refine ev_q rfl (q_move (by conv => lhs; whnf) ?_)
                  refine ev_q rfl (q_assign (by conv => lhs; whnf) ?_)
                  refine ev_q rfl (q_assign (by conv => lhs; whnf) ?_)
                  refine ev_nil (hK55 _ ?_); clear hK55
                  refine good_ret ?_
                  repeat (first | refine thenQ_ret ?_ | refine blockQ_ret ?_)
                  refine ret_many rfl ?_
                  refine res_tmp (by conv => lhs; whnf) rfl ?_
                  refine res_tmp (by conv => lhs; whnf) rfl ?_
                  refine res_nil ?_
                  clear hK46
                  first | exact fTup1 (fI (rdN_no hc).symm) (fTup1 (fF hc) rfl) | exact fTup1 (fI (by rw [hy.2]; first | done | omega)) (fTup1 (fT hy.1) rfl)
              · replace hb49 := dT hb49
                obtain ⟨u, hu⟩ := getB (s := s) (i := i) (by omega)
                have hnl := numV_lt2 hJ (by omega) h18
                refine ev_nil (hK47 _ ?_); clear hK47
                refine good_condT rfl ?_
                refine good_skip (hK46 _ ?_); clear hK46
                refine good_seq fun K56 hK56 => ?_
                refine good_block ?_
                refine good_seq fun K57 hK57 => ?_
                refine good_seq fun K58 hK58 => ?_
                refine good_region rfl ?_
                refine ev_q rfl (q_move (by conv => lhs; whnf) ?_)
                refine ev_q rfl (q_move (by conv => lhs; whnf) ?_)
                refine ev_q rfl (q_indexS tStr9 rfl rfl (by first | decide | exact Int.natCast_nonneg _ | omega) (by exact hu) ?_)
                intro n59 hn59
                subst hn59
                refine ev_q rfl (q_callB rfl rfl (rfl) (D_spec_l01Digit ..) ?_)
                intro b60 hb60; cases b60
                · first | replace hb60 := dF hb60 | skip
                  have hc := num_n4 rfl hI hu hb60
                  refine ev_q rfl (q_not rfl rfl ?_)
                  refine ev_nil (hK58 _ ?_); clear hK58
                  refine good_condT rfl ?_
                  refine good_seq fun K61 hK61 => ?_
                  refine good_region rfl ?_
                  refine ev_q rfl (q_assign (by conv => lhs; whnf) ?_)
                  refine ev_q rfl (q_assign (by conv => lhs; whnf) ?_)
                  refine ev_nil (hK61 _ ?_); clear hK61
                  refine good_ret ?_
                  repeat (first | refine thenQ_ret ?_ | refine blockQ_ret ?_)
                  refine ret_many rfl ?_
                  refine res_tmp (by conv => lhs; whnf) rfl ?_
                  refine res_tmp (by conv => lhs; whnf) rfl ?_
                  refine res_nil ?_
                  clear hK44 hK56 hK57
                  first | exact fTup1 (fI (rdN_no hc).symm) (fTup1 (fF hc) rfl) | exact fTup1 (fI (by rw [hy.2]; first | done | omega)) (fTup1 (fT hy.1) rfl)
                · first | replace hb60 := dT hb60 | skip
                  have hdg : dig u := hb60
                  refine ev_q rfl (q_not rfl rfl ?_)
                  refine ev_nil (hK58 _ ?_); clear hK58
                  refine good_condF rfl ?_
                  refine good_skip (hK57 _ ?_); clear hK57
                  refine good_region rfl ?_
                  refine ev_q rfl (q_move (by conv => lhs; whnf) ?_)
                  refine ev_q rfl (q_int rfl rfl ?_)
                  intro n62 hn62
                  replace hn62 := in64 hn62 (by omega) (by omega)
                  refine ev_q rfl (q_move (by conv => lhs; whnf) ?_)
                  refine ev_q rfl (q_move (by conv => lhs; whnf) ?_)
                  refine ev_q rfl (q_indexS tStr9 rfl rfl (by first | decide | exact Int.natCast_nonneg _ | omega) (by exact hu) ?_)
                  intro n63 hn63
                  subst hn63
                  refine ev_q rfl (q_int rfl rfl ?_)
                  intro n64 hn64
                  replace hn64 := u8w hn64 (by have := hdg.1; omega) (by have := u.toNat_lt; omega)
                  refine ev_q rfl (q_conv tK5 tK2 rfl ?_)
                  intro n65 hn65
                  replace hn65 := in64 hn65 (by omega) (by omega)
                  refine ev_q rfl (q_int rfl rfl ?_)
                  intro n66 hn66
                  replace hn66 := in64 hn66 (by omega) (by omega)
                  refine ev_q rfl (q_assign (by conv => lhs; whnf) ?_)
                  refine ev_nil (hK56 _ ?_); clear hK56
                  refine good_region rfl ?_
                  refine ev_q rfl (q_move (by conv => lhs; whnf) ?_)
                  refine ev_q rfl (q_int rfl rfl ?_)
                  intro n67 hn67
                  replace hn67 := in64 hn67 (by omega) (by omega)
                  refine ev_q rfl (q_assign (by conv => lhs; whnf) ?_)
                  refine ev_nil ?_
                  clear hK44
                  refine ⟨i + 1, ?_, ?_, ?_⟩
                  · exact ⟨by omega, by omega, dig_ext hJ hu hdg⟩
                  · first | omega | (simp only []; omega) | (dsimp only; omega)
                  · refine sub_weak ?_ ?_
                    · exact weakH_none _
                    · refine weakE_upd ?e6 ?r6 (weakE_upd ?e5 ?r5 (weakE_upd ?e4 ?r4 (weakE_upd ?e0 ?r0 (weakE_junk _ _))))
                      case e0 => first | rfl | exact fI (by omega) | (simp_all)
                      case r0 => intro h hh; cases hh
                      case e4 => first | rfl | exact fI (by omega) | (simp_all)
                      case r4 => intro h hh; cases hh
                      case e5 => first | rfl | exact fI (by omega) | (first | exact fI numV_0.symm | exact fI numV_0 | exact fI (by rw [numV_s hI hu hdg]; omega))
                      case r5 => intro h hh; cases hh
                      case e6 => first | rfl | exact fI (by omega) | (simp_all)
                      case r6 => intro h hh; cases hh
          · replace hb42 := dT hb42
            have hc := num_n3 ha hua2 (by omega) (by omega)
            refine ev_q rfl (q_pickT rfl (by conv => lhs; whnf) ?_)
            refine ev_q rfl (q_pickF rfl (by conv => lhs; whnf) ?_)
            refine ev_nil (hK8 _ ?_); clear hK8
            refine good_condT rfl ?_
            refine good_seq fun K68 hK68 => ?_
            refine good_region rfl ?_
            refine ev_q rfl (q_assign (by conv => lhs; whnf) ?_)
            refine ev_q rfl (q_assign (by conv => lhs; whnf) ?_)
            refine ev_nil (hK68 _ ?_); clear hK68
            refine good_ret ?_
            repeat (first | refine thenQ_ret ?_ | refine blockQ_ret ?_)
            refine ret_many rfl ?_
            refine res_tmp (by conv => lhs; whnf) rfl ?_
            refine res_tmp (by conv => lhs; whnf) rfl ?_
            refine res_nil ?_
            clear hK7
            first | exact fTup1 (fI (rdN_no hc).symm) (fTup1 (fF hc) rfl) | exact fTup1 (fI (by rw [hy.2]; first | done | omega)) (fTup1 (fT hy.1) rfl)
      · replace hb13 := dT hb13
        have hc := num_n2 ha (by omega)
        refine ev_q rfl (q_pickF rfl (by conv => lhs; whnf) ?_)
        refine ev_q rfl (q_move (by conv => lhs; whnf) ?_)
        refine ev_skip rfl ?_
        refine ev_skip rfl ?_
        refine ev_skip rfl ?_
        refine ev_skip rfl ?_
        refine ev_skip rfl ?_
        refine ev_skip rfl ?_
        refine ev_skip rfl ?_
        refine ev_skip rfl ?_
        refine ev_skip rfl ?_
        refine ev_q rfl (q_pickT rfl (by conv => lhs; whnf) ?_)
        refine ev_nil (hK8 _ ?_); clear hK8
        refine good_condT rfl ?_
        refine good_seq fun K69 hK69 => ?_
        refine good_region rfl ?_
        refine ev_q rfl (q_assign (by conv => lhs; whnf) ?_)
        refine ev_q rfl (q_assign (by conv => lhs; whnf) ?_)
        refine ev_nil (hK69 _ ?_); clear hK69
        refine good_ret ?_
        repeat (first | refine thenQ_ret ?_ | refine blockQ_ret ?_)
        refine ret_many rfl ?_
        refine res_tmp (by conv => lhs; whnf) rfl ?_
        refine res_tmp (by conv => lhs; whnf) rfl ?_
        refine res_nil ?_
        clear hK7
        first | exact fTup1 (fI (rdN_no hc).symm) (fTup1 (fF hc) rfl) | exact fTup1 (fI (by rw [hy.2]; first | done | omega)) (fTup1 (fT hy.1) rfl)
    · replace hb10 := eqT hb10
      have hc := num_n1 ha (by omega)
      refine ev_q rfl (q_move (by conv => lhs; whnf) ?_)
      refine ev_skip rfl ?_
      refine ev_skip rfl ?_
      refine ev_skip rfl ?_
      refine ev_skip rfl ?_
      refine ev_skip rfl ?_
      refine ev_q rfl (q_pickT rfl (by conv => lhs; whnf) ?_)
      refine ev_q rfl (q_move (by conv => lhs; whnf) ?_)
      refine ev_skip rfl ?_
      refine ev_skip rfl ?_
      refine ev_skip rfl ?_
      refine ev_skip rfl ?_
      refine ev_skip rfl ?_
      refine ev_skip rfl ?_
      refine ev_skip rfl ?_
      refine ev_skip rfl ?_
      refine ev_skip rfl ?_
      refine ev_q rfl (q_pickT rfl (by conv => lhs; whnf) ?_)
      refine ev_nil (hK8 _ ?_); clear hK8
      refine good_condT rfl ?_
      refine good_seq fun K70 hK70 => ?_
      refine good_region rfl ?_
      refine ev_q rfl (q_assign (by conv => lhs; whnf) ?_)
      refine ev_q rfl (q_assign (by conv => lhs; whnf) ?_)
      refine ev_nil (hK70 _ ?_); clear hK70
      refine good_ret ?_
      repeat (first | refine thenQ_ret ?_ | refine blockQ_ret ?_)
      refine ret_many rfl ?_
      refine res_tmp (by conv => lhs; whnf) rfl ?_
      refine res_tmp (by conv => lhs; whnf) rfl ?_
      refine res_nil ?_
      clear hK7
      first | exact fTup1 (fI (rdN_no hc).symm) (fTup1 (fF hc) rfl) | exact fTup1 (fI (by rw [hy.2]; first | done | omega)) (fTup1 (fT hy.1) rfl)
  · replace hb6 := dT hb6
    obtain ⟨u0, hu0⟩ := getB (s := s) (i := 0) (by omega)
    refine ev_q rfl (q_move (by conv => lhs; whnf) ?_)
    refine ev_q rfl (q_move (by conv => lhs; whnf) ?_)
    refine ev_q rfl (q_indexS tStr9 rfl rfl (by first | decide | exact Int.natCast_nonneg _ | omega) (by exact hu0) ?_)
    intro n71 hn71
    subst hn71
    refine ev_q rfl (q_int rfl rfl ?_)
    intro b72 hb72; cases b72
    · replace hb72 := eqF hb72
      have ha : sg s = 0 := sg_0 (by rw [← ba_get, hu0]; intro e; cases e; exact hb72 rfl)
      refine ev_q rfl (q_pickT rfl (by conv => lhs; whnf) ?_)
      refine ev_nil (hK4 _ ?_); clear hK4
      refine good_condF rfl ?_
      refine good_skip (hK3 _ ?_); clear hK3
      refine good_seq fun K73 hK73 => ?_
      refine good_seq fun K74 hK74 => ?_
      refine good_region rfl ?_
      refine ev_q rfl (q_move (by conv => lhs; whnf) ?_)
      refine ev_q rfl (q_lenS tStr9 rfl ?_)
      intro n75 hn75
      refine ev_q rfl (q_move (by conv => lhs; whnf) ?_)
      refine ev_q rfl (q_int rfl rfl ?_)
      intro b76 hb76; cases b76
      · replace hb76 := eqF hb76
        have h0a : ¬ s.size = sg s := by omega
        have hle : sg s ≤ s.size := by omega
        refine ev_q rfl (q_move (by conv => lhs; whnf) ?_)
        refine ev_q rfl (q_move (by conv => lhs; whnf) ?_)
        refine ev_q rfl (q_lenS tStr9 rfl ?_)
        intro n77 hn77
        refine ev_q rfl (q_move (by conv => lhs; whnf) ?_)
        refine ev_q rfl (q_int rfl rfl ?_)
        intro n78 hn78
        replace hn78 := in64 hn78 (by omega) (by omega)
        refine ev_q rfl (q_int rfl rfl ?_)
        intro b79 hb79; cases b79
        · replace hb79 := dF hb79
          have h18 : (s.size : Int) - sg s ≤ 18 := by omega
          refine ev_q rfl (q_pickF rfl (by conv => lhs; whnf) ?_)
          refine ev_q rfl (q_move (by conv => lhs; whnf) ?_)
          refine ev_q rfl (q_move (by conv => lhs; whnf) ?_)
          refine ev_q rfl (q_move (by conv => lhs; whnf) ?_)
          obtain ⟨ua, hua⟩ := getB (s := s) (i := sg s) (by omega)
          have hua2 := hua
          rw [ha] at hua2
          refine ev_q rfl (q_indexS tStr9 rfl rfl (by first | decide | exact Int.natCast_nonneg _ | omega) (by exact hua2) ?_)
          intro n80 hn80
          subst hn80
          refine ev_q rfl (q_int rfl rfl ?_)
          intro b81 hb81; cases b81
          · replace hb81 := eqF hb81
            have hz : ¬ ((ua.toNat : Int) = 48 ∧ (s.size : Int) > 1) := by omega
            refine ev_q rfl (q_move (by conv => lhs; whnf) ?_)
            refine ev_skip rfl ?_
            refine ev_skip rfl ?_
            refine ev_skip rfl ?_
            refine ev_q rfl (q_pickF rfl (by conv => lhs; whnf) ?_)
            refine ev_q rfl (q_pickF rfl (by conv => lhs; whnf) ?_)
            refine ev_nil (hK74 _ ?_); clear hK74
            refine good_condF rfl ?_
            refine good_skip (hK73 _ ?_); clear hK73
            refine good_seq fun K82 hK82 => ?_
            refine good_region rfl ?_
            refine ev_q rfl (q_assign (by conv => lhs; whnf) ?_)
            refine ev_nil (hK82 _ ?_); clear hK82
            refine good_seq fun K83 hK83 => ?_
            refine good_seq fun K84 hK84 => ?_
            refine good_region rfl ?_
            refine ev_q rfl (q_move (by conv => lhs; whnf) ?_)
            refine ev_q rfl (q_assign (by conv => lhs; whnf) ?_)
            refine ev_nil (hK84 _ ?_); clear hK84
            refine good_block ?_
            refine good_loop (α := Nat) (fun i => { env := upd (upd (upd (upd ((fun _ => .junk)) 0 (.s (.string s))) 4 (.s (.int .i64 ((sg s : Int))))) 5 (.s (.int .i64 (numV s (sg s) i)))) 6 (.s (.int .i64 ((i : Int)))), H := fun _ => none }) (fun i => sg s ≤ i ∧ i ≤ s.size ∧ ∀ j u, sg s ≤ j → j < i → s[j]? = some u → dig u) (fun i => s.size - i) (sg s) ?_ ?_ ?_
            · exact ⟨Nat.le_refl _, hle, fun j u h1 h2 => by omega⟩
            · refine sub_weak ?_ ?_
              · exact weakH_none _
              · refine weakE_upd ?e6 ?r6 (weakE_upd ?e5 ?r5 (weakE_upd ?e4 ?r4 (weakE_upd ?e0 ?r0 (weakE_junk _ _))))
                case e0 => first | rfl | exact fI (by omega) | (simp_all)
                case r0 => intro h hh; cases hh
                case e4 => first | rfl | exact fI (by omega) | (simp_all)
                case r4 => intro h hh; cases hh
                case e5 => first | rfl | exact fI (by omega) | (first | exact fI numV_0.symm | exact fI numV_0 | exact fI (by rw [numV_s hI hu hdg]; omega))
                case r5 => intro h hh; cases hh
                case e6 => first | rfl | exact fI (by omega) | (simp_all)
                case r6 => intro h hh; cases hh
            · rintro i ⟨hI, hI2, hJ⟩
              refine good_seq fun K85 hK85 => ?_
              refine good_seq fun K86 hK86 => ?_
              refine good_region rfl ?_
              refine ev_q rfl (q_move (by conv => lhs; whnf) ?_)
              refine ev_q rfl (q_move (by conv => lhs; whnf) ?_)
              refine ev_q rfl (q_lenS tStr9 rfl ?_)
              intro n87 hn87
              refine ev_q rfl (q_int rfl rfl ?_)
              intro b88 hb88; cases b88
              · replace hb88 := dF hb88
                obtain rfl : i = s.size := by omega
                have hnl := numV_lt hJ (Nat.le_refl _) h18
                have hy := num_y rfl h0a h18 hle hua hz hJ
                refine ev_nil (hK86 _ ?_); clear hK86
                refine good_condF rfl ?_
                refine good_exit ?_
                repeat (first | refine thenQ_exit ?_ | refine blockQ_pass rfl ?_)
                refine blockQ_exit (hK83 _ ?_); clear hK83
                refine good_seq fun K89 hK89 => ?_
                refine good_seq fun K90 hK90 => ?_
                refine good_region rfl ?_
                refine ev_q rfl (q_move (by conv => lhs; whnf) ?_)
                refine ev_q rfl (q_int rfl rfl ?_)
                intro b91 hb91; cases b91
                · replace hb91 := eqF hb91
                  rw [if_neg (by omega)] at hy
                  refine ev_nil (hK90 _ ?_); clear hK90
                  refine good_condF rfl ?_
                  refine good_skip (hK89 _ ?_); clear hK89
                  refine good_seq fun K92 hK92 => ?_
                  refine good_region rfl ?_
                  refine ev_q rfl (q_move (by conv => lhs; whnf) ?_)
                  refine ev_q rfl (q_assign (by conv => lhs; whnf) ?_)
                  refine ev_q rfl (q_assign (by conv => lhs; whnf) ?_)
                  refine ev_nil (hK92 _ ?_); clear hK92
                  refine good_ret ?_
                  repeat (first | refine thenQ_ret ?_ | refine blockQ_ret ?_)
                  refine ret_many rfl ?_
                  refine res_tmp (by conv => lhs; whnf) rfl ?_
                  refine res_tmp (by conv => lhs; whnf) rfl ?_
                  refine res_nil ?_
                  clear hK85
                  first | exact fTup1 (fI (rdN_no hc).symm) (fTup1 (fF hc) rfl) | exact fTup1 (fI (by rw [hy.2]; first | done | omega)) (fTup1 (fT hy.1) rfl)
                · replace hb91 := eqT hb91
                  rw [if_pos (by omega)] at hy
                  refine ev_nil (hK90 _ ?_); clear hK90
                  refine good_condT rfl ?_
                  refine good_region rfl ?_
                  refine ev_q rfl (q_move (by conv => lhs; whnf) ?_)
                  refine ev_q rfl (q_neg rfl ?_)
                  intro n93 hn93
                  replace hn93 := neg64 hn93 (by omega) (by omega)
                  refine ev_q rfl (q_assign (by conv => lhs; whnf) ?_)
                  refine ev_nil (hK89 _ ?_); clear hK89
                  refine good_seq fun K94 hK94 => ?_
                  refine good_region rfl ?_
                  refine ev_q rfl (q_move (by conv => lhs; whnf) ?_)
                  refine ev_q rfl (q_assign (by conv => lhs; whnf) ?_)
                  refine ev_q rfl (q_assign (by conv => lhs; whnf) ?_)
                  refine ev_nil (hK94 _ ?_); clear hK94
                  refine good_ret ?_
                  repeat (first | refine thenQ_ret ?_ | refine blockQ_ret ?_)
                  refine ret_many rfl ?_
                  refine res_tmp (by conv => lhs; whnf) rfl ?_
                  refine res_tmp (by conv => lhs; whnf) rfl ?_
                  refine res_nil ?_
                  clear hK85
                  first | exact fTup1 (fI (rdN_no hc).symm) (fTup1 (fF hc) rfl) | exact fTup1 (fI (by rw [hy.2]; first | done | omega)) (fTup1 (fT hy.1) rfl)
              · replace hb88 := dT hb88
                obtain ⟨u, hu⟩ := getB (s := s) (i := i) (by omega)
                have hnl := numV_lt2 hJ (by omega) h18
                refine ev_nil (hK86 _ ?_); clear hK86
                refine good_condT rfl ?_
                refine good_skip (hK85 _ ?_); clear hK85
                refine good_seq fun K95 hK95 => ?_
                refine good_block ?_
                refine good_seq fun K96 hK96 => ?_
                refine good_seq fun K97 hK97 => ?_
                refine good_region rfl ?_
                refine ev_q rfl (q_move (by conv => lhs; whnf) ?_)
                refine ev_q rfl (q_move (by conv => lhs; whnf) ?_)
                refine ev_q rfl (q_indexS tStr9 rfl rfl (by first | decide | exact Int.natCast_nonneg _ | omega) (by exact hu) ?_)
                intro n98 hn98
                subst hn98
                refine ev_q rfl (q_callB rfl rfl (rfl) (D_spec_l01Digit ..) ?_)
                intro b99 hb99; cases b99
                · first | replace hb99 := dF hb99 | skip
                  have hc := num_n4 rfl hI hu hb99
                  refine ev_q rfl (q_not rfl rfl ?_)
                  refine ev_nil (hK97 _ ?_); clear hK97
                  refine good_condT rfl ?_
                  refine good_seq fun K100 hK100 => ?_
                  refine good_region rfl ?_
                  refine ev_q rfl (q_assign (by conv => lhs; whnf) ?_)
                  refine ev_q rfl (q_assign (by conv => lhs; whnf) ?_)
                  refine ev_nil (hK100 _ ?_); clear hK100
                  refine good_ret ?_
                  repeat (first | refine thenQ_ret ?_ | refine blockQ_ret ?_)
                  refine ret_many rfl ?_
                  refine res_tmp (by conv => lhs; whnf) rfl ?_
                  refine res_tmp (by conv => lhs; whnf) rfl ?_
                  refine res_nil ?_
                  clear hK83 hK95 hK96
                  first | exact fTup1 (fI (rdN_no hc).symm) (fTup1 (fF hc) rfl) | exact fTup1 (fI (by rw [hy.2]; first | done | omega)) (fTup1 (fT hy.1) rfl)
                · first | replace hb99 := dT hb99 | skip
                  have hdg : dig u := hb99
                  refine ev_q rfl (q_not rfl rfl ?_)
                  refine ev_nil (hK97 _ ?_); clear hK97
                  refine good_condF rfl ?_
                  refine good_skip (hK96 _ ?_); clear hK96
                  refine good_region rfl ?_
                  refine ev_q rfl (q_move (by conv => lhs; whnf) ?_)
                  refine ev_q rfl (q_int rfl rfl ?_)
                  intro n101 hn101
                  replace hn101 := in64 hn101 (by omega) (by omega)
                  refine ev_q rfl (q_move (by conv => lhs; whnf) ?_)
                  refine ev_q rfl (q_move (by conv => lhs; whnf) ?_)
                  refine ev_q rfl (q_indexS tStr9 rfl rfl (by first | decide | exact Int.natCast_nonneg _ | omega) (by exact hu) ?_)
                  intro n102 hn102
                  subst hn102
                  refine ev_q rfl (q_int rfl rfl ?_)
                  intro n103 hn103
                  replace hn103 := u8w hn103 (by have := hdg.1; omega) (by have := u.toNat_lt; omega)
                  refine ev_q rfl (q_conv tK5 tK2 rfl ?_)
                  intro n104 hn104
                  replace hn104 := in64 hn104 (by omega) (by omega)
                  refine ev_q rfl (q_int rfl rfl ?_)
                  intro n105 hn105
                  replace hn105 := in64 hn105 (by omega) (by omega)
                  refine ev_q rfl (q_assign (by conv => lhs; whnf) ?_)
                  refine ev_nil (hK95 _ ?_); clear hK95
                  refine good_region rfl ?_
                  refine ev_q rfl (q_move (by conv => lhs; whnf) ?_)
                  refine ev_q rfl (q_int rfl rfl ?_)
                  intro n106 hn106
                  replace hn106 := in64 hn106 (by omega) (by omega)
                  refine ev_q rfl (q_assign (by conv => lhs; whnf) ?_)
                  refine ev_nil ?_
                  clear hK83
                  refine ⟨i + 1, ?_, ?_, ?_⟩
                  · exact ⟨by omega, by omega, dig_ext hJ hu hdg⟩
                  · first | omega | (simp only []; omega) | (dsimp only; omega)
                  · refine sub_weak ?_ ?_
                    · exact weakH_none _
                    · refine weakE_upd ?e6 ?r6 (weakE_upd ?e5 ?r5 (weakE_upd ?e4 ?r4 (weakE_upd ?e0 ?r0 (weakE_junk _ _))))
                      case e0 => first | rfl | exact fI (by omega) | (simp_all)
                      case r0 => intro h hh; cases hh
                      case e4 => first | rfl | exact fI (by omega) | (simp_all)
                      case r4 => intro h hh; cases hh
                      case e5 => first | rfl | exact fI (by omega) | (first | exact fI numV_0.symm | exact fI numV_0 | exact fI (by rw [numV_s hI hu hdg]; omega))
                      case r5 => intro h hh; cases hh
                      case e6 => first | rfl | exact fI (by omega) | (simp_all)
                      case r6 => intro h hh; cases hh
          · replace hb81 := eqT hb81
            refine ev_q rfl (q_move (by conv => lhs; whnf) ?_)
            refine ev_q rfl (q_move (by conv => lhs; whnf) ?_)
            refine ev_q rfl (q_lenS tStr9 rfl ?_)
            intro n107 hn107
            refine ev_q rfl (q_int rfl rfl ?_)
            intro b108 hb108; cases b108
            · replace hb108 := dF hb108
              have hz : ¬ ((ua.toNat : Int) = 48 ∧ (s.size : Int) > 1) := by omega
              refine ev_q rfl (q_pickT rfl (by conv => lhs; whnf) ?_)
              refine ev_q rfl (q_pickF rfl (by conv => lhs; whnf) ?_)
              refine ev_nil (hK74 _ ?_); clear hK74
              refine good_condF rfl ?_
              refine good_skip (hK73 _ ?_); clear hK73
              refine good_seq fun K109 hK109 => ?_
              refine good_region rfl ?_
              refine ev_q rfl (q_assign (by conv => lhs; whnf) ?_)
              refine ev_nil (hK109 _ ?_); clear hK109
              refine good_seq fun K110 hK110 => ?_
              refine good_seq fun K111 hK111 => ?_
              refine good_region rfl ?_
              refine ev_q rfl (q_move (by conv => lhs; whnf) ?_)
              refine ev_q rfl (q_assign (by conv => lhs; whnf) ?_)
              refine ev_nil (hK111 _ ?_); clear hK111
              refine good_block ?_
              refine good_loop (α := Nat) (fun i => { env := upd (upd (upd (upd ((fun _ => .junk)) 0 (.s (.string s))) 4 (.s (.int .i64 ((sg s : Int))))) 5 (.s (.int .i64 (numV s (sg s) i)))) 6 (.s (.int .i64 ((i : Int)))), H := fun _ => none }) (fun i => sg s ≤ i ∧ i ≤ s.size ∧ ∀ j u, sg s ≤ j → j < i → s[j]? = some u → dig u) (fun i => s.size - i) (sg s) ?_ ?_ ?_
              · exact ⟨Nat.le_refl _, hle, fun j u h1 h2 => by omega⟩
              · refine sub_weak ?_ ?_
                · exact weakH_none _
                · refine weakE_upd ?e6 ?r6 (weakE_upd ?e5 ?r5 (weakE_upd ?e4 ?r4 (weakE_upd ?e0 ?r0 (weakE_junk _ _))))
                  case e0 => first | rfl | exact fI (by omega) | (simp_all)
                  case r0 => intro h hh; cases hh
                  case e4 => first | rfl | exact fI (by omega) | (simp_all)
                  case r4 => intro h hh; cases hh
                  case e5 => first | rfl | exact fI (by omega) | (first | exact fI numV_0.symm | exact fI numV_0 | exact fI (by rw [numV_s hI hu hdg]; omega))
                  case r5 => intro h hh; cases hh
                  case e6 => first | rfl | exact fI (by omega) | (simp_all)
                  case r6 => intro h hh; cases hh
              · rintro i ⟨hI, hI2, hJ⟩
                refine good_seq fun K112 hK112 => ?_
                refine good_seq fun K113 hK113 => ?_
                refine good_region rfl ?_
                refine ev_q rfl (q_move (by conv => lhs; whnf) ?_)
                refine ev_q rfl (q_move (by conv => lhs; whnf) ?_)
                refine ev_q rfl (q_lenS tStr9 rfl ?_)
                intro n114 hn114
                refine ev_q rfl (q_int rfl rfl ?_)
                intro b115 hb115; cases b115
                · replace hb115 := dF hb115
                  obtain rfl : i = s.size := by omega
                  have hnl := numV_lt hJ (Nat.le_refl _) h18
                  have hy := num_y rfl h0a h18 hle hua hz hJ
                  refine ev_nil (hK113 _ ?_); clear hK113
                  refine good_condF rfl ?_
                  refine good_exit ?_
                  repeat (first | refine thenQ_exit ?_ | refine blockQ_pass rfl ?_)
                  refine blockQ_exit (hK110 _ ?_); clear hK110
                  refine good_seq fun K116 hK116 => ?_
                  refine good_seq fun K117 hK117 => ?_
                  refine good_region rfl ?_
                  refine ev_q rfl (q_move (by conv => lhs; whnf) ?_)
                  refine ev_q rfl (q_int rfl rfl ?_)
                  intro b118 hb118; cases b118
                  · replace hb118 := eqF hb118
                    rw [if_neg (by omega)] at hy
                    refine ev_nil (hK117 _ ?_); clear hK117
                    refine good_condF rfl ?_
                    refine good_skip (hK116 _ ?_); clear hK116
                    refine good_seq fun K119 hK119 => ?_
                    refine good_region rfl ?_
                    refine ev_q rfl (q_move (by conv => lhs; whnf) ?_)
                    refine ev_q rfl (q_assign (by conv => lhs; whnf) ?_)
                    refine ev_q rfl (q_assign (by conv => lhs; whnf) ?_)
                    refine ev_nil (hK119 _ ?_); clear hK119
                    refine good_ret ?_
                    repeat (first | refine thenQ_ret ?_ | refine blockQ_ret ?_)
                    refine ret_many rfl ?_
                    refine res_tmp (by conv => lhs; whnf) rfl ?_
                    refine res_tmp (by conv => lhs; whnf) rfl ?_
                    refine res_nil ?_
                    clear hK112
                    first | exact fTup1 (fI (rdN_no hc).symm) (fTup1 (fF hc) rfl) | exact fTup1 (fI (by rw [hy.2]; first | done | omega)) (fTup1 (fT hy.1) rfl)
                  · replace hb118 := eqT hb118
                    rw [if_pos (by omega)] at hy
                    refine ev_nil (hK117 _ ?_); clear hK117
                    refine good_condT rfl ?_
                    refine good_region rfl ?_
                    refine ev_q rfl (q_move (by conv => lhs; whnf) ?_)
                    refine ev_q rfl (q_neg rfl ?_)
                    intro n120 hn120
                    replace hn120 := neg64 hn120 (by omega) (by omega)
                    refine ev_q rfl (q_assign (by conv => lhs; whnf) ?_)
                    refine ev_nil (hK116 _ ?_); clear hK116
                    refine good_seq fun K121 hK121 => ?_
                    refine good_region rfl ?_
                    refine ev_q rfl (q_move (by conv => lhs; whnf) ?_)
                    refine ev_q rfl (q_assign (by conv => lhs; whnf) ?_)
                    refine ev_q rfl (q_assign (by conv => lhs; whnf) ?_)
                    refine ev_nil (hK121 _ ?_); clear hK121
                    refine good_ret ?_
                    repeat (first | refine thenQ_ret ?_ | refine blockQ_ret ?_)
                    refine ret_many rfl ?_
                    refine res_tmp (by conv => lhs; whnf) rfl ?_
                    refine res_tmp (by conv => lhs; whnf) rfl ?_
                    refine res_nil ?_
                    clear hK112
                    first | exact fTup1 (fI (rdN_no hc).symm) (fTup1 (fF hc) rfl) | exact fTup1 (fI (by rw [hy.2]; first | done | omega)) (fTup1 (fT hy.1) rfl)
                · replace hb115 := dT hb115
                  obtain ⟨u, hu⟩ := getB (s := s) (i := i) (by omega)
                  have hnl := numV_lt2 hJ (by omega) h18
                  refine ev_nil (hK113 _ ?_); clear hK113
                  refine good_condT rfl ?_
                  refine good_skip (hK112 _ ?_); clear hK112
                  refine good_seq fun K122 hK122 => ?_
                  refine good_block ?_
                  refine good_seq fun K123 hK123 => ?_
                  refine good_seq fun K124 hK124 => ?_
                  refine good_region rfl ?_
                  refine ev_q rfl (q_move (by conv => lhs; whnf) ?_)
                  refine ev_q rfl (q_move (by conv => lhs; whnf) ?_)
                  refine ev_q rfl (q_indexS tStr9 rfl rfl (by first | decide | exact Int.natCast_nonneg _ | omega) (by exact hu) ?_)
                  intro n125 hn125
                  subst hn125
                  refine ev_q rfl (q_callB rfl rfl (rfl) (D_spec_l01Digit ..) ?_)
                  intro b126 hb126; cases b126
                  · first | replace hb126 := dF hb126 | skip
                    have hc := num_n4 rfl hI hu hb126
                    refine ev_q rfl (q_not rfl rfl ?_)
                    refine ev_nil (hK124 _ ?_); clear hK124
                    refine good_condT rfl ?_
                    refine good_seq fun K127 hK127 => ?_
                    refine good_region rfl ?_
                    refine ev_q rfl (q_assign (by conv => lhs; whnf) ?_)
                    refine ev_q rfl (q_assign (by conv => lhs; whnf) ?_)
                    refine ev_nil (hK127 _ ?_); clear hK127
                    refine good_ret ?_
                    repeat (first | refine thenQ_ret ?_ | refine blockQ_ret ?_)
                    refine ret_many rfl ?_
                    refine res_tmp (by conv => lhs; whnf) rfl ?_
                    refine res_tmp (by conv => lhs; whnf) rfl ?_
                    refine res_nil ?_
                    clear hK110 hK122 hK123
                    first | exact fTup1 (fI (rdN_no hc).symm) (fTup1 (fF hc) rfl) | exact fTup1 (fI (by rw [hy.2]; first | done | omega)) (fTup1 (fT hy.1) rfl)
                  · first | replace hb126 := dT hb126 | skip
                    have hdg : dig u := hb126
                    refine ev_q rfl (q_not rfl rfl ?_)
                    refine ev_nil (hK124 _ ?_); clear hK124
                    refine good_condF rfl ?_
                    refine good_skip (hK123 _ ?_); clear hK123
                    refine good_region rfl ?_
                    refine ev_q rfl (q_move (by conv => lhs; whnf) ?_)
                    refine ev_q rfl (q_int rfl rfl ?_)
                    intro n128 hn128
                    replace hn128 := in64 hn128 (by omega) (by omega)
                    refine ev_q rfl (q_move (by conv => lhs; whnf) ?_)
                    refine ev_q rfl (q_move (by conv => lhs; whnf) ?_)
                    refine ev_q rfl (q_indexS tStr9 rfl rfl (by first | decide | exact Int.natCast_nonneg _ | omega) (by exact hu) ?_)
                    intro n129 hn129
                    subst hn129
                    refine ev_q rfl (q_int rfl rfl ?_)
                    intro n130 hn130
                    replace hn130 := u8w hn130 (by have := hdg.1; omega) (by have := u.toNat_lt; omega)
                    refine ev_q rfl (q_conv tK5 tK2 rfl ?_)
                    intro n131 hn131
                    replace hn131 := in64 hn131 (by omega) (by omega)
                    refine ev_q rfl (q_int rfl rfl ?_)
                    intro n132 hn132
                    replace hn132 := in64 hn132 (by omega) (by omega)
                    refine ev_q rfl (q_assign (by conv => lhs; whnf) ?_)
                    refine ev_nil (hK122 _ ?_); clear hK122
                    refine good_region rfl ?_
                    refine ev_q rfl (q_move (by conv => lhs; whnf) ?_)
                    refine ev_q rfl (q_int rfl rfl ?_)
                    intro n133 hn133
                    replace hn133 := in64 hn133 (by omega) (by omega)
                    refine ev_q rfl (q_assign (by conv => lhs; whnf) ?_)
                    refine ev_nil ?_
                    clear hK110
                    refine ⟨i + 1, ?_, ?_, ?_⟩
                    · exact ⟨by omega, by omega, dig_ext hJ hu hdg⟩
                    · first | omega | (simp only []; omega) | (dsimp only; omega)
                    · refine sub_weak ?_ ?_
                      · exact weakH_none _
                      · refine weakE_upd ?e6 ?r6 (weakE_upd ?e5 ?r5 (weakE_upd ?e4 ?r4 (weakE_upd ?e0 ?r0 (weakE_junk _ _))))
                        case e0 => first | rfl | exact fI (by omega) | (simp_all)
                        case r0 => intro h hh; cases hh
                        case e4 => first | rfl | exact fI (by omega) | (simp_all)
                        case r4 => intro h hh; cases hh
                        case e5 => first | rfl | exact fI (by omega) | (first | exact fI numV_0.symm | exact fI numV_0 | exact fI (by rw [numV_s hI hu hdg]; omega))
                        case r5 => intro h hh; cases hh
                        case e6 => first | rfl | exact fI (by omega) | (simp_all)
                        case r6 => intro h hh; cases hh
            · replace hb108 := dT hb108
              have hc := num_n3 ha hua2 (by omega) (by omega)
              refine ev_q rfl (q_pickT rfl (by conv => lhs; whnf) ?_)
              refine ev_q rfl (q_pickF rfl (by conv => lhs; whnf) ?_)
              refine ev_nil (hK74 _ ?_); clear hK74
              refine good_condT rfl ?_
              refine good_seq fun K134 hK134 => ?_
              refine good_region rfl ?_
              refine ev_q rfl (q_assign (by conv => lhs; whnf) ?_)
              refine ev_q rfl (q_assign (by conv => lhs; whnf) ?_)
              refine ev_nil (hK134 _ ?_); clear hK134
              refine good_ret ?_
              repeat (first | refine thenQ_ret ?_ | refine blockQ_ret ?_)
              refine ret_many rfl ?_
              refine res_tmp (by conv => lhs; whnf) rfl ?_
              refine res_tmp (by conv => lhs; whnf) rfl ?_
              refine res_nil ?_
              clear hK73
              first | exact fTup1 (fI (rdN_no hc).symm) (fTup1 (fF hc) rfl) | exact fTup1 (fI (by rw [hy.2]; first | done | omega)) (fTup1 (fT hy.1) rfl)
        · replace hb79 := dT hb79
          have hc := num_n2 ha (by omega)
          refine ev_q rfl (q_pickF rfl (by conv => lhs; whnf) ?_)
          refine ev_q rfl (q_move (by conv => lhs; whnf) ?_)
          refine ev_skip rfl ?_
          refine ev_skip rfl ?_
          refine ev_skip rfl ?_
          refine ev_skip rfl ?_
          refine ev_skip rfl ?_
          refine ev_skip rfl ?_
          refine ev_skip rfl ?_
          refine ev_skip rfl ?_
          refine ev_skip rfl ?_
          refine ev_q rfl (q_pickT rfl (by conv => lhs; whnf) ?_)
          refine ev_nil (hK74 _ ?_); clear hK74
          refine good_condT rfl ?_
          refine good_seq fun K135 hK135 => ?_
          refine good_region rfl ?_
          refine ev_q rfl (q_assign (by conv => lhs; whnf) ?_)
          refine ev_q rfl (q_assign (by conv => lhs; whnf) ?_)
          refine ev_nil (hK135 _ ?_); clear hK135
          refine good_ret ?_
          repeat (first | refine thenQ_ret ?_ | refine blockQ_ret ?_)
          refine ret_many rfl ?_
          refine res_tmp (by conv => lhs; whnf) rfl ?_
          refine res_tmp (by conv => lhs; whnf) rfl ?_
          refine res_nil ?_
          clear hK73
          first | exact fTup1 (fI (rdN_no hc).symm) (fTup1 (fF hc) rfl) | exact fTup1 (fI (by rw [hy.2]; first | done | omega)) (fTup1 (fT hy.1) rfl)
      · replace hb76 := eqT hb76
        have hc := num_n1 ha (by omega)
        refine ev_q rfl (q_move (by conv => lhs; whnf) ?_)
        refine ev_skip rfl ?_
        refine ev_skip rfl ?_
        refine ev_skip rfl ?_
        refine ev_skip rfl ?_
        refine ev_skip rfl ?_
        refine ev_q rfl (q_pickT rfl (by conv => lhs; whnf) ?_)
        refine ev_q rfl (q_move (by conv => lhs; whnf) ?_)
        refine ev_skip rfl ?_
        refine ev_skip rfl ?_
        refine ev_skip rfl ?_
        refine ev_skip rfl ?_
        refine ev_skip rfl ?_
        refine ev_skip rfl ?_
        refine ev_skip rfl ?_
        refine ev_skip rfl ?_
        refine ev_skip rfl ?_
        refine ev_q rfl (q_pickT rfl (by conv => lhs; whnf) ?_)
        refine ev_nil (hK74 _ ?_); clear hK74
        refine good_condT rfl ?_
        refine good_seq fun K136 hK136 => ?_
        refine good_region rfl ?_
        refine ev_q rfl (q_assign (by conv => lhs; whnf) ?_)
        refine ev_q rfl (q_assign (by conv => lhs; whnf) ?_)
        refine ev_nil (hK136 _ ?_); clear hK136
        refine good_ret ?_
        repeat (first | refine thenQ_ret ?_ | refine blockQ_ret ?_)
        refine ret_many rfl ?_
        refine res_tmp (by conv => lhs; whnf) rfl ?_
        refine res_tmp (by conv => lhs; whnf) rfl ?_
        refine res_nil ?_
        clear hK73
        first | exact fTup1 (fI (rdN_no hc).symm) (fTup1 (fF hc) rfl) | exact fTup1 (fI (by rw [hy.2]; first | done | omega)) (fTup1 (fT hy.1) rfl)
    · replace hb72 := eqT hb72
      have ha : sg s = 1 := sg_1 (by rw [← ba_get, hu0]; exact congrArg some (u8eq (b := 45) (by show _ = (45 : Int); omega)))
      refine ev_q rfl (q_pickT rfl (by conv => lhs; whnf) ?_)
      refine ev_nil (hK4 _ ?_); clear hK4
      refine good_condT rfl ?_
      refine good_region rfl ?_
      refine ev_q rfl (q_assign (by conv => lhs; whnf) ?_)
      refine ev_nil (hK3 _ ?_); clear hK3
      refine good_seq fun K137 hK137 => ?_
      refine good_seq fun K138 hK138 => ?_
      refine good_region rfl ?_
      refine ev_q rfl (q_move (by conv => lhs; whnf) ?_)
      refine ev_q rfl (q_lenS tStr9 rfl ?_)
      intro n139 hn139
      refine ev_q rfl (q_move (by conv => lhs; whnf) ?_)
      refine ev_q rfl (q_int rfl rfl ?_)
      intro b140 hb140; cases b140
      · replace hb140 := eqF hb140
        have h0a : ¬ s.size = sg s := by omega
        have hle : sg s ≤ s.size := by omega
        refine ev_q rfl (q_move (by conv => lhs; whnf) ?_)
        refine ev_q rfl (q_move (by conv => lhs; whnf) ?_)
        refine ev_q rfl (q_lenS tStr9 rfl ?_)
        intro n141 hn141
        refine ev_q rfl (q_move (by conv => lhs; whnf) ?_)
        refine ev_q rfl (q_int rfl rfl ?_)
        intro n142 hn142
        replace hn142 := in64 hn142 (by omega) (by omega)
        refine ev_q rfl (q_int rfl rfl ?_)
        intro b143 hb143; cases b143
        · replace hb143 := dF hb143
          have h18 : (s.size : Int) - sg s ≤ 18 := by omega
          refine ev_q rfl (q_pickF rfl (by conv => lhs; whnf) ?_)
          refine ev_q rfl (q_move (by conv => lhs; whnf) ?_)
          refine ev_q rfl (q_move (by conv => lhs; whnf) ?_)
          refine ev_q rfl (q_move (by conv => lhs; whnf) ?_)
          obtain ⟨ua, hua⟩ := getB (s := s) (i := sg s) (by omega)
          have hua2 := hua
          rw [ha] at hua2
          refine ev_q rfl (q_indexS tStr9 rfl rfl (by first | decide | exact Int.natCast_nonneg _ | omega) (by exact hua2) ?_)
          intro n144 hn144
          subst hn144
          refine ev_q rfl (q_int rfl rfl ?_)
          intro b145 hb145; cases b145
          · replace hb145 := eqF hb145
            have hz : ¬ ((ua.toNat : Int) = 48 ∧ (s.size : Int) > 1) := by omega
            refine ev_q rfl (q_move (by conv => lhs; whnf) ?_)
            refine ev_skip rfl ?_
            refine ev_skip rfl ?_
            refine ev_skip rfl ?_
            refine ev_q rfl (q_pickF rfl (by conv => lhs; whnf) ?_)
            refine ev_q rfl (q_pickF rfl (by conv => lhs; whnf) ?_)
            refine ev_nil (hK138 _ ?_); clear hK138
            refine good_condF rfl ?_
            refine good_skip (hK137 _ ?_); clear hK137
            refine good_seq fun K146 hK146 => ?_
            refine good_region rfl ?_
            refine ev_q rfl (q_assign (by conv => lhs; whnf) ?_)
            refine ev_nil (hK146 _ ?_); clear hK146
            refine good_seq fun K147 hK147 => ?_
            refine good_seq fun K148 hK148 => ?_
            refine good_region rfl ?_
            refine ev_q rfl (q_move (by conv => lhs; whnf) ?_)
            refine ev_q rfl (q_assign (by conv => lhs; whnf) ?_)
            refine ev_nil (hK148 _ ?_); clear hK148
            refine good_block ?_
            refine good_loop (α := Nat) (fun i => { env := upd (upd (upd (upd ((fun _ => .junk)) 0 (.s (.string s))) 4 (.s (.int .i64 ((sg s : Int))))) 5 (.s (.int .i64 (numV s (sg s) i)))) 6 (.s (.int .i64 ((i : Int)))), H := fun _ => none }) (fun i => sg s ≤ i ∧ i ≤ s.size ∧ ∀ j u, sg s ≤ j → j < i → s[j]? = some u → dig u) (fun i => s.size - i) (sg s) ?_ ?_ ?_
            · exact ⟨Nat.le_refl _, hle, fun j u h1 h2 => by omega⟩
            · refine sub_weak ?_ ?_
              · exact weakH_none _
              · refine weakE_upd ?e6 ?r6 (weakE_upd ?e5 ?r5 (weakE_upd ?e4 ?r4 (weakE_upd ?e0 ?r0 (weakE_junk _ _))))
                case e0 => first | rfl | exact fI (by omega) | (simp_all)
                case r0 => intro h hh; cases hh
                case e4 => first | rfl | exact fI (by omega) | (simp_all)
                case r4 => intro h hh; cases hh
                case e5 => first | rfl | exact fI (by omega) | (first | exact fI numV_0.symm | exact fI numV_0 | exact fI (by rw [numV_s hI hu hdg]; omega))
                case r5 => intro h hh; cases hh
                case e6 => first | rfl | exact fI (by omega) | (simp_all)
                case r6 => intro h hh; cases hh
            · rintro i ⟨hI, hI2, hJ⟩
              refine good_seq fun K149 hK149 => ?_
              refine good_seq fun K150 hK150 => ?_
              refine good_region rfl ?_
              refine ev_q rfl (q_move (by conv => lhs; whnf) ?_)
              refine ev_q rfl (q_move (by conv => lhs; whnf) ?_)
              refine ev_q rfl (q_lenS tStr9 rfl ?_)
              intro n151 hn151
              refine ev_q rfl (q_int rfl rfl ?_)
              intro b152 hb152; cases b152
              · replace hb152 := dF hb152
                obtain rfl : i = s.size := by omega
                have hnl := numV_lt hJ (Nat.le_refl _) h18
                have hy := num_y rfl h0a h18 hle hua hz hJ
                refine ev_nil (hK150 _ ?_); clear hK150
                refine good_condF rfl ?_
                refine good_exit ?_
                repeat (first | refine thenQ_exit ?_ | refine blockQ_pass rfl ?_)
                refine blockQ_exit (hK147 _ ?_); clear hK147
                refine good_seq fun K153 hK153 => ?_
                refine good_seq fun K154 hK154 => ?_
                refine good_region rfl ?_
                refine ev_q rfl (q_move (by conv => lhs; whnf) ?_)
                refine ev_q rfl (q_int rfl rfl ?_)
                intro b155 hb155; cases b155
                · replace hb155 := eqF hb155
                  rw [if_neg (by omega)] at hy
                  refine ev_nil (hK154 _ ?_); clear hK154
                  refine good_condF rfl ?_
                  refine good_skip (hK153 _ ?_); clear hK153
                  refine good_seq fun K156 hK156 => ?_
                  refine good_region rfl ?_
                  refine ev_q rfl (q_move (by conv => lhs; whnf) ?_)
                  refine ev_q rfl (q_assign (by conv => lhs; whnf) ?_)
                  refine ev_q rfl (q_assign (by conv => lhs; whnf) ?_)
                  refine ev_nil (hK156 _ ?_); clear hK156
                  refine good_ret ?_
                  repeat (first | refine thenQ_ret ?_ | refine blockQ_ret ?_)
                  refine ret_many rfl ?_
                  refine res_tmp (by conv => lhs; whnf) rfl ?_
                  refine res_tmp (by conv => lhs; whnf) rfl ?_
                  refine res_nil ?_
                  clear hK149
                  first | exact fTup1 (fI (rdN_no hc).symm) (fTup1 (fF hc) rfl) | exact fTup1 (fI (by rw [hy.2]; first | done | omega)) (fTup1 (fT hy.1) rfl)
                · replace hb155 := eqT hb155
                  rw [if_pos (by omega)] at hy
                  refine ev_nil (hK154 _ ?_); clear hK154
                  refine good_condT rfl ?_
                  refine good_region rfl ?_
                  refine ev_q rfl (q_move (by conv => lhs; whnf) ?_)
                  refine ev_q rfl (q_neg rfl ?_)
                  intro n157 hn157
                  replace hn157 := neg64 hn157 (by omega) (by omega)
                  refine ev_q rfl (q_assign (by conv => lhs; whnf) ?_)
                  refine ev_nil (hK153 _ ?_); clear hK153
                  refine good_seq fun K158 hK158 => ?_
                  refine good_region rfl ?_
                  refine ev_q rfl (q_move (by conv => lhs; whnf) ?_)
                  refine ev_q rfl (q_assign (by conv => lhs; whnf) ?_)
                  refine ev_q rfl (q_assign (by conv => lhs; whnf) ?_)
                  refine ev_nil (hK158 _ ?_); clear hK158
                  refine good_ret ?_
                  repeat (first | refine thenQ_ret ?_ | refine blockQ_ret ?_)
                  refine ret_many rfl ?_
                  refine res_tmp (by conv => lhs; whnf) rfl ?_
                  refine res_tmp (by conv => lhs; whnf) rfl ?_
                  refine res_nil ?_
                  clear hK149
                  first | exact fTup1 (fI (rdN_no hc).symm) (fTup1 (fF hc) rfl) | exact fTup1 (fI (by rw [hy.2]; first | done | omega)) (fTup1 (fT hy.1) rfl)
              · replace hb152 := dT hb152
                obtain ⟨u, hu⟩ := getB (s := s) (i := i) (by omega)
                have hnl := numV_lt2 hJ (by omega) h18
                refine ev_nil (hK150 _ ?_); clear hK150
                refine good_condT rfl ?_
                refine good_skip (hK149 _ ?_); clear hK149
                refine good_seq fun K159 hK159 => ?_
                refine good_block ?_
                refine good_seq fun K160 hK160 => ?_
                refine good_seq fun K161 hK161 => ?_
                refine good_region rfl ?_
                refine ev_q rfl (q_move (by conv => lhs; whnf) ?_)
                refine ev_q rfl (q_move (by conv => lhs; whnf) ?_)
                refine ev_q rfl (q_indexS tStr9 rfl rfl (by first | decide | exact Int.natCast_nonneg _ | omega) (by exact hu) ?_)
                intro n162 hn162
                subst hn162
                refine ev_q rfl (q_callB rfl rfl (rfl) (D_spec_l01Digit ..) ?_)
                intro b163 hb163; cases b163
                · first | replace hb163 := dF hb163 | skip
                  have hc := num_n4 rfl hI hu hb163
                  refine ev_q rfl (q_not rfl rfl ?_)
                  refine ev_nil (hK161 _ ?_); clear hK161
                  refine good_condT rfl ?_
                  refine good_seq fun K164 hK164 => ?_
                  refine good_region rfl ?_
                  refine ev_q rfl (q_assign (by conv => lhs; whnf) ?_)
                  refine ev_q rfl (q_assign (by conv => lhs; whnf) ?_)
                  refine ev_nil (hK164 _ ?_); clear hK164
                  refine good_ret ?_
                  repeat (first | refine thenQ_ret ?_ | refine blockQ_ret ?_)
                  refine ret_many rfl ?_
                  refine res_tmp (by conv => lhs; whnf) rfl ?_
                  refine res_tmp (by conv => lhs; whnf) rfl ?_
                  refine res_nil ?_
                  clear hK147 hK159 hK160
                  first | exact fTup1 (fI (rdN_no hc).symm) (fTup1 (fF hc) rfl) | exact fTup1 (fI (by rw [hy.2]; first | done | omega)) (fTup1 (fT hy.1) rfl)
                · first | replace hb163 := dT hb163 | skip
                  have hdg : dig u := hb163
                  refine ev_q rfl (q_not rfl rfl ?_)
                  refine ev_nil (hK161 _ ?_); clear hK161
                  refine good_condF rfl ?_
                  refine good_skip (hK160 _ ?_); clear hK160
                  refine good_region rfl ?_
                  refine ev_q rfl (q_move (by conv => lhs; whnf) ?_)
                  refine ev_q rfl (q_int rfl rfl ?_)
                  intro n165 hn165
                  replace hn165 := in64 hn165 (by omega) (by omega)
                  refine ev_q rfl (q_move (by conv => lhs; whnf) ?_)
                  refine ev_q rfl (q_move (by conv => lhs; whnf) ?_)
                  refine ev_q rfl (q_indexS tStr9 rfl rfl (by first | decide | exact Int.natCast_nonneg _ | omega) (by exact hu) ?_)
                  intro n166 hn166
                  subst hn166
                  refine ev_q rfl (q_int rfl rfl ?_)
                  intro n167 hn167
                  replace hn167 := u8w hn167 (by have := hdg.1; omega) (by have := u.toNat_lt; omega)
                  refine ev_q rfl (q_conv tK5 tK2 rfl ?_)
                  intro n168 hn168
                  replace hn168 := in64 hn168 (by omega) (by omega)
                  refine ev_q rfl (q_int rfl rfl ?_)
                  intro n169 hn169
                  replace hn169 := in64 hn169 (by omega) (by omega)
                  refine ev_q rfl (q_assign (by conv => lhs; whnf) ?_)
                  refine ev_nil (hK159 _ ?_); clear hK159
                  refine good_region rfl ?_
                  refine ev_q rfl (q_move (by conv => lhs; whnf) ?_)
                  refine ev_q rfl (q_int rfl rfl ?_)
                  intro n170 hn170
                  replace hn170 := in64 hn170 (by omega) (by omega)
                  refine ev_q rfl (q_assign (by conv => lhs; whnf) ?_)
                  refine ev_nil ?_
                  clear hK147
                  refine ⟨i + 1, ?_, ?_, ?_⟩
                  · exact ⟨by omega, by omega, dig_ext hJ hu hdg⟩
                  · first | omega | (simp only []; omega) | (dsimp only; omega)
                  · refine sub_weak ?_ ?_
                    · exact weakH_none _
                    · refine weakE_upd ?e6 ?r6 (weakE_upd ?e5 ?r5 (weakE_upd ?e4 ?r4 (weakE_upd ?e0 ?r0 (weakE_junk _ _))))
                      case e0 => first | rfl | exact fI (by omega) | (simp_all)
                      case r0 => intro h hh; cases hh
                      case e4 => first | rfl | exact fI (by omega) | (simp_all)
                      case r4 => intro h hh; cases hh
                      case e5 => first | rfl | exact fI (by omega) | (first | exact fI numV_0.symm | exact fI numV_0 | exact fI (by rw [numV_s hI hu hdg]; omega))
                      case r5 => intro h hh; cases hh
                      case e6 => first | rfl | exact fI (by omega) | (simp_all)
                      case r6 => intro h hh; cases hh
          · replace hb145 := eqT hb145
            refine ev_q rfl (q_move (by conv => lhs; whnf) ?_)
            refine ev_q rfl (q_move (by conv => lhs; whnf) ?_)
            refine ev_q rfl (q_lenS tStr9 rfl ?_)
            intro n171 hn171
            refine ev_q rfl (q_int rfl rfl ?_)
            intro b172 hb172; cases b172
            · replace hb172 := dF hb172
              have hz : ¬ ((ua.toNat : Int) = 48 ∧ (s.size : Int) > 1) := by omega
              refine ev_q rfl (q_pickT rfl (by conv => lhs; whnf) ?_)
              refine ev_q rfl (q_pickF rfl (by conv => lhs; whnf) ?_)
              refine ev_nil (hK138 _ ?_); clear hK138
              refine good_condF rfl ?_
              refine good_skip (hK137 _ ?_); clear hK137
              refine good_seq fun K173 hK173 => ?_
              refine good_region rfl ?_
              refine ev_q rfl (q_assign (by conv => lhs; whnf) ?_)
              refine ev_nil (hK173 _ ?_); clear hK173
              refine good_seq fun K174 hK174 => ?_
              refine good_seq fun K175 hK175 => ?_
              refine good_region rfl ?_
              refine ev_q rfl (q_move (by conv => lhs; whnf) ?_)
              refine ev_q rfl (q_assign (by conv => lhs; whnf) ?_)
              refine ev_nil (hK175 _ ?_); clear hK175
              refine good_block ?_
              refine good_loop (α := Nat) (fun i => { env := upd (upd (upd (upd ((fun _ => .junk)) 0 (.s (.string s))) 4 (.s (.int .i64 ((sg s : Int))))) 5 (.s (.int .i64 (numV s (sg s) i)))) 6 (.s (.int .i64 ((i : Int)))), H := fun _ => none }) (fun i => sg s ≤ i ∧ i ≤ s.size ∧ ∀ j u, sg s ≤ j → j < i → s[j]? = some u → dig u) (fun i => s.size - i) (sg s) ?_ ?_ ?_
              · exact ⟨Nat.le_refl _, hle, fun j u h1 h2 => by omega⟩
              · refine sub_weak ?_ ?_
                · exact weakH_none _
                · refine weakE_upd ?e6 ?r6 (weakE_upd ?e5 ?r5 (weakE_upd ?e4 ?r4 (weakE_upd ?e0 ?r0 (weakE_junk _ _))))
                  case e0 => first | rfl | exact fI (by omega) | (simp_all)
                  case r0 => intro h hh; cases hh
                  case e4 => first | rfl | exact fI (by omega) | (simp_all)
                  case r4 => intro h hh; cases hh
                  case e5 => first | rfl | exact fI (by omega) | (first | exact fI numV_0.symm | exact fI numV_0 | exact fI (by rw [numV_s hI hu hdg]; omega))
                  case r5 => intro h hh; cases hh
                  case e6 => first | rfl | exact fI (by omega) | (simp_all)
                  case r6 => intro h hh; cases hh
              · rintro i ⟨hI, hI2, hJ⟩
                refine good_seq fun K176 hK176 => ?_
                refine good_seq fun K177 hK177 => ?_
                refine good_region rfl ?_
                refine ev_q rfl (q_move (by conv => lhs; whnf) ?_)
                refine ev_q rfl (q_move (by conv => lhs; whnf) ?_)
                refine ev_q rfl (q_lenS tStr9 rfl ?_)
                intro n178 hn178
                refine ev_q rfl (q_int rfl rfl ?_)
                intro b179 hb179; cases b179
                · replace hb179 := dF hb179
                  obtain rfl : i = s.size := by omega
                  have hnl := numV_lt hJ (Nat.le_refl _) h18
                  have hy := num_y rfl h0a h18 hle hua hz hJ
                  refine ev_nil (hK177 _ ?_); clear hK177
                  refine good_condF rfl ?_
                  refine good_exit ?_
                  repeat (first | refine thenQ_exit ?_ | refine blockQ_pass rfl ?_)
                  refine blockQ_exit (hK174 _ ?_); clear hK174
                  refine good_seq fun K180 hK180 => ?_
                  refine good_seq fun K181 hK181 => ?_
                  refine good_region rfl ?_
                  refine ev_q rfl (q_move (by conv => lhs; whnf) ?_)
                  refine ev_q rfl (q_int rfl rfl ?_)
                  intro b182 hb182; cases b182
                  · replace hb182 := eqF hb182
                    rw [if_neg (by omega)] at hy
                    refine ev_nil (hK181 _ ?_); clear hK181
                    refine good_condF rfl ?_
                    refine good_skip (hK180 _ ?_); clear hK180
                    refine good_seq fun K183 hK183 => ?_
                    refine good_region rfl ?_
                    refine ev_q rfl (q_move (by conv => lhs; whnf) ?_)
                    refine ev_q rfl (q_assign (by conv => lhs; whnf) ?_)
                    refine ev_q rfl (q_assign (by conv => lhs; whnf) ?_)
                    refine ev_nil (hK183 _ ?_); clear hK183
                    refine good_ret ?_
                    repeat (first | refine thenQ_ret ?_ | refine blockQ_ret ?_)
                    refine ret_many rfl ?_
                    refine res_tmp (by conv => lhs; whnf) rfl ?_
                    refine res_tmp (by conv => lhs; whnf) rfl ?_
                    refine res_nil ?_
                    clear hK176
                    first | exact fTup1 (fI (rdN_no hc).symm) (fTup1 (fF hc) rfl) | exact fTup1 (fI (by rw [hy.2]; first | done | omega)) (fTup1 (fT hy.1) rfl)
                  · replace hb182 := eqT hb182
                    rw [if_pos (by omega)] at hy
                    refine ev_nil (hK181 _ ?_); clear hK181
                    refine good_condT rfl ?_
                    refine good_region rfl ?_
                    refine ev_q rfl (q_move (by conv => lhs; whnf) ?_)
                    refine ev_q rfl (q_neg rfl ?_)
                    intro n184 hn184
                    replace hn184 := neg64 hn184 (by omega) (by omega)
                    refine ev_q rfl (q_assign (by conv => lhs; whnf) ?_)
                    refine ev_nil (hK180 _ ?_); clear hK180
                    refine good_seq fun K185 hK185 => ?_
                    refine good_region rfl ?_
                    refine ev_q rfl (q_move (by conv => lhs; whnf) ?_)
                    refine ev_q rfl (q_assign (by conv => lhs; whnf) ?_)
                    refine ev_q rfl (q_assign (by conv => lhs; whnf) ?_)
                    refine ev_nil (hK185 _ ?_); clear hK185
                    refine good_ret ?_
                    repeat (first | refine thenQ_ret ?_ | refine blockQ_ret ?_)
                    refine ret_many rfl ?_
                    refine res_tmp (by conv => lhs; whnf) rfl ?_
                    refine res_tmp (by conv => lhs; whnf) rfl ?_
                    refine res_nil ?_
                    clear hK176
                    first | exact fTup1 (fI (rdN_no hc).symm) (fTup1 (fF hc) rfl) | exact fTup1 (fI (by rw [hy.2]; first | done | omega)) (fTup1 (fT hy.1) rfl)
                · replace hb179 := dT hb179
                  obtain ⟨u, hu⟩ := getB (s := s) (i := i) (by omega)
                  have hnl := numV_lt2 hJ (by omega) h18
                  refine ev_nil (hK177 _ ?_); clear hK177
                  refine good_condT rfl ?_
                  refine good_skip (hK176 _ ?_); clear hK176
                  refine good_seq fun K186 hK186 => ?_
                  refine good_block ?_
                  refine good_seq fun K187 hK187 => ?_
                  refine good_seq fun K188 hK188 => ?_
                  refine good_region rfl ?_
                  refine ev_q rfl (q_move (by conv => lhs; whnf) ?_)
                  refine ev_q rfl (q_move (by conv => lhs; whnf) ?_)
                  refine ev_q rfl (q_indexS tStr9 rfl rfl (by first | decide | exact Int.natCast_nonneg _ | omega) (by exact hu) ?_)
                  intro n189 hn189
                  subst hn189
                  refine ev_q rfl (q_callB rfl rfl (rfl) (D_spec_l01Digit ..) ?_)
                  intro b190 hb190; cases b190
                  · first | replace hb190 := dF hb190 | skip
                    have hc := num_n4 rfl hI hu hb190
                    refine ev_q rfl (q_not rfl rfl ?_)
                    refine ev_nil (hK188 _ ?_); clear hK188
                    refine good_condT rfl ?_
                    refine good_seq fun K191 hK191 => ?_
                    refine good_region rfl ?_
                    refine ev_q rfl (q_assign (by conv => lhs; whnf) ?_)
                    refine ev_q rfl (q_assign (by conv => lhs; whnf) ?_)
                    refine ev_nil (hK191 _ ?_); clear hK191
                    refine good_ret ?_
                    repeat (first | refine thenQ_ret ?_ | refine blockQ_ret ?_)
                    refine ret_many rfl ?_
                    refine res_tmp (by conv => lhs; whnf) rfl ?_
                    refine res_tmp (by conv => lhs; whnf) rfl ?_
                    refine res_nil ?_
                    clear hK174 hK186 hK187
                    first | exact fTup1 (fI (rdN_no hc).symm) (fTup1 (fF hc) rfl) | exact fTup1 (fI (by rw [hy.2]; first | done | omega)) (fTup1 (fT hy.1) rfl)
                  · first | replace hb190 := dT hb190 | skip
                    have hdg : dig u := hb190
                    refine ev_q rfl (q_not rfl rfl ?_)
                    refine ev_nil (hK188 _ ?_); clear hK188
                    refine good_condF rfl ?_
                    refine good_skip (hK187 _ ?_); clear hK187
                    refine good_region rfl ?_
                    refine ev_q rfl (q_move (by conv => lhs; whnf) ?_)
                    refine ev_q rfl (q_int rfl rfl ?_)
                    intro n192 hn192
                    replace hn192 := in64 hn192 (by omega) (by omega)
                    refine ev_q rfl (q_move (by conv => lhs; whnf) ?_)
                    refine ev_q rfl (q_move (by conv => lhs; whnf) ?_)
                    refine ev_q rfl (q_indexS tStr9 rfl rfl (by first | decide | exact Int.natCast_nonneg _ | omega) (by exact hu) ?_)
                    intro n193 hn193
                    subst hn193
                    refine ev_q rfl (q_int rfl rfl ?_)
                    intro n194 hn194
                    replace hn194 := u8w hn194 (by have := hdg.1; omega) (by have := u.toNat_lt; omega)
                    refine ev_q rfl (q_conv tK5 tK2 rfl ?_)
                    intro n195 hn195
                    replace hn195 := in64 hn195 (by omega) (by omega)
                    refine ev_q rfl (q_int rfl rfl ?_)
                    intro n196 hn196
                    replace hn196 := in64 hn196 (by omega) (by omega)
                    refine ev_q rfl (q_assign (by conv => lhs; whnf) ?_)
                    refine ev_nil (hK186 _ ?_); clear hK186
                    refine good_region rfl ?_
                    refine ev_q rfl (q_move (by conv => lhs; whnf) ?_)
                    refine ev_q rfl (q_int rfl rfl ?_)
                    intro n197 hn197
                    replace hn197 := in64 hn197 (by omega) (by omega)
                    refine ev_q rfl (q_assign (by conv => lhs; whnf) ?_)
                    refine ev_nil ?_
                    clear hK174
                    refine ⟨i + 1, ?_, ?_, ?_⟩
                    · exact ⟨by omega, by omega, dig_ext hJ hu hdg⟩
                    · first | omega | (simp only []; omega) | (dsimp only; omega)
                    · refine sub_weak ?_ ?_
                      · exact weakH_none _
                      · refine weakE_upd ?e6 ?r6 (weakE_upd ?e5 ?r5 (weakE_upd ?e4 ?r4 (weakE_upd ?e0 ?r0 (weakE_junk _ _))))
                        case e0 => first | rfl | exact fI (by omega) | (simp_all)
                        case r0 => intro h hh; cases hh
                        case e4 => first | rfl | exact fI (by omega) | (simp_all)
                        case r4 => intro h hh; cases hh
                        case e5 => first | rfl | exact fI (by omega) | (first | exact fI numV_0.symm | exact fI numV_0 | exact fI (by rw [numV_s hI hu hdg]; omega))
                        case r5 => intro h hh; cases hh
                        case e6 => first | rfl | exact fI (by omega) | (simp_all)
                        case r6 => intro h hh; cases hh
            · replace hb172 := dT hb172
              have hc := num_n3 ha hua2 (by omega) (by omega)
              refine ev_q rfl (q_pickT rfl (by conv => lhs; whnf) ?_)
              refine ev_q rfl (q_pickF rfl (by conv => lhs; whnf) ?_)
              refine ev_nil (hK138 _ ?_); clear hK138
              refine good_condT rfl ?_
              refine good_seq fun K198 hK198 => ?_
              refine good_region rfl ?_
              refine ev_q rfl (q_assign (by conv => lhs; whnf) ?_)
              refine ev_q rfl (q_assign (by conv => lhs; whnf) ?_)
              refine ev_nil (hK198 _ ?_); clear hK198
              refine good_ret ?_
              repeat (first | refine thenQ_ret ?_ | refine blockQ_ret ?_)
              refine ret_many rfl ?_
              refine res_tmp (by conv => lhs; whnf) rfl ?_
              refine res_tmp (by conv => lhs; whnf) rfl ?_
              refine res_nil ?_
              clear hK137
              first | exact fTup1 (fI (rdN_no hc).symm) (fTup1 (fF hc) rfl) | exact fTup1 (fI (by rw [hy.2]; first | done | omega)) (fTup1 (fT hy.1) rfl)
        · replace hb143 := dT hb143
          have hc := num_n2 ha (by omega)
          refine ev_q rfl (q_pickF rfl (by conv => lhs; whnf) ?_)
          refine ev_q rfl (q_move (by conv => lhs; whnf) ?_)
          refine ev_skip rfl ?_
          refine ev_skip rfl ?_
          refine ev_skip rfl ?_
          refine ev_skip rfl ?_
          refine ev_skip rfl ?_
          refine ev_skip rfl ?_
          refine ev_skip rfl ?_
          refine ev_skip rfl ?_
          refine ev_skip rfl ?_
          refine ev_q rfl (q_pickT rfl (by conv => lhs; whnf) ?_)
          refine ev_nil (hK138 _ ?_); clear hK138
          refine good_condT rfl ?_
          refine good_seq fun K199 hK199 => ?_
          refine good_region rfl ?_
          refine ev_q rfl (q_assign (by conv => lhs; whnf) ?_)
          refine ev_q rfl (q_assign (by conv => lhs; whnf) ?_)
          refine ev_nil (hK199 _ ?_); clear hK199
          refine good_ret ?_
          repeat (first | refine thenQ_ret ?_ | refine blockQ_ret ?_)
          refine ret_many rfl ?_
          refine res_tmp (by conv => lhs; whnf) rfl ?_
          refine res_tmp (by conv => lhs; whnf) rfl ?_
          refine res_nil ?_
          clear hK137
          first | exact fTup1 (fI (rdN_no hc).symm) (fTup1 (fF hc) rfl) | exact fTup1 (fI (by rw [hy.2]; first | done | omega)) (fTup1 (fT hy.1) rfl)
      · replace hb140 := eqT hb140
        have hc := num_n1 ha (by omega)
        refine ev_q rfl (q_move (by conv => lhs; whnf) ?_)
        refine ev_skip rfl ?_
        refine ev_skip rfl ?_
        refine ev_skip rfl ?_
        refine ev_skip rfl ?_
        refine ev_skip rfl ?_
        refine ev_q rfl (q_pickT rfl (by conv => lhs; whnf) ?_)
        refine ev_q rfl (q_move (by conv => lhs; whnf) ?_)
        refine ev_skip rfl ?_
        refine ev_skip rfl ?_
        refine ev_skip rfl ?_
        refine ev_skip rfl ?_
        refine ev_skip rfl ?_
        refine ev_skip rfl ?_
        refine ev_skip rfl ?_
        refine ev_skip rfl ?_
        refine ev_skip rfl ?_
        refine ev_q rfl (q_pickT rfl (by conv => lhs; whnf) ?_)
        refine ev_nil (hK138 _ ?_); clear hK138
        refine good_condT rfl ?_
        refine good_seq fun K200 hK200 => ?_
        refine good_region rfl ?_
        refine ev_q rfl (q_assign (by conv => lhs; whnf) ?_)
        refine ev_q rfl (q_assign (by conv => lhs; whnf) ?_)
        refine ev_nil (hK200 _ ?_); clear hK200
        refine good_ret ?_
        repeat (first | refine thenQ_ret ?_ | refine blockQ_ret ?_)
        refine ret_many rfl ?_
        refine res_tmp (by conv => lhs; whnf) rfl ?_
        refine res_tmp (by conv => lhs; whnf) rfl ?_
        refine res_nil ?_
        clear hK137
        first | exact fTup1 (fI (rdN_no hc).symm) (fTup1 (fF hc) rfl) | exact fTup1 (fI (by rw [hy.2]; first | done | omega)) (fTup1 (fT hy.1) rfl)

-- spec.l01Split
set_option maxRecDepth 20000 in
set_option maxHeartbeats 2000000 in
theorem D_spec_l01Split (c : UInt8) (s : ByteArray) (hs : s.size ≤ 1048576) : Den Tryd.prog 71 [.s (.string s), .s (.int .u8 c.toNat)] (.lst 1 ((pieces c s).map stA)) := by
  refine den_of_good Tryd.func71 (by decide) rfl (Nat.le_of_ble_eq_true rfl) (Nat.le_of_ble_eq_true rfl) ?_
  refine good_seq fun K1 hK1 => ?_
  refine good_region rfl ?_
  refine ev_q rfl (q_assign (by conv => lhs; whnf) ?_)
  refine ev_nil (hK1 _ ?_); clear hK1
  refine good_seq fun K2 hK2 => ?_
  refine good_region rfl ?_
  refine ev_k rfl (k_lit tE86 zA9 rfl rfl (by decide) (by decide) rfl rfl rfl ?_)
  refine ev_q rfl (q_assign (by conv => lhs; whnf) ?_)
  refine ev_nil (hK2 _ ?_); clear hK2
  refine good_seq fun K3 hK3 => ?_
  refine good_region rfl ?_
  refine ev_q rfl (q_assign (by conv => lhs; whnf) ?_)
  refine ev_nil (hK3 _ ?_); clear hK3
  refine good_seq fun K4 hK4 => ?_
  refine good_seq fun K5 hK5 => ?_
  refine good_region rfl ?_
  refine ev_q rfl (q_assign (by conv => lhs; whnf) ?_)
  refine ev_nil (hK5 _ ?_); clear hK5
  refine good_block ?_
  refine good_loop (α := List (List UInt8) × Nat × Nat) (fun (o, f, i) => { env := upd (upd (upd (upd (upd ((fun _ => .junk)) 0 (.s (.string s))) 1 (.s (.int .u8 c.toNat))) 5 (.own 26 o.length)) 6 (.s (.int .i64 ((f : Int))))) 7 (.s (.int .i64 ((i : Int)))), H := upd ((fun _ => none)) 26 (some (.row 9 1 (o.map pAV))) }) (fun (o, f, i) => ((f ≤ i ∧ i ≤ s.size) ∧ o.length ≤ i) ∧ pcs c s.data.toList = o ++ pcs c (s.data.toList.drop f) ∧ ∀ j b, f ≤ j → j < i → s[j]? = some b → b ≠ c) (fun (o, f, i) => s.size - i) ([], 0, 0) ?_ ?_ ?_
  · exact ⟨⟨⟨Nat.le_refl _, Nat.zero_le _⟩, Nat.le_refl _⟩, rfl, fun j b h1 h2 => absurd h2 (Nat.not_lt_zero _)⟩
  · refine Sub.trans (sub_move 5 8 26 rfl rfl rfl (by decide)) ?_
    refine sub_weak ?_ ?_
    · exact weakH_row (rowEq (rfl)) (weakH_none _)
    · refine weakE_upd ?e7 ?r7 (weakE_upd ?e6 ?r6 (weakE_upd ?e5 ?r5 (weakE_upd ?e1 ?r1 (weakE_upd ?e0 ?r0 (weakE_junk _ _)))))
      case e0 => first | rfl | exact fI (by omega) | (simp_all)
      case r0 => intro h hh; cases hh
      case e1 => first | rfl | exact fI (by omega) | (simp_all)
      case r1 => intro h hh; cases hh
      case e5 => first | rfl | exact fI (by omega) | (first | rfl | exact ownEq (by simp))
      case r5 => intro h hh; simp [refs] at hh; subst hh; rfl
      case e6 => first | rfl | exact fI (by omega) | (simp_all)
      case r6 => intro h hh; cases hh
      case e7 => first | rfl | exact fI (by omega) | (simp_all)
      case r7 => intro h hh; cases hh
  · rintro ⟨o, f, i⟩ ⟨⟨hI, hol⟩, hP, hJ⟩
    refine good_seq fun K6 hK6 => ?_
    refine good_seq fun K7 hK7 => ?_
    refine good_region rfl ?_
    refine ev_q rfl (q_move (by conv => lhs; whnf) ?_)
    refine ev_q rfl (q_move (by conv => lhs; whnf) ?_)
    refine ev_q rfl (q_lenS tStr9 rfl ?_)
    intro n8 hn8
    refine ev_q rfl (q_int rfl rfl ?_)
    intro b9 hb9; cases b9
    · replace hb9 := dF hb9
      obtain rfl : i = s.size := by omega
      refine ev_nil (hK7 _ ?_); clear hK7
      refine good_condF rfl ?_
      refine good_exit ?_
      repeat (first | refine thenQ_exit ?_ | refine blockQ_pass rfl ?_)
      refine blockQ_exit (hK4 _ ?_); clear hK4
      refine good_seq fun K10 hK10 => ?_
      refine good_region rfl ?_
      refine ev_q rfl (q_move (by conv => lhs; whnf) ?_)
      refine ev_q rfl (q_move (by conv => lhs; whnf) ?_)
      refine ev_q rfl (q_move (by conv => lhs; whnf) ?_)
      refine ev_q rfl (q_sliceS tStr9 rfl rfl rfl (by omega) (by omega) (by omega) ?_)
      intro l11 hl11
      have hx2 : l11 = s.extract f s.size := hl11
      refine ev_k rfl (k_lit tE86 zA9 rfl rfl (by decide) (by decide) rfl rfl rfl ?_)
      refine ev_k rfl (k_app tApp86 rfl rfl (by simp) rfl (.inl rfl) (by first | (simp [maxLen]; done) | (simp [maxLen]; omega)) (by first | (simp; done) | (simp; omega)) ?_)
      refine ev_q rfl (q_assign (by conv => lhs; whnf) ?_)
      refine ev_nil (hK10 _ ?_); clear hK10
      refine good_ret ?_
      repeat (first | refine thenQ_ret ?_ | refine blockQ_ret ?_)
      refine ret_tmp (st := _) rfl (by conv => lhs; whnf) rfl ?_
      clear hK6
      exact lstEq (by rw [List.take_of_length_le (by simp)]; exact sp_end hP hx2 hJ)
    · replace hb9 := dT hb9
      obtain ⟨u, hu⟩ := getB (s := s) (i := i) (by omega)
      refine ev_nil (hK7 _ ?_); clear hK7
      refine good_condT rfl ?_
      refine good_skip (hK6 _ ?_); clear hK6
      refine good_seq fun K12 hK12 => ?_
      refine good_block ?_
      refine good_seq fun K13 hK13 => ?_
      refine good_region rfl ?_
      refine ev_q rfl (q_move (by conv => lhs; whnf) ?_)
      refine ev_q rfl (q_move (by conv => lhs; whnf) ?_)
      refine ev_q rfl (q_indexS tStr9 rfl rfl (by exact Int.natCast_nonneg _) (by exact hu) ?_)
      intro n14 hn14
      refine ev_q rfl (q_move (by conv => lhs; whnf) ?_)
      refine ev_q rfl (q_int rfl rfl ?_)
      intro b15 hb15; cases b15
      · replace hb15 := eqF hb15
        have hne : u ≠ c := fun e => by subst e; omega
        refine ev_nil (hK13 _ ?_); clear hK13
        refine good_condF rfl ?_
        refine good_skip (hK12 _ ?_); clear hK12
        refine good_region rfl ?_
        refine ev_q rfl (q_move (by conv => lhs; whnf) ?_)
        refine ev_q rfl (q_int rfl rfl ?_)
        intro n16 hn16
        replace hn16 := in64 hn16 (by omega) (by omega)
        refine ev_q rfl (q_assign (by conv => lhs; whnf) ?_)
        refine ev_nil ?_
        clear hK4
        refine ⟨(o, f, i + 1), ?_, ?_, ?_⟩
        · exact ⟨⟨⟨by show f ≤ i + 1; omega, by show i + 1 ≤ s.size; omega⟩, by show o.length ≤ i + 1; omega⟩, hP, ne_ext hJ hu hne⟩
        · show s.size - (i + 1) < s.size - i; omega
        · refine sub_weak ?_ ?_
          · exact weakH_row (rowEq (by first | rfl | exact appG rfl hx)) (weakH_none _)
          · refine weakE_upd ?e7 ?r7 (weakE_upd ?e6 ?r6 (weakE_upd ?e5 ?r5 (weakE_upd ?e1 ?r1 (weakE_upd ?e0 ?r0 (weakE_junk _ _)))))
            case e0 => first | rfl | exact fI (by omega) | (simp_all)
            case r0 => intro h hh; cases hh
            case e1 => first | rfl | exact fI (by omega) | (simp_all)
            case r1 => intro h hh; cases hh
            case e5 => first | rfl | exact fI (by omega) | (first | rfl | exact ownEq (by simp))
            case r5 => intro h hh; simp [refs] at hh; subst hh; rfl
            case e6 => first | rfl | exact fI (by omega) | (simp_all)
            case r6 => intro h hh; cases hh
            case e7 => first | rfl | exact fI (by omega) | (simp_all)
            case r7 => intro h hh; cases hh
      · replace hb15 := eqT hb15
        rw [u8eq (a := u) (b := c) (by omega)] at hu
        refine ev_nil (hK13 _ ?_); clear hK13
        refine good_condT rfl ?_
        refine good_seq fun K17 hK17 => ?_
        refine good_region rfl ?_
        refine ev_q rfl (q_move (by conv => lhs; whnf) ?_)
        refine ev_q rfl (q_move (by conv => lhs; whnf) ?_)
        refine ev_q rfl (q_move (by conv => lhs; whnf) ?_)
        refine ev_q rfl (q_move (by conv => lhs; whnf) ?_)
        refine ev_q rfl (q_sliceS tStr9 rfl rfl rfl (by omega) (by omega) (by omega) ?_)
        intro l18 hl18
        have hx := ext0 (s := s) (f := f) (i := i) hl18
        refine ev_k rfl (k_lit tE86 zA9 rfl rfl (by decide) (by decide) rfl rfl rfl ?_)
        refine ev_k rfl (k_app tApp86 rfl rfl (by simp) rfl (.inr rfl) (by first | (simp [maxLen]; done) | (simp [maxLen]; omega)) (by first | (simp; done) | (simp; omega)) ?_)
        refine ev_q rfl (q_assign (by conv => lhs; whnf) ?_)
        refine ev_nil (hK17 _ ?_); clear hK17
        refine good_region rfl ?_
        refine ev_q rfl (q_move (by conv => lhs; whnf) ?_)
        refine ev_q rfl (q_int rfl rfl ?_)
        intro n19 hn19
        replace hn19 := in64 hn19 (by omega) (by omega)
        refine ev_q rfl (q_assign (by conv => lhs; whnf) ?_)
        refine ev_nil (hK12 _ ?_); clear hK12
        refine good_region rfl ?_
        refine ev_q rfl (q_move (by conv => lhs; whnf) ?_)
        refine ev_q rfl (q_int rfl rfl ?_)
        intro n20 hn20
        replace hn20 := in64 hn20 (by omega) (by omega)
        refine ev_q rfl (q_assign (by conv => lhs; whnf) ?_)
        refine ev_nil ?_
        clear hK4
        refine ⟨(o ++ [(s.extract f i).data.toList], i + 1, i + 1), ?_, ?_, ?_⟩
        · exact ⟨⟨⟨Nat.le_refl _, by show i + 1 ≤ s.size; omega⟩, by simp; omega⟩, pc_hit hP hI.1 hu hJ, fun j b h1 h2 => by have h1 : i + 1 ≤ j := h1; have h2 : j < i + 1 := h2; omega⟩
        · show s.size - (i + 1) < s.size - i; omega
        · refine sub_weak ?_ ?_
          · exact weakH_row (rowEq (by first | rfl | exact appG rfl hx)) (weakH_none _)
          · refine weakE_upd ?e7 ?r7 (weakE_upd ?e6 ?r6 (weakE_upd ?e5 ?r5 (weakE_upd ?e1 ?r1 (weakE_upd ?e0 ?r0 (weakE_junk _ _)))))
            case e0 => first | rfl | exact fI (by omega) | (simp_all)
            case r0 => intro h hh; cases hh
            case e1 => first | rfl | exact fI (by omega) | (simp_all)
            case r1 => intro h hh; cases hh
            case e5 => first | rfl | exact fI (by omega) | (first | rfl | exact ownEq (by simp))
            case r5 => intro h hh; simp [refs] at hh; subst hh; rfl
            case e6 => first | rfl | exact fI (by omega) | (simp_all)
            case r6 => intro h hh; cases hh
            case e7 => first | rfl | exact fI (by omega) | (simp_all)
            case r7 => intro h hh; cases hh

-- spec.ReadList
set_option maxRecDepth 20000 in
set_option maxHeartbeats 2000000 in
theorem D_spec_ReadList_X (s : ByteArray) (hs : s.size ≤ 1048576) : DenX Tryd.prog 69 [] [.s (.string s)] [(900003, .row 2 1 ((rlL s).map ci))] (.tup [.own 900003 (rlL s).length, .s (.bool (decide (rlB s)))]) := by
  have hpl := pieces_len (c := 44) (s := s)
  refine denX_of_good Tryd.func69 (by decide) rfl (Nat.le_of_ble_eq_true rfl) (Nat.le_of_ble_eq_true rfl) rfl ?_
  refine good_seq fun K1 hK1 => ?_
  refine good_region rfl ?_
  refine ev_q rfl (q_assign (by conv => lhs; whnf) ?_)
  refine ev_q rfl (q_assign (by conv => lhs; whnf) ?_)
  refine ev_nil (hK1 _ ?_); clear hK1
  refine good_seq fun K2 hK2 => ?_
  refine good_seq fun K3 hK3 => ?_
  refine good_region rfl ?_
  refine ev_q rfl (q_move (by conv => lhs; whnf) ?_)
  refine ev_q rfl (q_str rfl rfl ?_)
  intro b4 hb4; cases b4
  · replace hb4 := seF hb4
    have hnd : ¬ s = tx [45] := hb4
    refine ev_nil (hK3 _ ?_); clear hK3
    refine good_condF rfl ?_
    refine good_skip (hK2 _ ?_); clear hK2
    refine good_seq fun K5 hK5 => ?_
    refine good_region rfl ?_
    refine ev_q rfl (q_move (by conv => lhs; whnf) ?_)
    refine ev_q rfl (q_call rfl rfl (rfl) (D_spec_l01Split 44 s hs) rfl ?_)
    refine ev_q rfl (q_assign (by conv => lhs; whnf) ?_)
    refine ev_nil (hK5 _ ?_); clear hK5
    refine good_seq fun K6 hK6 => ?_
    refine good_seq fun K7 hK7 => ?_
    refine good_region rfl ?_
    refine ev_q rfl (q_move (by conv => lhs; whnf) ?_)
    refine ev_q rfl (q_len tEs86 rfl ?_)
    intro n8 hn8
    try simp only [List.length_map] at hn8
    refine ev_q rfl (q_int rfl rfl ?_)
    intro b9 hb9; cases b9
    · replace hb9 := dF hb9
      refine ev_nil (hK7 _ ?_); clear hK7
      refine good_condF rfl ?_
      refine good_skip (hK6 _ ?_); clear hK6
      refine good_seq fun K10 hK10 => ?_
      refine good_region rfl ?_
      refine ev_k rfl (k_lit tE69 zA2 rfl rfl (by decide) (by decide) rfl rfl rfl ?_)
      refine ev_q rfl (q_assign (by conv => lhs; whnf) ?_)
      refine ev_nil (hK10 _ ?_); clear hK10
      refine good_seq fun K11 hK11 => ?_
      refine good_seq fun K12 hK12 => ?_
      refine good_region rfl ?_
      refine ev_q rfl (q_assign (by conv => lhs; whnf) ?_)
      refine ev_nil (hK12 _ ?_); clear hK12
      refine good_block ?_
      refine good_loop (α := Nat) (fun i => { env := upd (upd (upd (upd ((fun _ => .junk)) 0 (.s (.string s))) 4 (.lst 1 ((pieces 44 s).map stA))) 5 (.own 42 ((pieces 44 s).take i).length)) 6 (.s (.int .i64 ((i : Int)))), H := upd ((fun _ => none)) 42 (some (.row 2 1 ((((pieces 44 s).take i).map rdN).map ci))) }) (fun i => i ≤ (pieces 44 s).length ∧ ∀ j q, j < i → (pieces 44 s)[j]? = some q → rdB q ∧ inM (rdN q)) (fun i => (pieces 44 s).length - i) 0 ?_ ?_ ?_
      · exact ⟨Nat.zero_le _, fun j u hj => by omega⟩
      · refine Sub.trans (sub_move 5 17 42 rfl rfl rfl (by decide)) ?_
        refine sub_weak ?_ ?_
        · exact weakH_row (rowEq (rfl)) (weakH_none _)
        · refine weakE_upd ?e6 ?r6 (weakE_upd ?e5 ?r5 (weakE_upd ?e4 ?r4 (weakE_upd ?e0 ?r0 (weakE_junk _ _))))
          case e0 => first | rfl | exact fI (by omega) | (simp_all)
          case r0 => intro h hh; cases hh
          case e4 => first | rfl | exact fI (by omega) | (simp_all)
          case r4 => intro h hh; cases hh
          case e5 => first | rfl | exact fI (by omega) | (first | rfl | (rw [hst]; exact ownEq (by simp)))
          case r5 => intro h hh; simp [refs] at hh; subst hh; rfl
          case e6 => first | rfl | exact fI (by omega) | (simp_all)
          case r6 => intro h hh; cases hh
      · rintro i ⟨hI, hJ⟩
        refine good_seq fun K13 hK13 => ?_
        refine good_seq fun K14 hK14 => ?_
        refine good_region rfl ?_
        refine ev_q rfl (q_move (by conv => lhs; whnf) ?_)
        refine ev_q rfl (q_move (by conv => lhs; whnf) ?_)
        refine ev_q rfl (q_len tEs86 rfl ?_)
        intro n15 hn15
        try simp only [List.length_map] at hn15
        refine ev_q rfl (q_int rfl rfl ?_)
        intro b16 hb16; cases b16
        · replace hb16 := dF hb16
          obtain rfl : i = (pieces 44 s).length := by omega
          have hall : rlP s := ⟨by omega, fun p hp => by obtain ⟨j, hj⟩ := List.getElem?_of_mem hp; exact hJ j p (List.getElem?_eq_some_iff.1 hj).1 hj⟩
          have hee := rl_y hnd hall
          refine ev_nil (hK14 _ ?_); clear hK14
          refine good_condF rfl ?_
          refine good_exit ?_
          repeat (first | refine thenQ_exit ?_ | refine blockQ_pass rfl ?_)
          refine blockQ_exit (hK11 _ ?_); clear hK11
          refine good_seq fun K17 hK17 => ?_
          refine good_region rfl ?_
          refine ev_q rfl (q_move (by conv => lhs; whnf) ?_)
          refine ev_q rfl (q_assign (by conv => lhs; whnf) ?_)
          refine ev_q rfl (q_assign (by conv => lhs; whnf) ?_)
          refine ev_nil (hK17 _ ?_); clear hK17
          refine good_weak (sub_move 2 42 900003 rfl rfl rfl (by decide)) ?_
          refine good_ret ?_
          repeat (first | refine thenQ_ret ?_ | refine blockQ_ret ?_)
          refine fx_many rfl ?_
          refine fxs_tmp (by conv => lhs; whnf) ?_
          refine fxs_tmp (by conv => lhs; whnf) ?_
          refine fx_nil ?_
          clear hK13
          obtain ⟨e2, e⟩ := hee
          try rw [List.take_length]
          exact ⟨_, .tup (.cons (conv_eq (by first | rfl | (rw [e]; done) | (rw [e]; rfl) | exact ownEq (by first | omega | simp_all))) (.cons (conv_eq (by first | rfl | exact fT (by first | exact e2 | assumption) | exact fF (by first | exact e2 | assumption) | exact fT' (by first | exact e2 | assumption) | (exfalso; first | omega | grind))) (.nil))), weakH_row (rowEq (by first | (rw [e]; done) | (rw [e]; rfl))) (weakH_none _), refsIn_ok rfl⟩
        · replace hb16 := dT hb16
          obtain ⟨q, hq⟩ := getL (xs := (pieces 44 s)) (n := (i : Int)) (by omega) (by omega)
          replace hq : (pieces 44 s)[i]? = some q := hq
          have hst := takeS hq
          refine ev_nil (hK14 _ ?_); clear hK14
          refine good_condT rfl ?_
          refine good_skip (hK13 _ ?_); clear hK13
          refine good_seq fun K18 hK18 => ?_
          refine good_block ?_
          refine good_seq fun K19 hK19 => ?_
          refine good_region rfl ?_
          refine ev_q rfl (q_move (by conv => lhs; whnf) ?_)
          refine ev_q rfl (q_move (by conv => lhs; whnf) ?_)
          refine ev_q rfl (q_idx tE86 rfl rfl (by exact Int.natCast_nonneg _) (by exact map_get hq) rfl ?_)
          refine ev_q rfl (q_load tA9 rfl ?_)
          refine ev_q rfl (q_call rfl rfl (rfl) (D_spec_l01Number q (by have := pc_sz (List.mem_of_getElem? hq); omega)) rfl ?_)
          refine ev_q rfl (q_move (by conv => lhs; whnf) ?_)
          refine ev_q rfl (q_extractI rfl rfl ?_)
          intro n20 hn20
          have h30 := hn20
          refine ev_q rfl (q_extractB rfl rfl ?_)
          intro b21 hb21; cases b21
          · first | replace hb21 := dF hb21 | skip
            have hee := rl_n hnd (fun h => hb21 (h.2 q (List.mem_of_getElem? hq)).1)
            refine ev_q rfl (q_assign (by conv => lhs; whnf) ?_)
            refine ev_q rfl (q_assign (by conv => lhs; whnf) ?_)
            refine ev_nil (hK19 _ ?_); clear hK19
            refine good_seq fun K22 hK22 => ?_
            refine good_seq fun K23 hK23 => ?_
            refine good_region rfl ?_
            refine ev_q rfl (q_move (by conv => lhs; whnf) ?_)
            refine ev_q rfl (q_not rfl rfl ?_)
            refine ev_q rfl (q_move (by conv => lhs; whnf) ?_)
            refine ev_skip rfl ?_
            refine ev_skip rfl ?_
            refine ev_skip rfl ?_
            refine ev_q rfl (q_pickT rfl (by conv => lhs; whnf) ?_)
            refine ev_nil (hK23 _ ?_); clear hK23
            refine good_condT rfl ?_
            refine good_seq fun K24 hK24 => ?_
            refine good_region rfl ?_
            refine ev_q rfl (q_assign (by conv => lhs; whnf) ?_)
            refine ev_q rfl (q_assign (by conv => lhs; whnf) ?_)
            refine ev_nil (hK24 _ ?_); clear hK24
            refine good_ret ?_
            repeat (first | refine thenQ_ret ?_ | refine blockQ_ret ?_)
            refine fx_many rfl ?_
            refine fxs_tmp (by conv => lhs; whnf) ?_
            refine fxs_tmp (by conv => lhs; whnf) ?_
            refine fx_nil ?_
            clear hK11 hK18 hK22
            obtain ⟨e2, e⟩ := hee
            try rw [List.take_length]
            exact ⟨_, .tup (.cons (conv_nil rfl (by decide) (by rw [e]; rfl)) (.cons (conv_eq (by first | rfl | exact fT (by first | exact e2 | assumption) | exact fF (by first | exact e2 | assumption) | exact fT' (by first | exact e2 | assumption) | (exfalso; first | omega | grind))) (.nil))), weakH_row (rowEq (by first | (rw [e]; done) | (rw [e]; rfl))) (weakH_none _), refsIn_ok rfl⟩
          · first | replace hb21 := dT hb21 | skip
            have hqb : rdB q := hb21
            refine ev_q rfl (q_assign (by conv => lhs; whnf) ?_)
            refine ev_q rfl (q_assign (by conv => lhs; whnf) ?_)
            refine ev_nil (hK19 _ ?_); clear hK19
            refine good_seq fun K25 hK25 => ?_
            refine good_seq fun K26 hK26 => ?_
            refine good_region rfl ?_
            refine ev_q rfl (q_move (by conv => lhs; whnf) ?_)
            refine ev_q rfl (q_not rfl rfl ?_)
            refine ev_q rfl (q_move (by conv => lhs; whnf) ?_)
            refine ev_q rfl (q_move (by conv => lhs; whnf) ?_)
            refine ev_q rfl (q_callB rfl rfl (rfl) (D_spec_l00In ..) ?_)
            intro b27 hb27; cases b27
            · first | replace hb27 := dF hb27 | skip
              have hee := rl_n hnd (fun h => hb27 (by rw [h30]; exact (h.2 q (List.mem_of_getElem? hq)).2))
              refine ev_q rfl (q_not rfl rfl ?_)
              refine ev_q rfl (q_pickF rfl (by conv => lhs; whnf) ?_)
              refine ev_nil (hK26 _ ?_); clear hK26
              refine good_condT rfl ?_
              refine good_seq fun K28 hK28 => ?_
              refine good_region rfl ?_
              refine ev_q rfl (q_assign (by conv => lhs; whnf) ?_)
              refine ev_q rfl (q_assign (by conv => lhs; whnf) ?_)
              refine ev_nil (hK28 _ ?_); clear hK28
              refine good_ret ?_
              repeat (first | refine thenQ_ret ?_ | refine blockQ_ret ?_)
              refine fx_many rfl ?_
              refine fxs_tmp (by conv => lhs; whnf) ?_
              refine fxs_tmp (by conv => lhs; whnf) ?_
              refine fx_nil ?_
              clear hK11 hK18 hK25
              obtain ⟨e2, e⟩ := hee
              try rw [List.take_length]
              exact ⟨_, .tup (.cons (conv_nil rfl (by decide) (by rw [e]; rfl)) (.cons (conv_eq (by first | rfl | exact fT (by first | exact e2 | assumption) | exact fF (by first | exact e2 | assumption) | exact fT' (by first | exact e2 | assumption) | (exfalso; first | omega | grind))) (.nil))), weakH_row (rowEq (by first | (rw [e]; done) | (rw [e]; rfl))) (weakH_none _), refsIn_ok rfl⟩
            · first | replace hb27 := dT hb27 | skip
              have hqm : inM (rdN q) := by have h2 := hb27; rw [h30] at h2; exact h2
              refine ev_q rfl (q_not rfl rfl ?_)
              refine ev_q rfl (q_pickF rfl (by conv => lhs; whnf) ?_)
              refine ev_nil (hK26 _ ?_); clear hK26
              refine good_condF rfl ?_
              refine good_skip (hK25 _ ?_); clear hK25
              refine good_region rfl ?_
              refine ev_q rfl (q_move (by conv => lhs; whnf) ?_)
              refine ev_q rfl (q_move (by conv => lhs; whnf) ?_)
              refine ev_k rfl (k_lit tE69 zA2 rfl rfl (by decide) (by decide) rfl rfl rfl ?_)
              refine ev_k rfl (k_app tApp69 rfl rfl (by simp) rfl (.inr rfl) (by first | (simp [maxLen]; done) | (simp [maxLen]; omega)) (by first | (simp; done) | (simp; omega)) ?_)
              refine ev_q rfl (q_assign (by conv => lhs; whnf) ?_)
              refine ev_nil (hK18 _ ?_); clear hK18
              refine good_region rfl ?_
              refine ev_q rfl (q_move (by conv => lhs; whnf) ?_)
              refine ev_q rfl (q_int rfl rfl ?_)
              intro n29 hn29
              replace hn29 := in64 hn29 (by omega) (by omega)
              refine ev_q rfl (q_assign (by conv => lhs; whnf) ?_)
              refine ev_nil ?_
              clear hK11
              refine ⟨i + 1, ?_, ?_, ?_⟩
              · exact ⟨by omega, all_extI (Q := fun _ (q : ByteArray) => rdB q ∧ inM (rdN q)) hJ hq ⟨hqb, hqm⟩⟩
              · first | omega | (simp only []; omega) | (dsimp only; omega)
              · refine sub_weak ?_ ?_
                · exact weakH_row (rowEq (appG (p := rdN q) (by rw [hst, List.map_append]; rfl) (fI h30))) (weakH_none _)
                · refine weakE_upd ?e6 ?r6 (weakE_upd ?e5 ?r5 (weakE_upd ?e4 ?r4 (weakE_upd ?e0 ?r0 (weakE_junk _ _))))
                  case e0 => first | rfl | exact fI (by omega) | (simp_all)
                  case r0 => intro h hh; cases hh
                  case e4 => first | rfl | exact fI (by omega) | (simp_all)
                  case r4 => intro h hh; cases hh
                  case e5 => first | rfl | exact fI (by omega) | (first | rfl | (rw [hst]; exact ownEq (by simp)))
                  case r5 => intro h hh; simp [refs] at hh; subst hh; rfl
                  case e6 => first | rfl | exact fI (by omega) | (simp_all)
                  case r6 => intro h hh; cases hh
    · replace hb9 := dT hb9
      have hee := rl_n hnd (fun h => by have := h.1; omega)
      refine ev_nil (hK7 _ ?_); clear hK7
      refine good_condT rfl ?_
      refine good_seq fun K30 hK30 => ?_
      refine good_region rfl ?_
      refine ev_q rfl (q_assign (by conv => lhs; whnf) ?_)
      refine ev_q rfl (q_assign (by conv => lhs; whnf) ?_)
      refine ev_nil (hK30 _ ?_); clear hK30
      refine good_ret ?_
      repeat (first | refine thenQ_ret ?_ | refine blockQ_ret ?_)
      refine fx_many rfl ?_
      refine fxs_tmp (by conv => lhs; whnf) ?_
      refine fxs_tmp (by conv => lhs; whnf) ?_
      refine fx_nil ?_
      clear hK6
      obtain ⟨e2, e⟩ := hee
      try rw [List.take_length]
      exact ⟨_, .tup (.cons (conv_nil rfl (by decide) (by rw [e]; rfl)) (.cons (conv_eq (by first | rfl | exact fT (by first | exact e2 | assumption) | exact fF (by first | exact e2 | assumption) | exact fT' (by first | exact e2 | assumption) | (exfalso; first | omega | grind))) (.nil))), weakH_row (rowEq (by first | (rw [e]; done) | (rw [e]; rfl))) (weakH_none _), refsIn_ok rfl⟩
  · replace hb4 := seT hb4
    have hee := rl_d hb4
    refine ev_nil (hK3 _ ?_); clear hK3
    refine good_condT rfl ?_
    refine good_seq fun K31 hK31 => ?_
    refine good_region rfl ?_
    refine ev_k rfl (k_lit tE69 zA2 rfl rfl (by decide) (by decide) rfl rfl rfl ?_)
    refine ev_q rfl (q_assign (by conv => lhs; whnf) ?_)
    refine ev_q rfl (q_assign (by conv => lhs; whnf) ?_)
    refine ev_nil (hK31 _ ?_); clear hK31
    refine good_weak (sub_move 2 11 900003 rfl rfl rfl (by decide)) ?_
    refine good_ret ?_
    repeat (first | refine thenQ_ret ?_ | refine blockQ_ret ?_)
    refine fx_many rfl ?_
    refine fxs_tmp (by conv => lhs; whnf) ?_
    refine fxs_tmp (by conv => lhs; whnf) ?_
    refine fx_nil ?_
    clear hK2
    obtain ⟨e2, e⟩ := hee
    try rw [List.take_length]
    exact ⟨_, .tup (.cons (conv_eq (by first | rfl | (rw [e]; done) | (rw [e]; rfl) | exact ownEq (by first | omega | simp_all))) (.cons (conv_eq (by first | rfl | exact fT (by first | exact e2 | assumption) | exact fF (by first | exact e2 | assumption) | exact fT' (by first | exact e2 | assumption) | (exfalso; first | omega | grind))) (.nil))), weakH_row (rowEq (by first | (rw [e]; done) | (rw [e]; rfl))) (weakH_none _), refsIn_ok rfl⟩
theorem D_spec_ReadList (s : ByteArray) (hs : s.size ≤ 1048576) : Den Tryd.prog 69 [.s (.string s)] (.tup [.lst 1 ((rlL s).map ci), .s (.bool (decide (rlB s)))]) :=
  den_of_denX (D_spec_ReadList_X s hs) (by change (some (.tup [.lst 1 (List.take (rlL s).length ((rlL s).map ci)), .s (.bool (decide (rlB s)))]) : Option AV) = some (.tup [.lst 1 ((rlL s).map ci), .s (.bool (decide (rlB s)))]); simp only [takeMap])

theorem D_joinW (xs : List (Int × Int)) (ok : waveOk xs) : Den Tryd.prog 57 [.lst 1 (xs.map wAV), .s (.string ⟨#[32]⟩)] (.s (.string (tx (wtx xs)))) := by
  have e : (xs.map fun p => tx (stT p)).map stA = xs.map wAV := by rw [List.map_map]; rfl
  have e2 : (xs.map fun p => tx (stT p)).map (fun b : ByteArray => b.data.toList) = xs.map stT := by rw [List.map_map]; exact List.map_congr_left fun n _ => by simp [tx_data]
  have hlen := wtx_len ok (i := xs.length) (Nat.le_refl _)
  rw [List.take_length] at hlen
  have hn := ok.1.2
  have h := den_join ⟨_, Tryd.func57, rfl, rfl⟩ Tryd.strings_Join_none Tryd.strings_Join (xs.map fun p => tx (stT p)) ⟨#[32]⟩ (by rw [List.length_map]; omega) (by rw [e2]; show (Lib.join (xs.map stT) [32]).length ≤ _; omega)
  rw [e, e2] at h
  exact h

-- impl.WaveText
set_option maxRecDepth 20000 in
set_option maxHeartbeats 2000000 in
theorem D_impl_WaveText (xs : List (Int × Int)) (hx : xs.length ≤ 8796093022208) : Den Tryd.prog 17 [.lst 2 (xs.map stp)] (.s (.string (wvT xs))) := by
  refine den_of_good Tryd.func17 (by decide) rfl (Nat.le_of_ble_eq_true rfl) (Nat.le_of_ble_eq_true rfl) ?_
  refine good_seq fun K1 hK1 => ?_
  refine good_region rfl ?_
  refine ev_q rfl (q_assign (by conv => lhs; whnf) ?_)
  refine ev_nil (hK1 _ ?_); clear hK1
  refine good_seq fun K2 hK2 => ?_
  refine good_seq fun K3 hK3 => ?_
  refine good_region rfl ?_
  refine ev_q rfl (q_move (by conv => lhs; whnf) ?_)
  refine ev_q rfl (q_callB rfl rfl (rfl) (D_impl_ValidWave _ (by omega)) ?_)
  intro b4 hb4; cases b4
  · first | replace hb4 := dF hb4 | skip
    refine ev_q rfl (q_not rfl rfl ?_)
    refine ev_nil (hK3 _ ?_); clear hK3
    refine good_condT rfl ?_
    refine good_seq fun K5 hK5 => ?_
    refine good_region rfl ?_
    refine ev_q rfl (q_assign (by conv => lhs; whnf) ?_)
    refine ev_nil (hK5 _ ?_); clear hK5
    refine good_ret ?_
    repeat (first | refine thenQ_ret ?_ | refine blockQ_ret ?_)
    refine ret_tmp (st := _) rfl (by conv => lhs; whnf) rfl ?_
    clear hK2
    first | exact fS (wvT_no (by assumption)).symm | exact fS (wvT_ok ok).symm
  · first | replace hb4 := dT hb4 | skip
    have ok : waveOk xs := hb4
    have hn24 := ok.1.2
    refine ev_q rfl (q_not rfl rfl ?_)
    refine ev_nil (hK3 _ ?_); clear hK3
    refine good_condF rfl ?_
    refine good_skip (hK2 _ ?_); clear hK2
    refine good_seq fun K6 hK6 => ?_
    refine good_region rfl ?_
    refine ev_q rfl (q_assign (by conv => lhs; whnf) ?_)
    refine ev_nil (hK6 _ ?_); clear hK6
    refine good_seq fun K7 hK7 => ?_
    refine good_seq fun K8 hK8 => ?_
    refine good_region rfl ?_
    refine ev_q rfl (q_move (by conv => lhs; whnf) ?_)
    refine ev_q rfl (q_len tEs31 rfl ?_)
    intro n9 hn9
    try simp only [List.length_map] at hn9
    refine ev_q rfl (q_move (by conv => lhs; whnf) ?_)
    refine ev_nil (hK8 _ ?_); clear hK8
    refine good_block ?_
    refine good_loop (α := Nat) (fun i => { env := upd (upd (upd (upd ((fun _ => .junk)) 3 (.own 25 (xs.take i).length)) 9 (.lst 2 (xs.map stp))) 10 (.s (.int .i64 ((xs.length : Int))))) 11 (.s (.int .i64 i)), H := upd ((fun _ => none)) 25 (some (.row 9 1 ((xs.take i).map wAV))) }) (fun i => i ≤ xs.length) (fun i => xs.length - i) 0 ?_ ?_ ?_
    · show 0 ≤ _; omega
    · refine Sub.trans (sub_nil 3 25 9 1 rfl rfl (by decide)) ?_
      refine sub_weak ?_ ?_
      · exact weakH_row (rowEq (rfl)) (weakH_none _)
      · refine weakE_upd ?e11 ?r11 (weakE_upd ?e10 ?r10 (weakE_upd ?e9 ?r9 (weakE_upd ?e3 ?r3 (weakE_junk _ _))))
        case e3 => first | rfl | exact fI (by omega) | (first | rfl | (rw [hst]; exact ownEq (by simp)))
        case r3 => intro h hh; simp [refs] at hh; subst hh; rfl
        case e9 => first | rfl | exact fI (by omega) | (simp_all)
        case r9 => intro h hh; cases hh
        case e10 => first | rfl | exact fI (by omega) | (simp_all)
        case r10 => intro h hh; cases hh
        case e11 => first | rfl | exact fI (by omega) | (simp_all)
        case r11 => intro h hh; cases hh
    · rintro i hI
      refine good_seq fun K10 hK10 => ?_
      refine good_region rfl ?_
      refine ev_q rfl (q_int rfl rfl ?_)
      intro b11 hb11; cases b11
      · replace hb11 := dF hb11
        obtain rfl : i = xs.length := by omega
        refine ev_nil (hK10 _ ?_); clear hK10
        refine good_seq fun K12 hK12 => ?_
        refine good_condF rfl ?_
        refine good_exit ?_
        repeat (first | refine thenQ_exit ?_ | refine blockQ_pass rfl ?_)
        refine blockQ_exit (hK7 _ ?_); clear hK7
        refine good_seq fun K13 hK13 => ?_
        refine good_region rfl ?_
        refine ev_q rfl (q_move (by conv => lhs; whnf) ?_)
        refine ev_q rfl (q_call rfl rfl (by change ([.lst 1 (List.take (List.take xs.length xs).length ((List.take xs.length xs).map wAV)), .s (.string ⟨#[32]⟩)] : List AV) = _; simp only [takeMap, List.take_length]) (D_joinW xs ok) rfl ?_)
        refine ev_q rfl (q_assign (by conv => lhs; whnf) ?_)
        refine ev_nil (hK13 _ ?_); clear hK13
        refine good_ret ?_
        repeat (first | refine thenQ_ret ?_ | refine blockQ_ret ?_)
        refine ret_tmp (st := _) rfl (by conv => lhs; whnf) rfl ?_
        clear hK12
        first | exact fS (wvT_no (by assumption)).symm | exact fS (wvT_ok ok).symm
      · replace hb11 := dT hb11
        obtain ⟨p, hp⟩ := getL (xs := xs) (n := (i : Int)) (by omega) (by omega)
        replace hp : xs[i]? = some p := hp
        have hst := takeS hp
        have hpi := wv_in ok hp
        have hd1 := dec_size hpi.1.1 hpi.1.2
        have hd2 := dec_size hpi.2.1 hpi.2.2
        refine ev_nil (hK10 _ ?_); clear hK10
        refine good_seq fun K14 hK14 => ?_
        refine good_condT rfl ?_
        refine good_skip (hK14 _ ?_); clear hK14
        refine good_seq fun K15 hK15 => ?_
        refine good_block ?_
        refine good_seq fun K16 hK16 => ?_
        refine good_region rfl ?_
        refine ev_q rfl (q_idx tE31 rfl rfl (by exact Int.natCast_nonneg _) (by exact map_get hp) rfl ?_)
        refine ev_q rfl (q_loadA tA83 rfl rfl rfl ?_)
        refine ev_k rfl (k_alloc zA83 rfl ?_)
        refine ev_k rfl (k_store sz83 rfl (by conv => lhs; whnf) rfl rfl rfl (Nat.le_of_ble_eq_true rfl) rfl ?_)
        refine ev_nil (hK16 _ ?_); clear hK16
        refine good_any 12 (listed := #[false, false, false, false, false, false, false, false, false, false, false, false]) rfl rfl hmix rfl ?_
        refine tn_first_q (i := 0) (listed' := #[true, false, false, false, false, false, false, false, false, false, false, false]) rfl rfl (by kernel_rfl) rfl (q_move (by conv => lhs; whnf) ?_)
        refine tn_first_q (i := 1) (listed' := #[true, true, false, false, false, false, false, false, false, false, false, false]) rfl rfl (by kernel_rfl) rfl (q_fieldAddrP fO83_0 rfl rfl ?_)
        refine tn_first_q (i := 2) (listed' := #[true, true, true, false, false, false, false, false, false, false, false, false]) rfl rfl (by kernel_rfl) rfl (q_load tA2 rfl ?_)
        refine tn_first_q (i := 5) (listed' := #[true, true, true, false, false, true, false, false, false, false, false, false]) rfl rfl (by kernel_rfl) rfl (q_fieldAddrP fO83_1 rfl rfl ?_)
        refine tn_step [3, 6] (by kernel_rfl) rfl ?_
        refine ⟨?_, ?_, trivial⟩
        · refine tn_q (listed' := #[true, true, true, true, false, true, false, false, false, false, false, false]) rfl rfl rfl (q_call rfl rfl (rfl) (D_impl_Decimal _ hpi.1) rfl ?_)
          refine tn_first_q (i := 4) (listed' := #[true, true, true, true, true, true, false, false, false, false, false, false]) rfl rfl (by kernel_rfl) rfl (q_str rfl rfl ⟨by rw [l1_size]; omega, ?_⟩)
          intro s17 hs17
          have h19 := hs17
          have hz19 := sz_app hs17
          rw [l1_size] at hz19
          refine tn_first_q (i := 6) (listed' := #[true, true, true, true, true, true, true, false, false, false, false, false]) rfl rfl (by kernel_rfl) rfl (q_load tA2 rfl ?_)
          refine tn_step [7] (by kernel_rfl) rfl ?_
          refine ⟨?_, trivial⟩
          · refine tn_q (listed' := #[true, true, true, true, true, true, true, true, false, false, false, false]) rfl rfl rfl (q_call rfl rfl (rfl) (D_impl_Decimal _ hpi.2) rfl ?_)
            refine tn_first_q (i := 8) (listed' := #[true, true, true, true, true, true, true, true, true, false, false, false]) rfl rfl (by kernel_rfl) rfl (q_str rfl rfl ⟨by omega, ?_⟩)
            intro s18 hs18
            have h23 := stT_eq h19 hs18
            refine tn_step [9] (by kernel_rfl) rfl ?_
            refine ⟨?_, trivial⟩
            · refine tn_k (listed' := #[true, true, true, true, true, true, true, true, true, true, false, false]) rfl rfl rfl rfl (k_lit tE86 zA9 rfl rfl (by decide) (by decide) rfl rfl rfl ?_)
              refine tn_step [10] (by kernel_rfl) rfl ?_
              refine ⟨?_, trivial⟩
              · refine tn_k (listed' := #[true, true, true, true, true, true, true, true, true, true, true, false]) rfl rfl rfl rfl (k_app tApp86 rfl rfl (by simp) rfl (.inr rfl) (by simp [maxLen]; omega) (by simp; omega) ?_)
                refine tn_first_q (i := 11) (listed' := #[true, true, true, true, true, true, true, true, true, true, true, true]) rfl rfl (by kernel_rfl) rfl (q_assign (by conv => lhs; whnf) ?_)
                refine tn_end (by kernel_rfl) (hK15 _ ?_); clear hK15
                refine good_region rfl ?_
                refine ev_q rfl (q_int rfl rfl ?_)
                intro n19 hn19
                replace hn19 := in64 hn19 (by omega) (by omega)
                refine ev_q rfl (q_move (by conv => lhs; whnf) ?_)
                refine ev_nil ?_
                clear hK7
                refine ⟨i + 1, ?_, ?_, ?_⟩
                · show _ ≤ _; omega
                · first | omega | (simp only []; omega) | (dsimp only; omega)
                · refine sub_weak ?_ ?_
                  · exact weakH_row (rowEq (appG hst (fS h23))) (weakH_none _)
                  · refine weakE_upd ?e11 ?r11 (weakE_upd ?e10 ?r10 (weakE_upd ?e9 ?r9 (weakE_upd ?e3 ?r3 (weakE_junk _ _))))
                    case e3 => first | rfl | exact fI (by omega) | (first | rfl | (rw [hst]; exact ownEq (by simp)))
                    case r3 => intro h hh; simp [refs] at hh; subst hh; rfl
                    case e9 => first | rfl | exact fI (by omega) | (simp_all)
                    case r9 => intro h hh; cases hh
                    case e10 => first | rfl | exact fI (by omega) | (simp_all)
                    case r10 => intro h hh; cases hh
                    case e11 => first | rfl | exact fI (by omega) | (simp_all)
                    case r11 => intro h hh; cases hh
        · refine tn_q (listed' := #[true, true, true, false, false, true, true, false, false, false, false, false]) rfl rfl rfl (q_load tA2 rfl ?_)
          refine tn_step [3] (by kernel_rfl) rfl ?_
          refine ⟨?_, trivial⟩
          · refine tn_q (listed' := #[true, true, true, true, false, true, true, false, false, false, false, false]) rfl rfl rfl (q_call rfl rfl (rfl) (D_impl_Decimal _ hpi.1) rfl ?_)
            refine tn_first_q (i := 4) (listed' := #[true, true, true, true, true, true, true, false, false, false, false, false]) rfl rfl (by kernel_rfl) rfl (q_str rfl rfl ⟨by rw [l1_size]; omega, ?_⟩)
            intro s20 hs20
            have h19 := hs20
            have hz19 := sz_app hs20
            rw [l1_size] at hz19
            refine tn_step [7] (by kernel_rfl) rfl ?_
            refine ⟨?_, trivial⟩
            · refine tn_q (listed' := #[true, true, true, true, true, true, true, true, false, false, false, false]) rfl rfl rfl (q_call rfl rfl (rfl) (D_impl_Decimal _ hpi.2) rfl ?_)
              refine tn_first_q (i := 8) (listed' := #[true, true, true, true, true, true, true, true, true, false, false, false]) rfl rfl (by kernel_rfl) rfl (q_str rfl rfl ⟨by omega, ?_⟩)
              intro s21 hs21
              have h23 := stT_eq h19 hs21
              refine tn_step [9] (by kernel_rfl) rfl ?_
              refine ⟨?_, trivial⟩
              · refine tn_k (listed' := #[true, true, true, true, true, true, true, true, true, true, false, false]) rfl rfl rfl rfl (k_lit tE86 zA9 rfl rfl (by decide) (by decide) rfl rfl rfl ?_)
                refine tn_step [10] (by kernel_rfl) rfl ?_
                refine ⟨?_, trivial⟩
                · refine tn_k (listed' := #[true, true, true, true, true, true, true, true, true, true, true, false]) rfl rfl rfl rfl (k_app tApp86 rfl rfl (by simp) rfl (.inr rfl) (by simp [maxLen]; omega) (by simp; omega) ?_)
                  refine tn_first_q (i := 11) (listed' := #[true, true, true, true, true, true, true, true, true, true, true, true]) rfl rfl (by kernel_rfl) rfl (q_assign (by conv => lhs; whnf) ?_)
                  refine tn_end (by kernel_rfl) (hK15 _ ?_); clear hK15
                  refine good_region rfl ?_
                  refine ev_q rfl (q_int rfl rfl ?_)
                  intro n22 hn22
                  replace hn22 := in64 hn22 (by omega) (by omega)
                  refine ev_q rfl (q_move (by conv => lhs; whnf) ?_)
                  refine ev_nil ?_
                  clear hK7
                  refine ⟨i + 1, ?_, ?_, ?_⟩
                  · show _ ≤ _; omega
                  · first | omega | (simp only []; omega) | (dsimp only; omega)
                  · refine sub_weak ?_ ?_
                    · exact weakH_row (rowEq (appG hst (fS h23))) (weakH_none _)
                    · refine weakE_upd ?e11 ?r11 (weakE_upd ?e10 ?r10 (weakE_upd ?e9 ?r9 (weakE_upd ?e3 ?r3 (weakE_junk _ _))))
                      case e3 => first | rfl | exact fI (by omega) | (first | rfl | (rw [hst]; exact ownEq (by simp)))
                      case r3 => intro h hh; simp [refs] at hh; subst hh; rfl
                      case e9 => first | rfl | exact fI (by omega) | (simp_all)
                      case r9 => intro h hh; cases hh
                      case e10 => first | rfl | exact fI (by omega) | (simp_all)
                      case r10 => intro h hh; cases hh
                      case e11 => first | rfl | exact fI (by omega) | (simp_all)
                      case r11 => intro h hh; cases hh

theorem D_cut (c : UInt8) (s : ByteArray) (hs : s.size ≤ 1048576) : Den Tryd.prog 74 [.s (.string s), .s (.string ⟨#[c]⟩)] (.tup [.s (.string (cutA c s)), .s (.string (cutB c s)), .s (.bool (cutF c s))]) := by
  have h := den_cut ⟨_, Tryd.func74, rfl, rfl⟩ (by kernel_rfl) (fun s sep m w h1 h2 => Tryd.strings_Cut s sep m w h1 h2) s ⟨#[c]⟩ hs
  exact h

-- impl.ReadWave
set_option maxRecDepth 20000 in
set_option maxHeartbeats 2000000 in
theorem D_impl_ReadWave_X (s : ByteArray) (hs : s.size ≤ 1048576) : DenX Tryd.prog 32 [] [.s (.string s)] [(900003, .row 83 2 ((rwL s).map stp))] (.tup [.own 900003 (rwL s).length, .s (.bool (decide (rwP s)))]) := by
  have hsl := splN_le (c := 32) (k := 25) (s := s) (by omega)
  refine denX_of_good Tryd.func32 (by decide) rfl (Nat.le_of_ble_eq_true rfl) (Nat.le_of_ble_eq_true rfl) rfl ?_
  refine good_seq fun K1 hK1 => ?_
  refine good_region rfl ?_
  refine ev_q rfl (q_assign (by conv => lhs; whnf) ?_)
  refine ev_q rfl (q_assign (by conv => lhs; whnf) ?_)
  refine ev_nil (hK1 _ ?_); clear hK1
  refine good_seq fun K2 hK2 => ?_
  refine good_region rfl ?_
  refine ev_q rfl (q_assign (by conv => lhs; whnf) ?_)
  refine ev_nil (hK2 _ ?_); clear hK2
  refine good_seq fun K3 hK3 => ?_
  refine good_seq fun K4 hK4 => ?_
  refine good_region rfl ?_
  refine ev_q rfl (q_move (by conv => lhs; whnf) ?_)
  refine ev_q rfl (q_call rfl rfl (rfl) (D_split 32 25 s hs (by decide) (by decide)) rfl ?_)
  refine ev_q rfl (q_len tEs86 rfl ?_)
  intro n5 hn5
  try simp only [List.length_map] at hn5
  refine ev_q rfl (q_move (by conv => lhs; whnf) ?_)
  refine ev_nil (hK4 _ ?_); clear hK4
  refine good_block ?_
  refine good_loop (α := Nat) (fun i => { env := upd (upd (upd (upd (upd ((fun _ => .junk)) 0 (.s (.string s))) 4 (.own 48 ((splN 32 25 s).take i).length)) 15 (.lst 1 ((splN 32 25 s).map stA))) 16 (.s (.int .i64 (((splN 32 25 s).length : Int))))) 17 (.s (.int .i64 ((i : Int)))), H := upd ((fun _ => none)) 48 (some (.row 83 2 ((((splN 32 25 s).take i).map prV).map stp))) }) (fun i => i ≤ (splN 32 25 s).length ∧ ∀ j q, j < i → (splN 32 25 s)[j]? = some q → prB q) (fun i => (splN 32 25 s).length - i) 0 ?_ ?_ ?_
  · exact ⟨Nat.zero_le _, fun j u hj => by omega⟩
  · refine Sub.trans (sub_nil 4 48 83 2 rfl rfl (by decide)) ?_
    refine sub_weak ?_ ?_
    · exact weakH_row (rowEq (rfl)) (weakH_none _)
    · refine weakE_upd ?e17 ?r17 (weakE_upd ?e16 ?r16 (weakE_upd ?e15 ?r15 (weakE_upd ?e4 ?r4 (weakE_upd ?e0 ?r0 (weakE_junk _ _)))))
      case e0 => first | rfl | exact fI (by omega) | (simp_all)
      case r0 => intro h hh; cases hh
      case e4 => first | rfl | exact fI (by omega) | (first | rfl | (rw [hst]; exact ownEq (by simp)))
      case r4 => intro h hh; simp [refs] at hh; subst hh; rfl
      case e15 => first | rfl | exact fI (by omega) | (simp_all)
      case r15 => intro h hh; cases hh
      case e16 => first | rfl | exact fI (by omega) | (simp_all)
      case r16 => intro h hh; cases hh
      case e17 => first | rfl | exact fI (by omega) | (simp_all)
      case r17 => intro h hh; cases hh
  · rintro i ⟨hI, hJ⟩
    refine good_seq fun K6 hK6 => ?_
    refine good_region rfl ?_
    refine ev_q rfl (q_int rfl rfl ?_)
    intro b7 hb7; cases b7
    · replace hb7 := dF hb7
      obtain rfl : i = (splN 32 25 s).length := by omega
      have hall : ∀ p ∈ (splN 32 25 s), prB p := fun p hp => by obtain ⟨j, hj⟩ := List.getElem?_of_mem hp; exact hJ j p (List.getElem?_eq_some_iff.1 hj).1 hj
      refine ev_nil (hK6 _ ?_); clear hK6
      refine good_seq fun K8 hK8 => ?_
      refine good_condF rfl ?_
      refine good_exit ?_
      repeat (first | refine thenQ_exit ?_ | refine blockQ_pass rfl ?_)
      refine blockQ_exit (hK3 _ ?_); clear hK3
      refine good_seq fun K9 hK9 => ?_
      refine good_seq fun K10 hK10 => ?_
      refine good_region rfl ?_
      refine ev_q rfl (q_move (by conv => lhs; whnf) ?_)
      refine ev_q rfl (q_call rfl rfl (by change ([.lst 2 (List.take (List.take (splN 32 25 s).length (splN 32 25 s)).length (((List.take (splN 32 25 s).length (splN 32 25 s)).map prV).map stp))] : List AV) = _; simp only [List.take_length]; rw [List.take_of_length_le (by simp)]) (D_impl_WaveText ((splN 32 25 s).map prV) (by rw [List.length_map]; omega)) rfl ?_)
      refine ev_q rfl (q_move (by conv => lhs; whnf) ?_)
      refine ev_q rfl (q_str rfl rfl ?_)
      intro b11 hb11; cases b11
      · replace hb11 := snF hb11
        have hee := rw_y2 ((rw_iff hall).2 hb11)
        refine ev_nil (hK10 _ ?_); clear hK10
        refine good_condF rfl ?_
        refine good_skip (hK9 _ ?_); clear hK9
        refine good_seq fun K12 hK12 => ?_
        refine good_region rfl ?_
        refine ev_q rfl (q_move (by conv => lhs; whnf) ?_)
        refine ev_q rfl (q_assign (by conv => lhs; whnf) ?_)
        refine ev_q rfl (q_assign (by conv => lhs; whnf) ?_)
        refine ev_nil (hK12 _ ?_); clear hK12
        refine good_weak (sub_move 2 48 900003 rfl rfl rfl (by decide)) ?_
        refine good_ret ?_
        repeat (first | refine thenQ_ret ?_ | refine blockQ_ret ?_)
        refine fx_many rfl ?_
        refine fxs_tmp (by conv => lhs; whnf) ?_
        refine fxs_tmp (by conv => lhs; whnf) ?_
        refine fx_nil ?_
        clear hK8
        obtain ⟨e2, e⟩ := hee
        try rw [List.take_length]
        exact ⟨_, .tup (.cons (conv_eq (by first | rfl | (rw [e]; done) | (rw [e]; rfl) | exact ownEq (by first | omega | simp_all))) (.cons (conv_eq (by first | rfl | exact fT (by first | exact e2 | assumption) | exact fF (by first | exact e2 | assumption) | exact fT' (by first | exact e2 | assumption) | (exfalso; first | omega | grind))) (.nil))), weakH_row (rowEq (by first | (rw [e]; done) | (rw [e]; rfl))) (weakH_none _), refsIn_ok rfl⟩
      · replace hb11 := snT hb11
        have hee := rw_n (fun h => hb11 ((rw_iff hall).1 h))
        refine ev_nil (hK10 _ ?_); clear hK10
        refine good_condT rfl ?_
        refine good_seq fun K13 hK13 => ?_
        refine good_region rfl ?_
        refine ev_q rfl (q_assign (by conv => lhs; whnf) ?_)
        refine ev_q rfl (q_assign (by conv => lhs; whnf) ?_)
        refine ev_nil (hK13 _ ?_); clear hK13
        refine good_ret ?_
        repeat (first | refine thenQ_ret ?_ | refine blockQ_ret ?_)
        refine fx_many rfl ?_
        refine fxs_tmp (by conv => lhs; whnf) ?_
        refine fxs_tmp (by conv => lhs; whnf) ?_
        refine fx_nil ?_
        clear hK8 hK9
        obtain ⟨e2, e⟩ := hee
        try rw [List.take_length]
        exact ⟨_, .tup (.cons (conv_nil rfl (by decide) (by rw [e]; rfl)) (.cons (conv_eq (by first | rfl | exact fT (by first | exact e2 | assumption) | exact fF (by first | exact e2 | assumption) | exact fT' (by first | exact e2 | assumption) | (exfalso; first | omega | grind))) (.nil))), weakH_row (rowEq (by first | (rw [e]; done) | (rw [e]; rfl))) (weakH_none _), refsIn_ok rfl⟩
    · replace hb7 := dT hb7
      obtain ⟨q, hq⟩ := getL (xs := (splN 32 25 s)) (n := (i : Int)) (by omega) (by omega)
      replace hq : (splN 32 25 s)[i]? = some q := hq
      have hst := takeS hq
      have hqm := List.mem_of_getElem? hq
      have hqz := splN_sz hqm
      have hcz := cutB_sz (c := 58) (s := q)
      refine ev_nil (hK6 _ ?_); clear hK6
      refine good_seq fun K14 hK14 => ?_
      refine good_condT rfl ?_
      refine good_skip (hK14 _ ?_); clear hK14
      refine good_seq fun K15 hK15 => ?_
      refine good_block ?_
      refine good_seq fun K16 hK16 => ?_
      refine good_region rfl ?_
      refine ev_q rfl (q_idx tE86 rfl rfl (by first | decide | exact Int.natCast_nonneg _) (by exact map_get hq) rfl ?_)
      refine ev_q rfl (q_load tA9 rfl ?_)
      refine ev_q rfl (q_assign (by conv => lhs; whnf) ?_)
      refine ev_nil (hK16 _ ?_); clear hK16
      refine good_seq fun K17 hK17 => ?_
      refine good_region rfl ?_
      refine ev_q rfl (q_move (by conv => lhs; whnf) ?_)
      refine ev_q rfl (q_call rfl rfl (rfl) (D_cut 58 q (by omega)) rfl ?_)
      refine ev_q rfl (q_move (by conv => lhs; whnf) ?_)
      refine ev_q rfl (q_extract rfl rfl ?_)
      refine ev_q rfl (q_extract rfl rfl ?_)
      refine ev_q rfl (q_extract rfl rfl ?_)
      refine ev_q rfl (q_assign (by conv => lhs; whnf) ?_)
      refine ev_q rfl (q_assign (by conv => lhs; whnf) ?_)
      refine ev_q rfl (q_assign (by conv => lhs; whnf) ?_)
      refine ev_nil (hK17 _ ?_); clear hK17
      refine good_seq fun K18 hK18 => ?_
      refine good_region rfl ?_
      refine ev_q rfl (q_move (by conv => lhs; whnf) ?_)
      refine ev_q rfl (q_call rfl rfl (rfl) (D_impl_ReadDecimal (cutA 58 q) (by omega)) rfl ?_)
      refine ev_q rfl (q_move (by conv => lhs; whnf) ?_)
      refine ev_q rfl (q_extractI rfl rfl ?_)
      intro n19 hn19
      have h30 := hn19
      refine ev_q rfl (q_extractB rfl rfl ?_)
      intro b20 hb20; cases b20
      · first | replace hb20 := dF hb20 | skip
        have hee := rw_n (rw_no1 hqm (fun h => hb20 h.1))
        refine ev_q rfl (q_assign (by conv => lhs; whnf) ?_)
        refine ev_q rfl (q_assign (by conv => lhs; whnf) ?_)
        refine ev_nil (hK18 _ ?_); clear hK18
        refine good_seq fun K21 hK21 => ?_
        refine good_region rfl ?_
        refine ev_q rfl (q_move (by conv => lhs; whnf) ?_)
        refine ev_q rfl (q_call rfl rfl (rfl) (D_impl_ReadDecimal (cutB 58 q) (by omega)) rfl ?_)
        refine ev_q rfl (q_move (by conv => lhs; whnf) ?_)
        refine ev_q rfl (q_extractI rfl rfl ?_)
        intro n22 hn22
        have h35 := hn22
        refine ev_q rfl (q_extractB rfl rfl ?_)
        intro b23 hb23; cases b23
        · first | replace hb23 := dF hb23 | skip
          have hee := rw_n (rw_no1 hqm (fun h => hb23 h.2))
          refine ev_q rfl (q_assign (by conv => lhs; whnf) ?_)
          refine ev_q rfl (q_assign (by conv => lhs; whnf) ?_)
          refine ev_nil (hK21 _ ?_); clear hK21
          refine good_seq fun K24 hK24 => ?_
          refine good_seq fun K25 hK25 => ?_
          refine good_region rfl ?_
          refine ev_q rfl (q_move (by conv => lhs; whnf) ?_)
          refine ev_q rfl (q_not rfl rfl ?_)
          refine ev_q rfl (q_move (by conv => lhs; whnf) ?_)
          refine ev_skip rfl ?_
          refine ev_skip rfl ?_
          refine ev_q rfl (q_pickT rfl (by conv => lhs; whnf) ?_)
          refine ev_nil (hK25 _ ?_); clear hK25
          refine good_condT rfl ?_
          refine good_seq fun K26 hK26 => ?_
          refine good_region rfl ?_
          refine ev_q rfl (q_assign (by conv => lhs; whnf) ?_)
          refine ev_q rfl (q_assign (by conv => lhs; whnf) ?_)
          refine ev_nil (hK26 _ ?_); clear hK26
          refine good_ret ?_
          repeat (first | refine thenQ_ret ?_ | refine blockQ_ret ?_)
          refine fx_many rfl ?_
          refine fxs_tmp (by conv => lhs; whnf) ?_
          refine fxs_tmp (by conv => lhs; whnf) ?_
          refine fx_nil ?_
          clear hK3 hK15 hK24
          obtain ⟨e2, e⟩ := hee
          try rw [List.take_length]
          exact ⟨_, .tup (.cons (conv_nil rfl (by decide) (by rw [e]; rfl)) (.cons (conv_eq (by first | rfl | exact fT (by first | exact e2 | assumption) | exact fF (by first | exact e2 | assumption) | exact fT' (by first | exact e2 | assumption) | (exfalso; first | omega | grind))) (.nil))), weakH_row (rowEq (by first | (rw [e]; done) | (rw [e]; rfl))) (weakH_none _), refsIn_ok rfl⟩
        · first | replace hb23 := dT hb23 | skip
          first | have hpq : prB q := ⟨hA, hb23⟩ | skip
          refine ev_q rfl (q_assign (by conv => lhs; whnf) ?_)
          refine ev_q rfl (q_assign (by conv => lhs; whnf) ?_)
          refine ev_nil (hK21 _ ?_); clear hK21
          refine good_seq fun K27 hK27 => ?_
          refine good_seq fun K28 hK28 => ?_
          refine good_region rfl ?_
          refine ev_q rfl (q_move (by conv => lhs; whnf) ?_)
          refine ev_q rfl (q_not rfl rfl ?_)
          refine ev_q rfl (q_move (by conv => lhs; whnf) ?_)
          refine ev_skip rfl ?_
          refine ev_skip rfl ?_
          refine ev_q rfl (q_pickT rfl (by conv => lhs; whnf) ?_)
          refine ev_nil (hK28 _ ?_); clear hK28
          refine good_condT rfl ?_
          refine good_seq fun K29 hK29 => ?_
          refine good_region rfl ?_
          refine ev_q rfl (q_assign (by conv => lhs; whnf) ?_)
          refine ev_q rfl (q_assign (by conv => lhs; whnf) ?_)
          refine ev_nil (hK29 _ ?_); clear hK29
          refine good_ret ?_
          repeat (first | refine thenQ_ret ?_ | refine blockQ_ret ?_)
          refine fx_many rfl ?_
          refine fxs_tmp (by conv => lhs; whnf) ?_
          refine fxs_tmp (by conv => lhs; whnf) ?_
          refine fx_nil ?_
          clear hK3 hK15 hK27
          obtain ⟨e2, e⟩ := hee
          try rw [List.take_length]
          exact ⟨_, .tup (.cons (conv_nil rfl (by decide) (by rw [e]; rfl)) (.cons (conv_eq (by first | rfl | exact fT (by first | exact e2 | assumption) | exact fF (by first | exact e2 | assumption) | exact fT' (by first | exact e2 | assumption) | (exfalso; first | omega | grind))) (.nil))), weakH_row (rowEq (by first | (rw [e]; done) | (rw [e]; rfl))) (weakH_none _), refsIn_ok rfl⟩
      · first | replace hb20 := dT hb20 | skip
        have hA : rdB (cutA 58 q) := hb20
        refine ev_q rfl (q_assign (by conv => lhs; whnf) ?_)
        refine ev_q rfl (q_assign (by conv => lhs; whnf) ?_)
        refine ev_nil (hK18 _ ?_); clear hK18
        refine good_seq fun K30 hK30 => ?_
        refine good_region rfl ?_
        refine ev_q rfl (q_move (by conv => lhs; whnf) ?_)
        refine ev_q rfl (q_call rfl rfl (rfl) (D_impl_ReadDecimal (cutB 58 q) (by omega)) rfl ?_)
        refine ev_q rfl (q_move (by conv => lhs; whnf) ?_)
        refine ev_q rfl (q_extractI rfl rfl ?_)
        intro n31 hn31
        have h35 := hn31
        refine ev_q rfl (q_extractB rfl rfl ?_)
        intro b32 hb32; cases b32
        · first | replace hb32 := dF hb32 | skip
          have hee := rw_n (rw_no1 hqm (fun h => hb32 h.2))
          refine ev_q rfl (q_assign (by conv => lhs; whnf) ?_)
          refine ev_q rfl (q_assign (by conv => lhs; whnf) ?_)
          refine ev_nil (hK30 _ ?_); clear hK30
          refine good_seq fun K33 hK33 => ?_
          refine good_seq fun K34 hK34 => ?_
          refine good_region rfl ?_
          refine ev_q rfl (q_move (by conv => lhs; whnf) ?_)
          refine ev_q rfl (q_not rfl rfl ?_)
          refine ev_q rfl (q_move (by conv => lhs; whnf) ?_)
          refine ev_q rfl (q_move (by conv => lhs; whnf) ?_)
          refine ev_q rfl (q_not rfl rfl ?_)
          refine ev_q rfl (q_pickF rfl (by conv => lhs; whnf) ?_)
          refine ev_nil (hK34 _ ?_); clear hK34
          refine good_condT rfl ?_
          refine good_seq fun K35 hK35 => ?_
          refine good_region rfl ?_
          refine ev_q rfl (q_assign (by conv => lhs; whnf) ?_)
          refine ev_q rfl (q_assign (by conv => lhs; whnf) ?_)
          refine ev_nil (hK35 _ ?_); clear hK35
          refine good_ret ?_
          repeat (first | refine thenQ_ret ?_ | refine blockQ_ret ?_)
          refine fx_many rfl ?_
          refine fxs_tmp (by conv => lhs; whnf) ?_
          refine fxs_tmp (by conv => lhs; whnf) ?_
          refine fx_nil ?_
          clear hK3 hK15 hK33
          obtain ⟨e2, e⟩ := hee
          try rw [List.take_length]
          exact ⟨_, .tup (.cons (conv_nil rfl (by decide) (by rw [e]; rfl)) (.cons (conv_eq (by first | rfl | exact fT (by first | exact e2 | assumption) | exact fF (by first | exact e2 | assumption) | exact fT' (by first | exact e2 | assumption) | (exfalso; first | omega | grind))) (.nil))), weakH_row (rowEq (by first | (rw [e]; done) | (rw [e]; rfl))) (weakH_none _), refsIn_ok rfl⟩
        · first | replace hb32 := dT hb32 | skip
          first | have hpq : prB q := ⟨hA, hb32⟩ | skip
          refine ev_q rfl (q_assign (by conv => lhs; whnf) ?_)
          refine ev_q rfl (q_assign (by conv => lhs; whnf) ?_)
          refine ev_nil (hK30 _ ?_); clear hK30
          refine good_seq fun K36 hK36 => ?_
          refine good_seq fun K37 hK37 => ?_
          refine good_region rfl ?_
          refine ev_q rfl (q_move (by conv => lhs; whnf) ?_)
          refine ev_q rfl (q_not rfl rfl ?_)
          refine ev_q rfl (q_move (by conv => lhs; whnf) ?_)
          refine ev_q rfl (q_move (by conv => lhs; whnf) ?_)
          refine ev_q rfl (q_not rfl rfl ?_)
          refine ev_q rfl (q_pickF rfl (by conv => lhs; whnf) ?_)
          refine ev_nil (hK37 _ ?_); clear hK37
          refine good_condF rfl ?_
          refine good_skip (hK36 _ ?_); clear hK36
          refine good_region rfl ?_
          refine ev_q rfl (q_move (by conv => lhs; whnf) ?_)
          refine ev_q rfl (q_move (by conv => lhs; whnf) ?_)
          refine ev_q rfl (q_move (by conv => lhs; whnf) ?_)
          refine ev_k rfl (k_build zA83 pl83 (rfl) ?_)
          refine ev_k rfl (k_lit tE31 zA83 rfl rfl (by decide) (by decide) rfl rfl rfl ?_)
          refine ev_k rfl (k_app tApp31 rfl rfl (by simp) rfl (.inr rfl) (by first | (simp [maxLen]; done) | (simp [maxLen]; omega)) (by first | (simp; done) | (simp; omega)) ?_)
          refine ev_q rfl (q_assign (by conv => lhs; whnf) ?_)
          refine ev_nil (hK15 _ ?_); clear hK15
          refine good_region rfl ?_
          refine ev_q rfl (q_int rfl rfl ?_)
          intro n38 hn38
          replace hn38 := in64 hn38 (by omega) (by omega)
          refine ev_q rfl (q_move (by conv => lhs; whnf) ?_)
          refine ev_nil ?_
          clear hK3
          refine ⟨i + 1, ?_, ?_, ?_⟩
          · exact ⟨by omega, all_extI (Q := fun _ (q : ByteArray) => prB q) hJ hq hpq⟩
          · first | omega | (simp only []; omega) | (dsimp only; omega)
          · refine sub_weak ?_ ?_
            · exact weakH_row (rowEq (appG (p := prV q) (by rw [hst, List.map_append]; rfl) (stpE2 h30 h35))) (weakH_none _)
            · refine weakE_upd ?e17 ?r17 (weakE_upd ?e16 ?r16 (weakE_upd ?e15 ?r15 (weakE_upd ?e4 ?r4 (weakE_upd ?e0 ?r0 (weakE_junk _ _)))))
              case e0 => first | rfl | exact fI (by omega) | (simp_all)
              case r0 => intro h hh; cases hh
              case e4 => first | rfl | exact fI (by omega) | (first | rfl | (rw [hst]; exact ownEq (by simp)))
              case r4 => intro h hh; simp [refs] at hh; subst hh; rfl
              case e15 => first | rfl | exact fI (by omega) | (simp_all)
              case r15 => intro h hh; cases hh
              case e16 => first | rfl | exact fI (by omega) | (simp_all)
              case r16 => intro h hh; cases hh
              case e17 => first | rfl | exact fI (by omega) | (simp_all)
              case r17 => intro h hh; cases hh
theorem D_impl_ReadWave (s : ByteArray) (hs : s.size ≤ 1048576) : Den Tryd.prog 32 [.s (.string s)] (.tup [.lst 2 ((rwL s).map stp), .s (.bool (decide (rwP s)))]) :=
  den_of_denX (D_impl_ReadWave_X s hs) (by change (some (.tup [.lst 2 (List.take (rwL s).length ((rwL s).map stp)), .s (.bool (decide (rwP s)))]) : Option AV) = some (.tup [.lst 2 ((rwL s).map stp), .s (.bool (decide (rwP s)))]); simp only [takeMap])

-- spec.ReadDecimal
set_option maxRecDepth 20000 in
set_option maxHeartbeats 2000000 in
theorem D_spec_ReadDecimal (s : ByteArray) (hs : s.size ≤ 1048576) : Den Tryd.prog 72 [.s (.string s)] (.tup [.s (.int .i64 (rdN s)), .s (.bool (decide (rdB s)))]) := by
  refine den_of_good Tryd.func72 (by decide) rfl (Nat.le_of_ble_eq_true rfl) (Nat.le_of_ble_eq_true rfl) ?_
  refine good_seq fun K1 hK1 => ?_
  refine good_region rfl ?_
  refine ev_q rfl (q_assign (by conv => lhs; whnf) ?_)
  refine ev_q rfl (q_assign (by conv => lhs; whnf) ?_)
  refine ev_nil (hK1 _ ?_); clear hK1
  refine good_seq fun K2 hK2 => ?_
  refine good_region rfl ?_
  refine ev_q rfl (q_move (by conv => lhs; whnf) ?_)
  refine ev_q rfl (q_call rfl rfl (rfl) (D_spec_l01Number s hs) rfl ?_)
  refine ev_q rfl (q_extractI rfl rfl ?_)
  intro n3 hn3
  refine ev_q rfl (q_extractB rfl rfl ?_)
  intro b4 hb4; cases b4
  · first | replace hb4 := dF hb4 | skip
    refine ev_q rfl (q_assign (by conv => lhs; whnf) ?_)
    refine ev_q rfl (q_assign (by conv => lhs; whnf) ?_)
    refine ev_nil (hK2 _ ?_); clear hK2
    refine good_ret ?_
    repeat (first | refine thenQ_ret ?_ | refine blockQ_ret ?_)
    refine ret_many rfl ?_
    refine res_tmp (by conv => lhs; whnf) rfl ?_
    refine res_tmp (by conv => lhs; whnf) rfl ?_
    refine res_nil ?_
    first | rfl | exact fTup1 (fI (by assumption)) (fTup1 (fT (by assumption)) rfl) | exact fTup1 (fI (by assumption)) (fTup1 (fF (by assumption)) rfl) | exact fTup1 rfl (fTup1 (fT (by assumption)) rfl) | exact fTup1 rfl (fTup1 (fF (by assumption)) rfl)
  · first | replace hb4 := dT hb4 | skip
    refine ev_q rfl (q_assign (by conv => lhs; whnf) ?_)
    refine ev_q rfl (q_assign (by conv => lhs; whnf) ?_)
    refine ev_nil (hK2 _ ?_); clear hK2
    refine good_ret ?_
    repeat (first | refine thenQ_ret ?_ | refine blockQ_ret ?_)
    refine ret_many rfl ?_
    refine res_tmp (by conv => lhs; whnf) rfl ?_
    refine res_tmp (by conv => lhs; whnf) rfl ?_
    refine res_nil ?_
    first | rfl | exact fTup1 (fI (by assumption)) (fTup1 (fT (by assumption)) rfl) | exact fTup1 (fI (by assumption)) (fTup1 (fF (by assumption)) rfl) | exact fTup1 rfl (fTup1 (fT (by assumption)) rfl) | exact fTup1 rfl (fTup1 (fF (by assumption)) rfl)

-- spec.ReadWave
set_option maxRecDepth 20000 in
set_option maxHeartbeats 2000000 in
theorem D_spec_ReadWave_X (s : ByteArray) (hs : s.size ≤ 1048576) : DenX Tryd.prog 31 [] [.s (.string s)] [(900003, .row 83 2 ((rwL s).map stp))] (.tup [.own 900003 (rwL s).length, .s (.bool (decide (rwP s)))]) := by
  have hpl := pieces_len (c := 32) (s := s)
  refine denX_of_good Tryd.func31 (by decide) rfl (Nat.le_of_ble_eq_true rfl) (Nat.le_of_ble_eq_true rfl) rfl ?_
  refine good_seq fun K1 hK1 => ?_
  refine good_region rfl ?_
  refine ev_q rfl (q_assign (by conv => lhs; whnf) ?_)
  refine ev_q rfl (q_assign (by conv => lhs; whnf) ?_)
  refine ev_nil (hK1 _ ?_); clear hK1
  refine good_seq fun K2 hK2 => ?_
  refine good_region rfl ?_
  refine ev_q rfl (q_move (by conv => lhs; whnf) ?_)
  refine ev_q rfl (q_call rfl rfl (rfl) (D_spec_l01Split 32 s hs) rfl ?_)
  refine ev_q rfl (q_assign (by conv => lhs; whnf) ?_)
  refine ev_nil (hK2 _ ?_); clear hK2
  refine good_seq fun K3 hK3 => ?_
  refine good_region rfl ?_
  refine ev_k rfl (k_lit tE31 zA83 rfl rfl (by decide) (by decide) rfl rfl rfl ?_)
  refine ev_q rfl (q_assign (by conv => lhs; whnf) ?_)
  refine ev_nil (hK3 _ ?_); clear hK3
  refine good_seq fun K4 hK4 => ?_
  refine good_seq fun K5 hK5 => ?_
  refine good_region rfl ?_
  refine ev_q rfl (q_assign (by conv => lhs; whnf) ?_)
  refine ev_nil (hK5 _ ?_); clear hK5
  refine good_block ?_
  refine good_loop (α := Nat) (fun i => { env := upd (upd (upd (upd ((fun _ => .junk)) 0 (.s (.string s))) 4 (.lst 1 ((pieces 32 s).map stA))) 5 (.own 54 ((pieces 32 s).take i).length)) 6 (.s (.int .i64 ((i : Int)))), H := upd ((fun _ => none)) 54 (some (.row 83 2 ((((pieces 32 s).take i).map prV).map stp))) }) (fun i => i ≤ (pieces 32 s).length ∧ ∀ j q, j < i → (pieces 32 s)[j]? = some q → prB q) (fun i => (pieces 32 s).length - i) 0 ?_ ?_ ?_
  · exact ⟨Nat.zero_le _, fun j u hj => by omega⟩
  · refine Sub.trans (sub_move 5 14 54 rfl rfl rfl (by decide)) ?_
    refine sub_weak ?_ ?_
    · exact weakH_row (rowEq (rfl)) (weakH_none _)
    · refine weakE_upd ?e6 ?r6 (weakE_upd ?e5 ?r5 (weakE_upd ?e4 ?r4 (weakE_upd ?e0 ?r0 (weakE_junk _ _))))
      case e0 => first | rfl | exact fI (by omega) | (simp_all)
      case r0 => intro h hh; cases hh
      case e4 => first | rfl | exact fI (by omega) | (simp_all)
      case r4 => intro h hh; cases hh
      case e5 => first | rfl | exact fI (by omega) | (first | rfl | (rw [hst]; exact ownEq (by simp)))
      case r5 => intro h hh; simp [refs] at hh; subst hh; rfl
      case e6 => first | rfl | exact fI (by omega) | (simp_all)
      case r6 => intro h hh; cases hh
  · rintro i ⟨hI, hJ⟩
    refine good_seq fun K6 hK6 => ?_
    refine good_seq fun K7 hK7 => ?_
    refine good_region rfl ?_
    refine ev_q rfl (q_move (by conv => lhs; whnf) ?_)
    refine ev_q rfl (q_move (by conv => lhs; whnf) ?_)
    refine ev_q rfl (q_len tEs86 rfl ?_)
    intro n8 hn8
    try simp only [List.length_map] at hn8
    refine ev_q rfl (q_int rfl rfl ?_)
    intro b9 hb9; cases b9
    · replace hb9 := dF hb9
      obtain rfl : i = (pieces 32 s).length := by omega
      have hall : ∀ p ∈ (pieces 32 s), prB p := fun p hp => by obtain ⟨j, hj⟩ := List.getElem?_of_mem hp; exact hJ j p (List.getElem?_eq_some_iff.1 hj).1 hj
      refine ev_nil (hK7 _ ?_); clear hK7
      refine good_condF rfl ?_
      refine good_exit ?_
      repeat (first | refine thenQ_exit ?_ | refine blockQ_pass rfl ?_)
      refine blockQ_exit (hK4 _ ?_); clear hK4
      refine good_seq fun K10 hK10 => ?_
      refine good_seq fun K11 hK11 => ?_
      refine good_region rfl ?_
      refine ev_q rfl (q_move (by conv => lhs; whnf) ?_)
      refine ev_q rfl (q_callB rfl rfl (by change ([.lst 2 (List.take (List.take (pieces 32 s).length (pieces 32 s)).length (((List.take (pieces 32 s).length (pieces 32 s)).map prV).map stp))] : List AV) = _; simp only [List.take_length]; rw [List.take_of_length_le (by simp)]) (D_spec_l09Ok ((pieces 32 s).map prV) (by rw [List.length_map]; omega)) ?_)
      intro b12 hb12; cases b12
      · first | replace hb12 := dF hb12 | skip
        have hee := rw_n (fun h => hb12 h.2)
        refine ev_q rfl (q_not rfl rfl ?_)
        refine ev_nil (hK11 _ ?_); clear hK11
        refine good_condT rfl ?_
        refine good_seq fun K13 hK13 => ?_
        refine good_region rfl ?_
        refine ev_q rfl (q_assign (by conv => lhs; whnf) ?_)
        refine ev_q rfl (q_assign (by conv => lhs; whnf) ?_)
        refine ev_nil (hK13 _ ?_); clear hK13
        refine good_ret ?_
        repeat (first | refine thenQ_ret ?_ | refine blockQ_ret ?_)
        refine fx_many rfl ?_
        refine fxs_tmp (by conv => lhs; whnf) ?_
        refine fxs_tmp (by conv => lhs; whnf) ?_
        refine fx_nil ?_
        clear hK6 hK10
        obtain ⟨e2, e⟩ := hee
        try rw [List.take_length]
        exact ⟨_, .tup (.cons (conv_nil rfl (by decide) (by rw [e]; rfl)) (.cons (conv_eq (by first | rfl | exact fT (by first | exact e2 | assumption) | exact fF (by first | exact e2 | assumption) | exact fT' (by first | exact e2 | assumption) | (exfalso; first | omega | grind))) (.nil))), weakH_row (rowEq (by first | (rw [e]; done) | (rw [e]; rfl))) (weakH_none _), refsIn_ok rfl⟩
      · first | replace hb12 := dT hb12 | skip
        have hee := rw_y ⟨hall, hb12⟩
        refine ev_q rfl (q_not rfl rfl ?_)
        refine ev_nil (hK11 _ ?_); clear hK11
        refine good_condF rfl ?_
        refine good_skip (hK10 _ ?_); clear hK10
        refine good_seq fun K14 hK14 => ?_
        refine good_region rfl ?_
        refine ev_q rfl (q_move (by conv => lhs; whnf) ?_)
        refine ev_q rfl (q_assign (by conv => lhs; whnf) ?_)
        refine ev_q rfl (q_assign (by conv => lhs; whnf) ?_)
        refine ev_nil (hK14 _ ?_); clear hK14
        refine good_weak (sub_move 2 54 900003 rfl rfl rfl (by decide)) ?_
        refine good_ret ?_
        repeat (first | refine thenQ_ret ?_ | refine blockQ_ret ?_)
        refine fx_many rfl ?_
        refine fxs_tmp (by conv => lhs; whnf) ?_
        refine fxs_tmp (by conv => lhs; whnf) ?_
        refine fx_nil ?_
        clear hK6
        obtain ⟨e2, e⟩ := hee
        try rw [List.take_length]
        exact ⟨_, .tup (.cons (conv_eq (by first | rfl | (rw [e]; done) | (rw [e]; rfl) | exact ownEq (by first | omega | simp_all))) (.cons (conv_eq (by first | rfl | exact fT (by first | exact e2 | assumption) | exact fF (by first | exact e2 | assumption) | exact fT' (by first | exact e2 | assumption) | (exfalso; first | omega | grind))) (.nil))), weakH_row (rowEq (by first | (rw [e]; done) | (rw [e]; rfl))) (weakH_none _), refsIn_ok rfl⟩
    · replace hb9 := dT hb9
      obtain ⟨q, hq⟩ := getL (xs := (pieces 32 s)) (n := (i : Int)) (by omega) (by omega)
      replace hq : (pieces 32 s)[i]? = some q := hq
      have hst := takeS hq
      have hqm := List.mem_of_getElem? hq
      have hqz := pc_sz hqm
      have hcz := cutB_sz (c := 58) (s := q)
      refine ev_nil (hK7 _ ?_); clear hK7
      refine good_condT rfl ?_
      refine good_skip (hK6 _ ?_); clear hK6
      refine good_seq fun K15 hK15 => ?_
      refine good_block ?_
      refine good_seq fun K16 hK16 => ?_
      refine good_region rfl ?_
      refine ev_q rfl (q_move (by conv => lhs; whnf) ?_)
      refine ev_q rfl (q_move (by conv => lhs; whnf) ?_)
      refine ev_q rfl (q_idx tE86 rfl rfl (by first | decide | exact Int.natCast_nonneg _) (by exact map_get hq) rfl ?_)
      refine ev_q rfl (q_load tA9 rfl ?_)
      refine ev_q rfl (q_call rfl rfl (rfl) (D_spec_l01Split 58 q (by omega)) rfl ?_)
      refine ev_q rfl (q_assign (by conv => lhs; whnf) ?_)
      refine ev_nil (hK16 _ ?_); clear hK16
      refine good_seq fun K17 hK17 => ?_
      refine good_seq fun K18 hK18 => ?_
      refine good_region rfl ?_
      refine ev_q rfl (q_move (by conv => lhs; whnf) ?_)
      refine ev_q rfl (q_len tEs86 rfl ?_)
      intro n19 hn19
      try simp only [List.length_map] at hn19
      refine ev_q rfl (q_int rfl rfl ?_)
      intro b20 hb20; cases b20
      · replace hb20 := neF hb20
        have hx2 := pr_len (q := q) (by omega)
        refine ev_nil (hK18 _ ?_); clear hK18
        refine good_condF rfl ?_
        refine good_skip (hK17 _ ?_); clear hK17
        refine good_seq fun K21 hK21 => ?_
        refine good_region rfl ?_
        refine ev_q rfl (q_move (by conv => lhs; whnf) ?_)
        refine ev_q rfl (q_idx tE86 rfl rfl (by first | decide | exact Int.natCast_nonneg _) (by rw [hx2]; rfl) rfl ?_)
        refine ev_q rfl (q_load tA9 rfl ?_)
        refine ev_q rfl (q_call rfl rfl (rfl) (D_spec_ReadDecimal (cutA 58 q) (by omega)) rfl ?_)
        refine ev_q rfl (q_move (by conv => lhs; whnf) ?_)
        refine ev_q rfl (q_extractI rfl rfl ?_)
        intro n22 hn22
        have h34 := hn22
        refine ev_q rfl (q_extractB rfl rfl ?_)
        intro b23 hb23; cases b23
        · first | replace hb23 := dF hb23 | skip
          have hee := rw_n (fun h => hb23 (h.1 q hqm).1)
          refine ev_q rfl (q_assign (by conv => lhs; whnf) ?_)
          refine ev_q rfl (q_assign (by conv => lhs; whnf) ?_)
          refine ev_nil (hK21 _ ?_); clear hK21
          refine good_seq fun K24 hK24 => ?_
          refine good_region rfl ?_
          refine ev_q rfl (q_move (by conv => lhs; whnf) ?_)
          refine ev_q rfl (q_idx tE86 rfl rfl (by first | decide | exact Int.natCast_nonneg _) (by rw [hx2]; rfl) rfl ?_)
          refine ev_q rfl (q_load tA9 rfl ?_)
          refine ev_q rfl (q_call rfl rfl (rfl) (D_spec_ReadDecimal (cutB 58 q) (by omega)) rfl ?_)
          refine ev_q rfl (q_move (by conv => lhs; whnf) ?_)
          refine ev_q rfl (q_extractI rfl rfl ?_)
          intro n25 hn25
          have h41 := hn25
          refine ev_q rfl (q_extractB rfl rfl ?_)
          intro b26 hb26; cases b26
          · first | replace hb26 := dF hb26 | skip
            have hee := rw_n (fun h => hb26 (h.1 q hqm).2)
            refine ev_q rfl (q_assign (by conv => lhs; whnf) ?_)
            refine ev_q rfl (q_assign (by conv => lhs; whnf) ?_)
            refine ev_nil (hK24 _ ?_); clear hK24
            refine good_seq fun K27 hK27 => ?_
            refine good_seq fun K28 hK28 => ?_
            refine good_region rfl ?_
            refine ev_q rfl (q_move (by conv => lhs; whnf) ?_)
            refine ev_q rfl (q_not rfl rfl ?_)
            refine ev_q rfl (q_move (by conv => lhs; whnf) ?_)
            refine ev_skip rfl ?_
            refine ev_skip rfl ?_
            refine ev_q rfl (q_pickT rfl (by conv => lhs; whnf) ?_)
            refine ev_nil (hK28 _ ?_); clear hK28
            refine good_condT rfl ?_
            refine good_seq fun K29 hK29 => ?_
            refine good_region rfl ?_
            refine ev_q rfl (q_assign (by conv => lhs; whnf) ?_)
            refine ev_q rfl (q_assign (by conv => lhs; whnf) ?_)
            refine ev_nil (hK29 _ ?_); clear hK29
            refine good_ret ?_
            repeat (first | refine thenQ_ret ?_ | refine blockQ_ret ?_)
            refine fx_many rfl ?_
            refine fxs_tmp (by conv => lhs; whnf) ?_
            refine fxs_tmp (by conv => lhs; whnf) ?_
            refine fx_nil ?_
            clear hK4 hK15 hK27
            obtain ⟨e2, e⟩ := hee
            try rw [List.take_length]
            exact ⟨_, .tup (.cons (conv_nil rfl (by decide) (by rw [e]; rfl)) (.cons (conv_eq (by first | rfl | exact fT (by first | exact e2 | assumption) | exact fF (by first | exact e2 | assumption) | exact fT' (by first | exact e2 | assumption) | (exfalso; first | omega | grind))) (.nil))), weakH_row (rowEq (by first | (rw [e]; done) | (rw [e]; rfl))) (weakH_none _), refsIn_ok rfl⟩
          · first | replace hb26 := dT hb26 | skip
            first | have hpq : prB q := ⟨hA, hb26⟩ | skip
            refine ev_q rfl (q_assign (by conv => lhs; whnf) ?_)
            refine ev_q rfl (q_assign (by conv => lhs; whnf) ?_)
            refine ev_nil (hK24 _ ?_); clear hK24
            refine good_seq fun K30 hK30 => ?_
            refine good_seq fun K31 hK31 => ?_
            refine good_region rfl ?_
            refine ev_q rfl (q_move (by conv => lhs; whnf) ?_)
            refine ev_q rfl (q_not rfl rfl ?_)
            refine ev_q rfl (q_move (by conv => lhs; whnf) ?_)
            refine ev_skip rfl ?_
            refine ev_skip rfl ?_
            refine ev_q rfl (q_pickT rfl (by conv => lhs; whnf) ?_)
            refine ev_nil (hK31 _ ?_); clear hK31
            refine good_condT rfl ?_
            refine good_seq fun K32 hK32 => ?_
            refine good_region rfl ?_
            refine ev_q rfl (q_assign (by conv => lhs; whnf) ?_)
            refine ev_q rfl (q_assign (by conv => lhs; whnf) ?_)
            refine ev_nil (hK32 _ ?_); clear hK32
            refine good_ret ?_
            repeat (first | refine thenQ_ret ?_ | refine blockQ_ret ?_)
            refine fx_many rfl ?_
            refine fxs_tmp (by conv => lhs; whnf) ?_
            refine fxs_tmp (by conv => lhs; whnf) ?_
            refine fx_nil ?_
            clear hK4 hK15 hK30
            obtain ⟨e2, e⟩ := hee
            try rw [List.take_length]
            exact ⟨_, .tup (.cons (conv_nil rfl (by decide) (by rw [e]; rfl)) (.cons (conv_eq (by first | rfl | exact fT (by first | exact e2 | assumption) | exact fF (by first | exact e2 | assumption) | exact fT' (by first | exact e2 | assumption) | (exfalso; first | omega | grind))) (.nil))), weakH_row (rowEq (by first | (rw [e]; done) | (rw [e]; rfl))) (weakH_none _), refsIn_ok rfl⟩
        · first | replace hb23 := dT hb23 | skip
          have hA : rdB (cutA 58 q) := hb23
          refine ev_q rfl (q_assign (by conv => lhs; whnf) ?_)
          refine ev_q rfl (q_assign (by conv => lhs; whnf) ?_)
          refine ev_nil (hK21 _ ?_); clear hK21
          refine good_seq fun K33 hK33 => ?_
          refine good_region rfl ?_
          refine ev_q rfl (q_move (by conv => lhs; whnf) ?_)
          refine ev_q rfl (q_idx tE86 rfl rfl (by first | decide | exact Int.natCast_nonneg _) (by rw [hx2]; rfl) rfl ?_)
          refine ev_q rfl (q_load tA9 rfl ?_)
          refine ev_q rfl (q_call rfl rfl (rfl) (D_spec_ReadDecimal (cutB 58 q) (by omega)) rfl ?_)
          refine ev_q rfl (q_move (by conv => lhs; whnf) ?_)
          refine ev_q rfl (q_extractI rfl rfl ?_)
          intro n34 hn34
          have h41 := hn34
          refine ev_q rfl (q_extractB rfl rfl ?_)
          intro b35 hb35; cases b35
          · first | replace hb35 := dF hb35 | skip
            have hee := rw_n (fun h => hb35 (h.1 q hqm).2)
            refine ev_q rfl (q_assign (by conv => lhs; whnf) ?_)
            refine ev_q rfl (q_assign (by conv => lhs; whnf) ?_)
            refine ev_nil (hK33 _ ?_); clear hK33
            refine good_seq fun K36 hK36 => ?_
            refine good_seq fun K37 hK37 => ?_
            refine good_region rfl ?_
            refine ev_q rfl (q_move (by conv => lhs; whnf) ?_)
            refine ev_q rfl (q_not rfl rfl ?_)
            refine ev_q rfl (q_move (by conv => lhs; whnf) ?_)
            refine ev_q rfl (q_move (by conv => lhs; whnf) ?_)
            refine ev_q rfl (q_not rfl rfl ?_)
            refine ev_q rfl (q_pickF rfl (by conv => lhs; whnf) ?_)
            refine ev_nil (hK37 _ ?_); clear hK37
            refine good_condT rfl ?_
            refine good_seq fun K38 hK38 => ?_
            refine good_region rfl ?_
            refine ev_q rfl (q_assign (by conv => lhs; whnf) ?_)
            refine ev_q rfl (q_assign (by conv => lhs; whnf) ?_)
            refine ev_nil (hK38 _ ?_); clear hK38
            refine good_ret ?_
            repeat (first | refine thenQ_ret ?_ | refine blockQ_ret ?_)
            refine fx_many rfl ?_
            refine fxs_tmp (by conv => lhs; whnf) ?_
            refine fxs_tmp (by conv => lhs; whnf) ?_
            refine fx_nil ?_
            clear hK4 hK15 hK36
            obtain ⟨e2, e⟩ := hee
            try rw [List.take_length]
            exact ⟨_, .tup (.cons (conv_nil rfl (by decide) (by rw [e]; rfl)) (.cons (conv_eq (by first | rfl | exact fT (by first | exact e2 | assumption) | exact fF (by first | exact e2 | assumption) | exact fT' (by first | exact e2 | assumption) | (exfalso; first | omega | grind))) (.nil))), weakH_row (rowEq (by first | (rw [e]; done) | (rw [e]; rfl))) (weakH_none _), refsIn_ok rfl⟩
          · first | replace hb35 := dT hb35 | skip
            first | have hpq : prB q := ⟨hA, hb35⟩ | skip
            refine ev_q rfl (q_assign (by conv => lhs; whnf) ?_)
            refine ev_q rfl (q_assign (by conv => lhs; whnf) ?_)
            refine ev_nil (hK33 _ ?_); clear hK33
            refine good_seq fun K39 hK39 => ?_
            refine good_seq fun K40 hK40 => ?_
            refine good_region rfl ?_
            refine ev_q rfl (q_move (by conv => lhs; whnf) ?_)
            refine ev_q rfl (q_not rfl rfl ?_)
            refine ev_q rfl (q_move (by conv => lhs; whnf) ?_)
            refine ev_q rfl (q_move (by conv => lhs; whnf) ?_)
            refine ev_q rfl (q_not rfl rfl ?_)
            refine ev_q rfl (q_pickF rfl (by conv => lhs; whnf) ?_)
            refine ev_nil (hK40 _ ?_); clear hK40
            refine good_condF rfl ?_
            refine good_skip (hK39 _ ?_); clear hK39
            refine good_region rfl ?_
            refine ev_q rfl (q_move (by conv => lhs; whnf) ?_)
            refine ev_q rfl (q_move (by conv => lhs; whnf) ?_)
            refine ev_q rfl (q_move (by conv => lhs; whnf) ?_)
            refine ev_k rfl (k_build zA83 pl83 (rfl) ?_)
            refine ev_k rfl (k_lit tE31 zA83 rfl rfl (by decide) (by decide) rfl rfl rfl ?_)
            refine ev_k rfl (k_app tApp31 rfl rfl (by simp) rfl (.inr rfl) (by first | (simp [maxLen]; done) | (simp [maxLen]; omega)) (by first | (simp; done) | (simp; omega)) ?_)
            refine ev_q rfl (q_assign (by conv => lhs; whnf) ?_)
            refine ev_nil (hK15 _ ?_); clear hK15
            refine good_region rfl ?_
            refine ev_q rfl (q_move (by conv => lhs; whnf) ?_)
            refine ev_q rfl (q_int rfl rfl ?_)
            intro n41 hn41
            replace hn41 := in64 hn41 (by omega) (by omega)
            refine ev_q rfl (q_assign (by conv => lhs; whnf) ?_)
            refine ev_nil ?_
            clear hK4
            refine ⟨i + 1, ?_, ?_, ?_⟩
            · exact ⟨by omega, all_extI (Q := fun _ (q : ByteArray) => prB q) hJ hq hpq⟩
            · first | omega | (simp only []; omega) | (dsimp only; omega)
            · refine sub_weak ?_ ?_
              · exact weakH_row (rowEq (appG (p := prV q) (by rw [hst, List.map_append]; rfl) (stpE2 h34 h41))) (weakH_none _)
              · refine weakE_upd ?e6 ?r6 (weakE_upd ?e5 ?r5 (weakE_upd ?e4 ?r4 (weakE_upd ?e0 ?r0 (weakE_junk _ _))))
                case e0 => first | rfl | exact fI (by omega) | (simp_all)
                case r0 => intro h hh; cases hh
                case e4 => first | rfl | exact fI (by omega) | (simp_all)
                case r4 => intro h hh; cases hh
                case e5 => first | rfl | exact fI (by omega) | (first | rfl | (rw [hst]; exact ownEq (by simp)))
                case r5 => intro h hh; simp [refs] at hh; subst hh; rfl
                case e6 => first | rfl | exact fI (by omega) | (simp_all)
                case r6 => intro h hh; cases hh
      · replace hb20 := neT hb20
        have hee := rw_n (fun h => pr_no (by omega) (h.1 q hqm))
        refine ev_nil (hK18 _ ?_); clear hK18
        refine good_condT rfl ?_
        refine good_seq fun K42 hK42 => ?_
        refine good_region rfl ?_
        refine ev_q rfl (q_assign (by conv => lhs; whnf) ?_)
        refine ev_q rfl (q_assign (by conv => lhs; whnf) ?_)
        refine ev_nil (hK42 _ ?_); clear hK42
        refine good_ret ?_
        repeat (first | refine thenQ_ret ?_ | refine blockQ_ret ?_)
        refine fx_many rfl ?_
        refine fxs_tmp (by conv => lhs; whnf) ?_
        refine fxs_tmp (by conv => lhs; whnf) ?_
        refine fx_nil ?_
        clear hK4 hK15 hK17
        obtain ⟨e2, e⟩ := hee
        try rw [List.take_length]
        exact ⟨_, .tup (.cons (conv_nil rfl (by decide) (by rw [e]; rfl)) (.cons (conv_eq (by first | rfl | exact fT (by first | exact e2 | assumption) | exact fF (by first | exact e2 | assumption) | exact fT' (by first | exact e2 | assumption) | (exfalso; first | omega | grind))) (.nil))), weakH_row (rowEq (by first | (rw [e]; done) | (rw [e]; rfl))) (weakH_none _), refsIn_ok rfl⟩
theorem D_spec_ReadWave (s : ByteArray) (hs : s.size ≤ 1048576) : Den Tryd.prog 31 [.s (.string s)] (.tup [.lst 2 ((rwL s).map stp), .s (.bool (decide (rwP s)))]) :=
  den_of_denX (D_spec_ReadWave_X s hs) (by change (some (.tup [.lst 2 (List.take (rwL s).length ((rwL s).map stp)), .s (.bool (decide (rwP s)))]) : Option AV) = some (.tup [.lst 2 ((rwL s).map stp), .s (.bool (decide (rwP s)))]); simp only [takeMap])

-- laws.markStepS
set_option maxRecDepth 20000 in
set_option maxHeartbeats 2000000 in
theorem D_laws_markStepS (xs : List (Int × Int)) (k : Int) (hx : xs.length ≤ 8796093022208) (hk : 0 ≤ k ∧ k ≤ 1000000000000) : DenX Tryd.prog 33 [(1000000, .row 83 2 (xs.map stp))] [.own 1000000 xs.length, .s (.int .i64 k)] [(1000000, .row 83 2 (mkW k xs xs.length))] (.s (.int .i64 (k + 2 * xs.length))) := by
  refine denX_of_good Tryd.func33 (by decide) rfl (Nat.le_of_ble_eq_true rfl) (Nat.le_of_ble_eq_true rfl) rfl ?_
  refine good_seq fun K1 hK1 => ?_
  refine good_region rfl ?_
  refine ev_q rfl (q_assign (by conv => lhs; whnf) ?_)
  refine ev_nil (hK1 _ ?_); clear hK1
  refine good_seq fun K2 hK2 => ?_
  refine good_seq fun K3 hK3 => ?_
  refine good_region rfl ?_
  refine ev_q rfl (q_assign (by conv => lhs; whnf) ?_)
  refine ev_nil (hK3 _ ?_); clear hK3
  refine good_block ?_
  refine good_loop (α := Nat) (fun i => { env := upd (upd (upd ((fun _ => .junk)) 0 (.own 1000000 xs.length)) 1 (.s (.int .i64 (k + 2 * i)))) 5 (.s (.int .i64 i)), H := upd ((fun _ => none)) 1000000 (some (.row 83 2 (mkW k xs i))) }) (fun i => i ≤ xs.length) (fun i => xs.length - i) 0 ?_ ?_ ?_
  · show 0 ≤ _; omega
  · refine sub_weak ?_ ?_
    · exact weakH_row (rowEq (mkW0.symm)) (weakH_none _)
    · refine weakE_upd ?e5 ?r5 (weakE_upd ?e1 ?r1 (weakE_upd ?e0 ?r0 (weakE_junk _ _)))
      case e0 => first | rfl | exact fI (by omega) | (simp_all)
      case r0 => intro h hh; simp [refs] at hh; subst hh; rfl
      case e1 => first | rfl | exact fI (by omega) | (simp_all)
      case r1 => intro h hh; cases hh
      case e5 => first | rfl | exact fI (by omega) | (simp_all)
      case r5 => intro h hh; cases hh
  · rintro i hI
    refine good_seq fun K4 hK4 => ?_
    refine good_seq fun K5 hK5 => ?_
    refine good_region rfl ?_
    refine ev_q rfl (q_move (by conv => lhs; whnf) ?_)
    refine ev_q rfl (q_move (by conv => lhs; whnf) ?_)
    refine ev_q rfl (q_len tEs31 rfl ?_)
    intro n6 hn6
    try simp only [List.length_map] at hn6
    refine ev_q rfl (q_int rfl rfl ?_)
    intro b7 hb7; cases b7
    · replace hb7 := dF hb7
      refine ev_nil (hK5 _ ?_); clear hK5
      refine good_condF rfl ?_
      refine good_exit ?_
      repeat (first | refine thenQ_exit ?_ | refine blockQ_pass rfl ?_)
      refine blockQ_exit (hK2 _ ?_); clear hK2
      refine good_seq fun K8 hK8 => ?_
      refine good_region rfl ?_
      refine ev_q rfl (q_move (by conv => lhs; whnf) ?_)
      refine ev_q rfl (q_assign (by conv => lhs; whnf) ?_)
      refine ev_nil (hK8 _ ?_); clear hK8
      refine good_ret ?_
      repeat (first | refine thenQ_ret ?_ | refine blockQ_ret ?_)
      refine fx_tmp rfl (by conv => lhs; whnf) ?_
      clear hK4
      exact ⟨_, conv_eq (by first | rfl | exact fI (by first | omega | grind) | (exfalso; first | omega | grind)), weakH_row (rowEq (by rw [show i = xs.length by omega])) (weakH_none _), refsIn_ok rfl⟩
    · replace hb7 := dT hb7
      obtain ⟨p, hp⟩ := getL (xs := xs) (n := (i : Int)) (by omega) (by omega)
      replace hp : xs[i]? = some p := hp
      refine ev_nil (hK5 _ ?_); clear hK5
      refine good_condT rfl ?_
      refine good_skip (hK4 _ ?_); clear hK4
      refine good_seq fun K9 hK9 => ?_
      refine good_block ?_
      refine good_seq fun K10 hK10 => ?_
      refine good_region rfl ?_
      refine ev_q rfl (q_move (by conv => lhs; whnf) ?_)
      refine ev_q rfl (q_move (by conv => lhs; whnf) ?_)
      refine ev_q rfl (q_move (by conv => lhs; whnf) ?_)
      refine ev_q rfl (q_idxO tE31 rfl rfl rfl (by exact Int.natCast_nonneg _) (by omega) rfl ?_)
      refine ev_q rfl (q_fieldAddrE fO83_0 rfl rfl ?_)
      refine ev_k rfl (k_storeE sz2 rfl (by conv => lhs; whnf) rfl rfl rfl (Nat.le_of_ble_eq_true rfl) rfl (by first | exact mkW_get hp | exact setGet (by (try simp only [List.length_set]); rw [mkW_len (by omega)]; omega)) (Nat.le_of_ble_eq_true rfl) rfl ?_)
      refine ev_nil (hK10 _ ?_); clear hK10
      refine good_seq fun K11 hK11 => ?_
      refine good_region rfl ?_
      refine ev_q rfl (q_move (by conv => lhs; whnf) ?_)
      refine ev_q rfl (q_int rfl rfl ?_)
      intro n12 hn12
      replace hn12 := in64 hn12 (by omega) (by omega)
      refine ev_q rfl (q_assign (by conv => lhs; whnf) ?_)
      refine ev_nil (hK11 _ ?_); clear hK11
      refine good_seq fun K13 hK13 => ?_
      refine good_region rfl ?_
      refine ev_q rfl (q_move (by conv => lhs; whnf) ?_)
      refine ev_q rfl (q_move (by conv => lhs; whnf) ?_)
      refine ev_q rfl (q_move (by conv => lhs; whnf) ?_)
      refine ev_q rfl (q_idxO tE31 rfl rfl rfl (by exact Int.natCast_nonneg _) (by omega) rfl ?_)
      refine ev_q rfl (q_fieldAddrE fO83_1 rfl rfl ?_)
      refine ev_k rfl (k_storeE sz2 rfl (by conv => lhs; whnf) rfl rfl rfl (Nat.le_of_ble_eq_true rfl) rfl (by first | exact mkW_get hp | exact setGet (by (try simp only [List.length_set]); rw [mkW_len (by omega)]; omega)) (Nat.le_of_ble_eq_true rfl) rfl ?_)
      refine ev_nil (hK13 _ ?_); clear hK13
      refine good_region rfl ?_
      refine ev_q rfl (q_move (by conv => lhs; whnf) ?_)
      refine ev_q rfl (q_int rfl rfl ?_)
      intro n14 hn14
      replace hn14 := in64 hn14 (by omega) (by omega)
      refine ev_q rfl (q_assign (by conv => lhs; whnf) ?_)
      refine ev_nil (hK9 _ ?_); clear hK9
      refine good_region rfl ?_
      refine ev_q rfl (q_move (by conv => lhs; whnf) ?_)
      refine ev_q rfl (q_int rfl rfl ?_)
      intro n15 hn15
      replace hn15 := in64 hn15 (by omega) (by omega)
      refine ev_q rfl (q_assign (by conv => lhs; whnf) ?_)
      refine ev_nil ?_
      clear hK2
      refine ⟨i + 1, ?_, ?_, ?_⟩
      · show _ ≤ _; omega
      · first | omega | (simp only []; omega) | (dsimp only; omega)
      · refine sub_weak ?_ ?_
        · exact weakH_row (rowEq (mkW_step (by omega) (by omega))) (weakH_none _)
        · refine weakE_upd ?e5 ?r5 (weakE_upd ?e1 ?r1 (weakE_upd ?e0 ?r0 (weakE_junk _ _)))
          case e0 => first | rfl | exact fI (by omega) | (simp_all)
          case r0 => intro h hh; simp [refs] at hh; subst hh; rfl
          case e1 => first | rfl | exact fI (by omega) | (simp_all)
          case r1 => intro h hh; cases hh
          case e5 => first | rfl | exact fI (by omega) | (simp_all)
          case r5 => intro h hh; cases hh

-- laws.heldStepS
set_option maxRecDepth 20000 in
set_option maxHeartbeats 2000000 in
theorem D_laws_heldStepS (xs : List (Int × Int)) (k : Int) (hx : xs.length ≤ 8796093022208) (hk : 0 ≤ k ∧ k ≤ 1000000000000) : Den Tryd.prog 34 [.lst 2 (mkW k xs xs.length), .s (.int .i64 k)] (.s (.int .i64 (k + 2 * xs.length))) := by
  have hln := mkW_len (k := k) (xs := xs) (Nat.le_refl _)
  refine den_of_good Tryd.func34 (by decide) rfl (Nat.le_of_ble_eq_true rfl) (Nat.le_of_ble_eq_true rfl) ?_
  refine good_seq fun K1 hK1 => ?_
  refine good_region rfl ?_
  refine ev_q rfl (q_assign (by conv => lhs; whnf) ?_)
  refine ev_nil (hK1 _ ?_); clear hK1
  refine good_seq fun K2 hK2 => ?_
  refine good_seq fun K3 hK3 => ?_
  refine good_region rfl ?_
  refine ev_q rfl (q_assign (by conv => lhs; whnf) ?_)
  refine ev_nil (hK3 _ ?_); clear hK3
  refine good_block ?_
  refine good_loop (α := Nat) (fun i => { env := upd (upd (upd ((fun _ => .junk)) 0 (.lst 2 (mkW k xs xs.length))) 1 (.s (.int .i64 (k + 2 * i)))) 5 (.s (.int .i64 i)), H := fun _ => none }) (fun i => i ≤ xs.length) (fun i => xs.length - i) 0 ?_ ?_ ?_
  · show 0 ≤ _; omega
  · refine sub_weak ?_ ?_
    · exact weakH_none _
    · refine weakE_upd ?e5 ?r5 (weakE_upd ?e1 ?r1 (weakE_upd ?e0 ?r0 (weakE_junk _ _)))
      case e0 => first | rfl | exact fI (by omega) | (simp_all)
      case r0 => intro h hh; cases hh
      case e1 => first | rfl | exact fI (by omega) | (simp_all)
      case r1 => intro h hh; cases hh
      case e5 => first | rfl | exact fI (by omega) | (simp_all)
      case r5 => intro h hh; cases hh
  · rintro i hI
    refine good_seq fun K4 hK4 => ?_
    refine good_seq fun K5 hK5 => ?_
    refine good_region rfl ?_
    refine ev_q rfl (q_move (by conv => lhs; whnf) ?_)
    refine ev_q rfl (q_move (by conv => lhs; whnf) ?_)
    refine ev_q rfl (q_len tEs31 rfl ?_)
    intro n6 hn6
    try simp only [List.length_map] at hn6
    rw [hln] at hn6
    refine ev_q rfl (q_int rfl rfl ?_)
    intro b7 hb7; cases b7
    · replace hb7 := dF hb7
      refine ev_nil (hK5 _ ?_); clear hK5
      refine good_condF rfl ?_
      refine good_exit ?_
      repeat (first | refine thenQ_exit ?_ | refine blockQ_pass rfl ?_)
      refine blockQ_exit (hK2 _ ?_); clear hK2
      refine good_seq fun K8 hK8 => ?_
      refine good_region rfl ?_
      refine ev_q rfl (q_move (by conv => lhs; whnf) ?_)
      refine ev_q rfl (q_assign (by conv => lhs; whnf) ?_)
      refine ev_nil (hK8 _ ?_); clear hK8
      refine good_ret ?_
      repeat (first | refine thenQ_ret ?_ | refine blockQ_ret ?_)
      refine ret_tmp (st := _) rfl (by conv => lhs; whnf) rfl ?_
      clear hK4
      first | exact fI (by omega) | (exfalso; first | omega | contradiction)
    · replace hb7 := dT hb7
      refine ev_nil (hK5 _ ?_); clear hK5
      refine good_condT rfl ?_
      refine good_skip (hK4 _ ?_); clear hK4
      refine good_seq fun K9 hK9 => ?_
      refine good_block ?_
      refine good_seq fun K10 hK10 => ?_
      refine good_seq fun K11 hK11 => ?_
      refine good_region rfl ?_
      refine ev_q rfl (q_move (by conv => lhs; whnf) ?_)
      refine ev_q rfl (q_move (by conv => lhs; whnf) ?_)
      refine ev_q rfl (q_idx tE31 rfl rfl (by exact Int.natCast_nonneg _) (by exact mkW_at (by omega)) rfl ?_)
      refine ev_q rfl (q_fieldAddr fO83_0 rfl rfl ?_)
      refine ev_q rfl (q_load tA2 rfl ?_)
      refine ev_q rfl (q_move (by conv => lhs; whnf) ?_)
      refine ev_q rfl (q_int rfl rfl ?_)
      intro b12 hb12; cases b12
      · replace hb12 := neF hb12
        refine ev_nil (hK11 _ ?_); clear hK11
        refine good_condF rfl ?_
        refine good_skip (hK10 _ ?_); clear hK10
        refine good_seq fun K13 hK13 => ?_
        refine good_region rfl ?_
        refine ev_q rfl (q_move (by conv => lhs; whnf) ?_)
        refine ev_q rfl (q_int rfl rfl ?_)
        intro n14 hn14
        replace hn14 := in64 hn14 (by omega) (by omega)
        refine ev_q rfl (q_assign (by conv => lhs; whnf) ?_)
        refine ev_nil (hK13 _ ?_); clear hK13
        refine good_seq fun K15 hK15 => ?_
        refine good_seq fun K16 hK16 => ?_
        refine good_region rfl ?_
        refine ev_q rfl (q_move (by conv => lhs; whnf) ?_)
        refine ev_q rfl (q_move (by conv => lhs; whnf) ?_)
        refine ev_q rfl (q_idx tE31 rfl rfl (by exact Int.natCast_nonneg _) (by exact mkW_at (by omega)) rfl ?_)
        refine ev_q rfl (q_fieldAddr fO83_1 rfl rfl ?_)
        refine ev_q rfl (q_load tA2 rfl ?_)
        refine ev_q rfl (q_move (by conv => lhs; whnf) ?_)
        refine ev_q rfl (q_int rfl rfl ?_)
        intro b17 hb17; cases b17
        · replace hb17 := neF hb17
          refine ev_nil (hK16 _ ?_); clear hK16
          refine good_condF rfl ?_
          refine good_skip (hK15 _ ?_); clear hK15
          refine good_region rfl ?_
          refine ev_q rfl (q_move (by conv => lhs; whnf) ?_)
          refine ev_q rfl (q_int rfl rfl ?_)
          intro n18 hn18
          replace hn18 := in64 hn18 (by omega) (by omega)
          refine ev_q rfl (q_assign (by conv => lhs; whnf) ?_)
          refine ev_nil (hK9 _ ?_); clear hK9
          refine good_region rfl ?_
          refine ev_q rfl (q_move (by conv => lhs; whnf) ?_)
          refine ev_q rfl (q_int rfl rfl ?_)
          intro n19 hn19
          replace hn19 := in64 hn19 (by omega) (by omega)
          refine ev_q rfl (q_assign (by conv => lhs; whnf) ?_)
          refine ev_nil ?_
          clear hK2
          refine ⟨i + 1, ?_, ?_, ?_⟩
          · show _ ≤ _; omega
          · first | omega | (simp only []; omega) | (dsimp only; omega)
          · refine sub_weak ?_ ?_
            · exact weakH_none _
            · refine weakE_upd ?e5 ?r5 (weakE_upd ?e1 ?r1 (weakE_upd ?e0 ?r0 (weakE_junk _ _)))
              case e0 => first | rfl | exact fI (by omega) | (simp_all)
              case r0 => intro h hh; cases hh
              case e1 => first | rfl | exact fI (by omega) | (simp_all)
              case r1 => intro h hh; cases hh
              case e5 => first | rfl | exact fI (by omega) | (simp_all)
              case r5 => intro h hh; cases hh
        · replace hb17 := neT hb17
          refine ev_nil (hK16 _ ?_); clear hK16
          refine good_condT rfl ?_
          refine good_seq fun K20 hK20 => ?_
          refine good_region rfl ?_
          refine ev_q rfl (q_assign (by conv => lhs; whnf) ?_)
          refine ev_nil (hK20 _ ?_); clear hK20
          refine good_ret ?_
          repeat (first | refine thenQ_ret ?_ | refine blockQ_ret ?_)
          refine ret_tmp (st := _) rfl (by conv => lhs; whnf) rfl ?_
          clear hK2 hK9 hK15
          first | exact fI (by omega) | (exfalso; first | omega | contradiction)
      · replace hb12 := neT hb12
        refine ev_nil (hK11 _ ?_); clear hK11
        refine good_condT rfl ?_
        refine good_seq fun K21 hK21 => ?_
        refine good_region rfl ?_
        refine ev_q rfl (q_assign (by conv => lhs; whnf) ?_)
        refine ev_nil (hK21 _ ?_); clear hK21
        refine good_ret ?_
        repeat (first | refine thenQ_ret ?_ | refine blockQ_ret ?_)
        refine ret_tmp (st := _) rfl (by conv => lhs; whnf) rfl ?_
        clear hK2 hK9 hK10
        first | exact fI (by omega) | (exfalso; first | omega | contradiction)

-- laws.FnExactReadWave
set_option maxRecDepth 20000 in
set_option maxHeartbeats 2000000 in
theorem D_laws_FnExactReadWave (s : ByteArray) (hs : s.size ≤ 140737488351232) : Den Tryd.prog 8 [.s (.string s)] (.s (.bool true)) := by
  refine den_of_good Tryd.func8 (by decide) rfl (Nat.le_of_ble_eq_true rfl) (Nat.le_of_ble_eq_true rfl) ?_
  refine good_seq fun K1 hK1 => ?_
  refine good_region rfl ?_
  refine ev_q rfl (q_assign (by conv => lhs; whnf) ?_)
  refine ev_nil (hK1 _ ?_); clear hK1
  refine good_seq fun K2 hK2 => ?_
  refine good_seq fun K3 hK3 => ?_
  refine good_region rfl ?_
  refine ev_q rfl (q_move (by conv => lhs; whnf) ?_)
  refine ev_q rfl (q_lenS tStr9 rfl ?_)
  intro n4 hn4
  refine ev_q rfl (q_int rfl rfl ?_)
  intro b5 hb5; cases b5
  · replace hb5 := dF hb5
    refine ev_nil (hK3 _ ?_); clear hK3
    refine good_condF rfl ?_
    refine good_skip (hK2 _ ?_); clear hK2
    refine good_seq fun K6 hK6 => ?_
    refine good_region rfl ?_
    refine ev_q rfl (q_move (by conv => lhs; whnf) ?_)
    refine ev_q rfl (q_call rfl rfl (rfl) (D_spec_ReadWave s (by omega)) rfl ?_)
    refine ev_q rfl (q_move (by conv => lhs; whnf) ?_)
    refine ev_q rfl (q_extract rfl rfl ?_)
    refine ev_q rfl (q_extractB rfl rfl ?_)
    intro b7 hb7; cases b7
    · first | replace hb7 := dF hb7 | skip
      refine ev_q rfl (q_assign (by conv => lhs; whnf) ?_)
      refine ev_q rfl (q_assign (by conv => lhs; whnf) ?_)
      refine ev_nil (hK6 _ ?_); clear hK6
      refine good_seq fun K8 hK8 => ?_
      refine good_region rfl ?_
      refine ev_q rfl (q_move (by conv => lhs; whnf) ?_)
      refine ev_k rfl (k_callX [(900003, 900000)] (D_impl_ReadWave_X s (by omega)) rfl (rfl) (rfl) trivial ⟨⟨rfl, show (900000 : Nat) < 1000000 by decide⟩, trivial⟩ rfl rfl rfl ?_)
      refine ev_q rfl (q_move (by conv => lhs; whnf) ?_)
      refine ev_q rfl (q_extract rfl rfl ?_)
      refine ev_q rfl (q_extractB rfl rfl ?_)
      intro b9 hb9; cases b9
      · first | replace hb9 := dF hb9 | skip
        refine ev_q rfl (q_assign (by conv => lhs; whnf) ?_)
        refine ev_q rfl (q_assign (by conv => lhs; whnf) ?_)
        refine ev_nil (hK8 _ ?_); clear hK8
        refine good_seq fun K10 hK10 => ?_
        refine good_seq fun K11 hK11 => ?_
        refine good_region rfl ?_
        refine ev_q rfl (q_move (by conv => lhs; whnf) ?_)
        refine ev_q rfl (q_move (by conv => lhs; whnf) ?_)
        refine ev_q rfl (q_callB rfl rfl (by change ([.lst 2 (List.take ((rwL s)).length (((rwL s)).map stp)), .lst 2 (((rwL s)).map stp)] : List AV) = _; simp only [takeMap]) (D_laws_eqStepS (rwL s) (by have := rwL_len (s := s); omega)) ?_)
        intro b12 hb12; cases b12
        · first | replace hb12 := dF hb12 | skip
          refine ev_q rfl (q_not rfl rfl ?_)
          refine ev_q rfl (q_move (by conv => lhs; whnf) ?_)
          refine ev_skip rfl ?_
          refine ev_skip rfl ?_
          refine ev_skip rfl ?_
          refine ev_q rfl (q_pickT rfl (by conv => lhs; whnf) ?_)
          refine ev_nil (hK11 _ ?_); clear hK11
          refine good_condT rfl ?_
          refine good_seq fun K13 hK13 => ?_
          refine good_region rfl ?_
          refine ev_q rfl (q_assign (by conv => lhs; whnf) ?_)
          refine ev_nil (hK13 _ ?_); clear hK13
          refine good_ret ?_
          repeat (first | refine thenQ_ret ?_ | refine blockQ_ret ?_)
          refine ret_tmp (st := _) rfl (by conv => lhs; whnf) rfl ?_
          clear hK10
          first | rfl | (exfalso; first | omega | contradiction | (simp_all; done) | grind)
        · first | replace hb12 := dT hb12 | skip
          refine ev_q rfl (q_not rfl rfl ?_)
          refine ev_q rfl (q_move (by conv => lhs; whnf) ?_)
          refine ev_q rfl (q_move (by conv => lhs; whnf) ?_)
          refine ev_q rfl (q_move (by conv => lhs; whnf) ?_)
          refine ev_q rfl (q_bne tB4 rfl rfl ?_)
          intro b14 hb14; replace hb14 : b14 = false := hb14; subst hb14
          refine ev_q rfl (q_pickF rfl (by conv => lhs; whnf) ?_)
          refine ev_nil (hK11 _ ?_); clear hK11
          refine good_condF rfl ?_
          refine good_skip (hK10 _ ?_); clear hK10
          refine good_seq fun K15 hK15 => ?_
          refine good_region rfl ?_
          refine ev_q rfl (q_assign (by conv => lhs; whnf) ?_)
          refine ev_nil (hK15 _ ?_); clear hK15
          refine good_seq fun K16 hK16 => ?_
          refine good_region rfl ?_
          refine ev_q rfl (q_move (by conv => lhs; whnf) ?_)
          refine ev_q rfl (q_move (by conv => lhs; whnf) ?_)
          refine ev_k rfl (k_callXI [(1000000, 900000)] (D_laws_markStepS (rwL s) _ (by have := rwL_len (s := s); omega) (by omega)) rfl (rfl) (rfl) ⟨rfl, trivial⟩ ⟨rfl, ⟨rfl, rfl, by rw [mkW_len (Nat.le_refl _)]; simp⟩, trivial⟩ rfl rfl rfl ?_)
          intro n17 hn17
          refine ev_q rfl (q_assign (by conv => lhs; whnf) ?_)
          refine ev_nil (hK16 _ ?_); clear hK16
          refine good_seq fun K18 hK18 => ?_
          refine good_region rfl ?_
          refine ev_q rfl (q_assign (by conv => lhs; whnf) ?_)
          refine ev_nil (hK18 _ ?_); clear hK18
          refine good_seq fun K19 hK19 => ?_
          refine good_region rfl ?_
          refine ev_q rfl (q_move (by conv => lhs; whnf) ?_)
          refine ev_q rfl (q_move (by conv => lhs; whnf) ?_)
          refine ev_q rfl (q_callI rfl rfl (by change ([.lst 2 (List.take ((rwL s)).length (mkW 1 ((rwL s)) ((rwL s)).length)), .s (.int .i64 1)] : List AV) = _; rw [mkW_take]) (D_laws_heldStepS (rwL s) 1 (by have := rwL_len (s := s); omega) (by omega)) ?_)
          intro n20 hn20
          refine ev_q rfl (q_assign (by conv => lhs; whnf) ?_)
          refine ev_nil (hK19 _ ?_); clear hK19
          refine good_seq fun K21 hK21 => ?_
          refine good_seq fun K22 hK22 => ?_
          refine good_region rfl ?_
          refine ev_q rfl (q_move (by conv => lhs; whnf) ?_)
          refine ev_q rfl (q_int rfl rfl ?_)
          intro b23 hb23; cases b23
          · replace hb23 := dF hb23
            refine ev_nil (hK22 _ ?_); clear hK22
            refine good_condF rfl ?_
            refine good_skip (hK21 _ ?_); clear hK21
            refine good_seq fun K24 hK24 => ?_
            refine good_seq fun K25 hK25 => ?_
            refine good_region rfl ?_
            refine ev_q rfl (q_move (by conv => lhs; whnf) ?_)
            refine ev_q rfl (q_move (by conv => lhs; whnf) ?_)
            refine ev_q rfl (q_int rfl rfl ?_)
            intro b26 hb26; cases b26
            · replace hb26 := neF hb26
              refine ev_nil (hK25 _ ?_); clear hK25
              refine good_condF rfl ?_
              refine good_skip (hK24 _ ?_); clear hK24
              refine good_seq fun K27 hK27 => ?_
              refine good_region rfl ?_
              refine ev_q rfl (q_move (by conv => lhs; whnf) ?_)
              refine ev_q rfl (q_call rfl rfl (rfl) (D_impl_ReadWave s (by omega)) rfl ?_)
              refine ev_q rfl (q_move (by conv => lhs; whnf) ?_)
              refine ev_q rfl (q_extract rfl rfl ?_)
              refine ev_q rfl (q_extractB rfl rfl ?_)
              intro b28 hb28; cases b28
              · first | replace hb28 := dF hb28 | skip
                refine ev_q rfl (q_assign (by conv => lhs; whnf) ?_)
                refine ev_q rfl (q_assign (by conv => lhs; whnf) ?_)
                refine ev_nil (hK27 _ ?_); clear hK27
                refine good_seq fun K29 hK29 => ?_
                refine good_seq fun K30 hK30 => ?_
                refine good_region rfl ?_
                refine ev_q rfl (q_move (by conv => lhs; whnf) ?_)
                refine ev_q rfl (q_move (by conv => lhs; whnf) ?_)
                refine ev_q rfl (q_callB rfl rfl (rfl) (D_laws_eqStepS (rwL s) (by have := rwL_len (s := s); omega)) ?_)
                intro b31 hb31; cases b31
                · first | replace hb31 := dF hb31 | skip
                  refine ev_q rfl (q_not rfl rfl ?_)
                  refine ev_q rfl (q_move (by conv => lhs; whnf) ?_)
                  refine ev_skip rfl ?_
                  refine ev_skip rfl ?_
                  refine ev_skip rfl ?_
                  refine ev_q rfl (q_pickT rfl (by conv => lhs; whnf) ?_)
                  refine ev_nil (hK30 _ ?_); clear hK30
                  refine good_condT rfl ?_
                  refine good_seq fun K32 hK32 => ?_
                  refine good_region rfl ?_
                  refine ev_q rfl (q_assign (by conv => lhs; whnf) ?_)
                  refine ev_nil (hK32 _ ?_); clear hK32
                  refine good_ret ?_
                  repeat (first | refine thenQ_ret ?_ | refine blockQ_ret ?_)
                  refine ret_tmp (st := _) rfl (by conv => lhs; whnf) rfl ?_
                  clear hK29
                  first | rfl | (exfalso; first | omega | contradiction | (simp_all; done) | grind)
                · first | replace hb31 := dT hb31 | skip
                  refine ev_q rfl (q_not rfl rfl ?_)
                  refine ev_q rfl (q_move (by conv => lhs; whnf) ?_)
                  refine ev_q rfl (q_move (by conv => lhs; whnf) ?_)
                  refine ev_q rfl (q_move (by conv => lhs; whnf) ?_)
                  refine ev_q rfl (q_bne tB4 rfl rfl ?_)
                  intro b33 hb33; replace hb33 : b33 = false := hb33; subst hb33
                  refine ev_q rfl (q_pickF rfl (by conv => lhs; whnf) ?_)
                  refine ev_nil (hK30 _ ?_); clear hK30
                  refine good_condF rfl ?_
                  refine good_skip (hK29 _ ?_); clear hK29
                  refine good_seq fun K34 hK34 => ?_
                  refine good_region rfl ?_
                  refine ev_q rfl (q_assign (by conv => lhs; whnf) ?_)
                  refine ev_nil (hK34 _ ?_); clear hK34
                  refine good_seq fun K35 hK35 => ?_
                  refine good_region rfl ?_
                  refine ev_q rfl (q_move (by conv => lhs; whnf) ?_)
                  refine ev_q rfl (q_move (by conv => lhs; whnf) ?_)
                  refine ev_q rfl (q_callI rfl rfl (by change ([.lst 2 (List.take ((rwL s)).length (mkW 1 ((rwL s)) ((rwL s)).length)), .s (.int .i64 1)] : List AV) = _; rw [mkW_take]) (D_laws_heldStepS (rwL s) 1 (by have := rwL_len (s := s); omega) (by omega)) ?_)
                  intro n36 hn36
                  refine ev_q rfl (q_assign (by conv => lhs; whnf) ?_)
                  refine ev_nil (hK35 _ ?_); clear hK35
                  refine good_seq fun K37 hK37 => ?_
                  refine good_seq fun K38 hK38 => ?_
                  refine good_region rfl ?_
                  refine ev_q rfl (q_move (by conv => lhs; whnf) ?_)
                  refine ev_q rfl (q_int rfl rfl ?_)
                  intro b39 hb39; cases b39
                  · replace hb39 := dF hb39
                    refine ev_nil (hK38 _ ?_); clear hK38
                    refine good_condF rfl ?_
                    refine good_skip (hK37 _ ?_); clear hK37
                    refine good_seq fun K40 hK40 => ?_
                    refine good_seq fun K41 hK41 => ?_
                    refine good_region rfl ?_
                    refine ev_q rfl (q_move (by conv => lhs; whnf) ?_)
                    refine ev_q rfl (q_move (by conv => lhs; whnf) ?_)
                    refine ev_q rfl (q_int rfl rfl ?_)
                    intro b42 hb42; cases b42
                    · replace hb42 := neF hb42
                      refine ev_nil (hK41 _ ?_); clear hK41
                      refine good_condF rfl ?_
                      refine good_skip (hK40 _ ?_); clear hK40
                      refine good_seq fun K43 hK43 => ?_
                      refine good_region rfl ?_
                      refine ev_q rfl (q_assign (by conv => lhs; whnf) ?_)
                      refine ev_nil (hK43 _ ?_); clear hK43
                      refine good_ret ?_
                      repeat (first | refine thenQ_ret ?_ | refine blockQ_ret ?_)
                      refine ret_tmp (st := _) rfl (by conv => lhs; whnf) rfl ?_
                      first | rfl | (exfalso; first | omega | contradiction | (simp_all; done) | grind)
                    · replace hb42 := neT hb42
                      refine ev_nil (hK41 _ ?_); clear hK41
                      refine good_condT rfl ?_
                      refine good_seq fun K44 hK44 => ?_
                      refine good_region rfl ?_
                      refine ev_q rfl (q_assign (by conv => lhs; whnf) ?_)
                      refine ev_nil (hK44 _ ?_); clear hK44
                      refine good_ret ?_
                      repeat (first | refine thenQ_ret ?_ | refine blockQ_ret ?_)
                      refine ret_tmp (st := _) rfl (by conv => lhs; whnf) rfl ?_
                      clear hK40
                      first | rfl | (exfalso; first | omega | contradiction | (simp_all; done) | grind)
                  · replace hb39 := dT hb39
                    refine ev_nil (hK38 _ ?_); clear hK38
                    refine good_condT rfl ?_
                    refine good_seq fun K45 hK45 => ?_
                    refine good_region rfl ?_
                    refine ev_q rfl (q_assign (by conv => lhs; whnf) ?_)
                    refine ev_nil (hK45 _ ?_); clear hK45
                    refine good_ret ?_
                    repeat (first | refine thenQ_ret ?_ | refine blockQ_ret ?_)
                    refine ret_tmp (st := _) rfl (by conv => lhs; whnf) rfl ?_
                    clear hK37
                    first | rfl | (exfalso; first | omega | contradiction | (simp_all; done) | grind)
              · first | replace hb28 := dT hb28 | skip
                refine ev_q rfl (q_assign (by conv => lhs; whnf) ?_)
                refine ev_q rfl (q_assign (by conv => lhs; whnf) ?_)
                refine ev_nil (hK27 _ ?_); clear hK27
                refine good_seq fun K46 hK46 => ?_
                refine good_seq fun K47 hK47 => ?_
                refine good_region rfl ?_
                refine ev_q rfl (q_move (by conv => lhs; whnf) ?_)
                refine ev_q rfl (q_move (by conv => lhs; whnf) ?_)
                refine ev_q rfl (q_callB rfl rfl (rfl) (D_laws_eqStepS (rwL s) (by have := rwL_len (s := s); omega)) ?_)
                intro b48 hb48; cases b48
                · first | replace hb48 := dF hb48 | skip
                  refine ev_q rfl (q_not rfl rfl ?_)
                  refine ev_q rfl (q_move (by conv => lhs; whnf) ?_)
                  refine ev_skip rfl ?_
                  refine ev_skip rfl ?_
                  refine ev_skip rfl ?_
                  refine ev_q rfl (q_pickT rfl (by conv => lhs; whnf) ?_)
                  refine ev_nil (hK47 _ ?_); clear hK47
                  refine good_condT rfl ?_
                  refine good_seq fun K49 hK49 => ?_
                  refine good_region rfl ?_
                  refine ev_q rfl (q_assign (by conv => lhs; whnf) ?_)
                  refine ev_nil (hK49 _ ?_); clear hK49
                  refine good_ret ?_
                  repeat (first | refine thenQ_ret ?_ | refine blockQ_ret ?_)
                  refine ret_tmp (st := _) rfl (by conv => lhs; whnf) rfl ?_
                  clear hK46
                  first | rfl | (exfalso; first | omega | contradiction | (simp_all; done) | grind)
                · first | replace hb48 := dT hb48 | skip
                  refine ev_q rfl (q_not rfl rfl ?_)
                  refine ev_q rfl (q_move (by conv => lhs; whnf) ?_)
                  refine ev_q rfl (q_move (by conv => lhs; whnf) ?_)
                  refine ev_q rfl (q_move (by conv => lhs; whnf) ?_)
                  refine ev_q rfl (q_bne tB4 rfl rfl ?_)
                  intro b50 hb50; replace hb50 : b50 = true := hb50; subst hb50
                  refine ev_q rfl (q_pickF rfl (by conv => lhs; whnf) ?_)
                  refine ev_nil (hK47 _ ?_); clear hK47
                  refine good_condT rfl ?_
                  refine good_seq fun K51 hK51 => ?_
                  refine good_region rfl ?_
                  refine ev_q rfl (q_assign (by conv => lhs; whnf) ?_)
                  refine ev_nil (hK51 _ ?_); clear hK51
                  refine good_ret ?_
                  repeat (first | refine thenQ_ret ?_ | refine blockQ_ret ?_)
                  refine ret_tmp (st := _) rfl (by conv => lhs; whnf) rfl ?_
                  clear hK46
                  first | rfl | (exfalso; first | omega | contradiction | (simp_all; done) | grind)
            · replace hb26 := neT hb26
              refine ev_nil (hK25 _ ?_); clear hK25
              refine good_condT rfl ?_
              refine good_seq fun K52 hK52 => ?_
              refine good_region rfl ?_
              refine ev_q rfl (q_assign (by conv => lhs; whnf) ?_)
              refine ev_nil (hK52 _ ?_); clear hK52
              refine good_ret ?_
              repeat (first | refine thenQ_ret ?_ | refine blockQ_ret ?_)
              refine ret_tmp (st := _) rfl (by conv => lhs; whnf) rfl ?_
              clear hK24
              first | rfl | (exfalso; first | omega | contradiction | (simp_all; done) | grind)
          · replace hb23 := dT hb23
            refine ev_nil (hK22 _ ?_); clear hK22
            refine good_condT rfl ?_
            refine good_seq fun K53 hK53 => ?_
            refine good_region rfl ?_
            refine ev_q rfl (q_assign (by conv => lhs; whnf) ?_)
            refine ev_nil (hK53 _ ?_); clear hK53
            refine good_ret ?_
            repeat (first | refine thenQ_ret ?_ | refine blockQ_ret ?_)
            refine ret_tmp (st := _) rfl (by conv => lhs; whnf) rfl ?_
            clear hK21
            first | rfl | (exfalso; first | omega | contradiction | (simp_all; done) | grind)
      · first | replace hb9 := dT hb9 | skip
        refine ev_q rfl (q_assign (by conv => lhs; whnf) ?_)
        refine ev_q rfl (q_assign (by conv => lhs; whnf) ?_)
        refine ev_nil (hK8 _ ?_); clear hK8
        refine good_seq fun K54 hK54 => ?_
        refine good_seq fun K55 hK55 => ?_
        refine good_region rfl ?_
        refine ev_q rfl (q_move (by conv => lhs; whnf) ?_)
        refine ev_q rfl (q_move (by conv => lhs; whnf) ?_)
        refine ev_q rfl (q_callB rfl rfl (by change ([.lst 2 (List.take ((rwL s)).length (((rwL s)).map stp)), .lst 2 (((rwL s)).map stp)] : List AV) = _; simp only [takeMap]) (D_laws_eqStepS (rwL s) (by have := rwL_len (s := s); omega)) ?_)
        intro b56 hb56; cases b56
        · first | replace hb56 := dF hb56 | skip
          refine ev_q rfl (q_not rfl rfl ?_)
          refine ev_q rfl (q_move (by conv => lhs; whnf) ?_)
          refine ev_skip rfl ?_
          refine ev_skip rfl ?_
          refine ev_skip rfl ?_
          refine ev_q rfl (q_pickT rfl (by conv => lhs; whnf) ?_)
          refine ev_nil (hK55 _ ?_); clear hK55
          refine good_condT rfl ?_
          refine good_seq fun K57 hK57 => ?_
          refine good_region rfl ?_
          refine ev_q rfl (q_assign (by conv => lhs; whnf) ?_)
          refine ev_nil (hK57 _ ?_); clear hK57
          refine good_ret ?_
          repeat (first | refine thenQ_ret ?_ | refine blockQ_ret ?_)
          refine ret_tmp (st := _) rfl (by conv => lhs; whnf) rfl ?_
          clear hK54
          first | rfl | (exfalso; first | omega | contradiction | (simp_all; done) | grind)
        · first | replace hb56 := dT hb56 | skip
          refine ev_q rfl (q_not rfl rfl ?_)
          refine ev_q rfl (q_move (by conv => lhs; whnf) ?_)
          refine ev_q rfl (q_move (by conv => lhs; whnf) ?_)
          refine ev_q rfl (q_move (by conv => lhs; whnf) ?_)
          refine ev_q rfl (q_bne tB4 rfl rfl ?_)
          intro b58 hb58; replace hb58 : b58 = true := hb58; subst hb58
          refine ev_q rfl (q_pickF rfl (by conv => lhs; whnf) ?_)
          refine ev_nil (hK55 _ ?_); clear hK55
          refine good_condT rfl ?_
          refine good_seq fun K59 hK59 => ?_
          refine good_region rfl ?_
          refine ev_q rfl (q_assign (by conv => lhs; whnf) ?_)
          refine ev_nil (hK59 _ ?_); clear hK59
          refine good_ret ?_
          repeat (first | refine thenQ_ret ?_ | refine blockQ_ret ?_)
          refine ret_tmp (st := _) rfl (by conv => lhs; whnf) rfl ?_
          clear hK54
          first | rfl | (exfalso; first | omega | contradiction | (simp_all; done) | grind)
    · first | replace hb7 := dT hb7 | skip
      refine ev_q rfl (q_assign (by conv => lhs; whnf) ?_)
      refine ev_q rfl (q_assign (by conv => lhs; whnf) ?_)
      refine ev_nil (hK6 _ ?_); clear hK6
      refine good_seq fun K60 hK60 => ?_
      refine good_region rfl ?_
      refine ev_q rfl (q_move (by conv => lhs; whnf) ?_)
      refine ev_k rfl (k_callX [(900003, 900000)] (D_impl_ReadWave_X s (by omega)) rfl (rfl) (rfl) trivial ⟨⟨rfl, show (900000 : Nat) < 1000000 by decide⟩, trivial⟩ rfl rfl rfl ?_)
      refine ev_q rfl (q_move (by conv => lhs; whnf) ?_)
      refine ev_q rfl (q_extract rfl rfl ?_)
      refine ev_q rfl (q_extractB rfl rfl ?_)
      intro b61 hb61; cases b61
      · first | replace hb61 := dF hb61 | skip
        refine ev_q rfl (q_assign (by conv => lhs; whnf) ?_)
        refine ev_q rfl (q_assign (by conv => lhs; whnf) ?_)
        refine ev_nil (hK60 _ ?_); clear hK60
        refine good_seq fun K62 hK62 => ?_
        refine good_seq fun K63 hK63 => ?_
        refine good_region rfl ?_
        refine ev_q rfl (q_move (by conv => lhs; whnf) ?_)
        refine ev_q rfl (q_move (by conv => lhs; whnf) ?_)
        refine ev_q rfl (q_callB rfl rfl (by change ([.lst 2 (List.take ((rwL s)).length (((rwL s)).map stp)), .lst 2 (((rwL s)).map stp)] : List AV) = _; simp only [takeMap]) (D_laws_eqStepS (rwL s) (by have := rwL_len (s := s); omega)) ?_)
        intro b64 hb64; cases b64
        · first | replace hb64 := dF hb64 | skip
          refine ev_q rfl (q_not rfl rfl ?_)
          refine ev_q rfl (q_move (by conv => lhs; whnf) ?_)
          refine ev_skip rfl ?_
          refine ev_skip rfl ?_
          refine ev_skip rfl ?_
          refine ev_q rfl (q_pickT rfl (by conv => lhs; whnf) ?_)
          refine ev_nil (hK63 _ ?_); clear hK63
          refine good_condT rfl ?_
          refine good_seq fun K65 hK65 => ?_
          refine good_region rfl ?_
          refine ev_q rfl (q_assign (by conv => lhs; whnf) ?_)
          refine ev_nil (hK65 _ ?_); clear hK65
          refine good_ret ?_
          repeat (first | refine thenQ_ret ?_ | refine blockQ_ret ?_)
          refine ret_tmp (st := _) rfl (by conv => lhs; whnf) rfl ?_
          clear hK62
          first | rfl | (exfalso; first | omega | contradiction | (simp_all; done) | grind)
        · first | replace hb64 := dT hb64 | skip
          refine ev_q rfl (q_not rfl rfl ?_)
          refine ev_q rfl (q_move (by conv => lhs; whnf) ?_)
          refine ev_q rfl (q_move (by conv => lhs; whnf) ?_)
          refine ev_q rfl (q_move (by conv => lhs; whnf) ?_)
          refine ev_q rfl (q_bne tB4 rfl rfl ?_)
          intro b66 hb66; replace hb66 : b66 = true := hb66; subst hb66
          refine ev_q rfl (q_pickF rfl (by conv => lhs; whnf) ?_)
          refine ev_nil (hK63 _ ?_); clear hK63
          refine good_condT rfl ?_
          refine good_seq fun K67 hK67 => ?_
          refine good_region rfl ?_
          refine ev_q rfl (q_assign (by conv => lhs; whnf) ?_)
          refine ev_nil (hK67 _ ?_); clear hK67
          refine good_ret ?_
          repeat (first | refine thenQ_ret ?_ | refine blockQ_ret ?_)
          refine ret_tmp (st := _) rfl (by conv => lhs; whnf) rfl ?_
          clear hK62
          first | rfl | (exfalso; first | omega | contradiction | (simp_all; done) | grind)
      · first | replace hb61 := dT hb61 | skip
        refine ev_q rfl (q_assign (by conv => lhs; whnf) ?_)
        refine ev_q rfl (q_assign (by conv => lhs; whnf) ?_)
        refine ev_nil (hK60 _ ?_); clear hK60
        refine good_seq fun K68 hK68 => ?_
        refine good_seq fun K69 hK69 => ?_
        refine good_region rfl ?_
        refine ev_q rfl (q_move (by conv => lhs; whnf) ?_)
        refine ev_q rfl (q_move (by conv => lhs; whnf) ?_)
        refine ev_q rfl (q_callB rfl rfl (by change ([.lst 2 (List.take ((rwL s)).length (((rwL s)).map stp)), .lst 2 (((rwL s)).map stp)] : List AV) = _; simp only [takeMap]) (D_laws_eqStepS (rwL s) (by have := rwL_len (s := s); omega)) ?_)
        intro b70 hb70; cases b70
        · first | replace hb70 := dF hb70 | skip
          refine ev_q rfl (q_not rfl rfl ?_)
          refine ev_q rfl (q_move (by conv => lhs; whnf) ?_)
          refine ev_skip rfl ?_
          refine ev_skip rfl ?_
          refine ev_skip rfl ?_
          refine ev_q rfl (q_pickT rfl (by conv => lhs; whnf) ?_)
          refine ev_nil (hK69 _ ?_); clear hK69
          refine good_condT rfl ?_
          refine good_seq fun K71 hK71 => ?_
          refine good_region rfl ?_
          refine ev_q rfl (q_assign (by conv => lhs; whnf) ?_)
          refine ev_nil (hK71 _ ?_); clear hK71
          refine good_ret ?_
          repeat (first | refine thenQ_ret ?_ | refine blockQ_ret ?_)
          refine ret_tmp (st := _) rfl (by conv => lhs; whnf) rfl ?_
          clear hK68
          first | rfl | (exfalso; first | omega | contradiction | (simp_all; done) | grind)
        · first | replace hb70 := dT hb70 | skip
          refine ev_q rfl (q_not rfl rfl ?_)
          refine ev_q rfl (q_move (by conv => lhs; whnf) ?_)
          refine ev_q rfl (q_move (by conv => lhs; whnf) ?_)
          refine ev_q rfl (q_move (by conv => lhs; whnf) ?_)
          refine ev_q rfl (q_bne tB4 rfl rfl ?_)
          intro b72 hb72; replace hb72 : b72 = false := hb72; subst hb72
          refine ev_q rfl (q_pickF rfl (by conv => lhs; whnf) ?_)
          refine ev_nil (hK69 _ ?_); clear hK69
          refine good_condF rfl ?_
          refine good_skip (hK68 _ ?_); clear hK68
          refine good_seq fun K73 hK73 => ?_
          refine good_region rfl ?_
          refine ev_q rfl (q_assign (by conv => lhs; whnf) ?_)
          refine ev_nil (hK73 _ ?_); clear hK73
          refine good_seq fun K74 hK74 => ?_
          refine good_region rfl ?_
          refine ev_q rfl (q_move (by conv => lhs; whnf) ?_)
          refine ev_q rfl (q_move (by conv => lhs; whnf) ?_)
          refine ev_k rfl (k_callXI [(1000000, 900000)] (D_laws_markStepS (rwL s) _ (by have := rwL_len (s := s); omega) (by omega)) rfl (rfl) (rfl) ⟨rfl, trivial⟩ ⟨rfl, ⟨rfl, rfl, by rw [mkW_len (Nat.le_refl _)]; simp⟩, trivial⟩ rfl rfl rfl ?_)
          intro n75 hn75
          refine ev_q rfl (q_assign (by conv => lhs; whnf) ?_)
          refine ev_nil (hK74 _ ?_); clear hK74
          refine good_seq fun K76 hK76 => ?_
          refine good_region rfl ?_
          refine ev_q rfl (q_assign (by conv => lhs; whnf) ?_)
          refine ev_nil (hK76 _ ?_); clear hK76
          refine good_seq fun K77 hK77 => ?_
          refine good_region rfl ?_
          refine ev_q rfl (q_move (by conv => lhs; whnf) ?_)
          refine ev_q rfl (q_move (by conv => lhs; whnf) ?_)
          refine ev_q rfl (q_callI rfl rfl (by change ([.lst 2 (List.take ((rwL s)).length (mkW 1 ((rwL s)) ((rwL s)).length)), .s (.int .i64 1)] : List AV) = _; rw [mkW_take]) (D_laws_heldStepS (rwL s) 1 (by have := rwL_len (s := s); omega) (by omega)) ?_)
          intro n78 hn78
          refine ev_q rfl (q_assign (by conv => lhs; whnf) ?_)
          refine ev_nil (hK77 _ ?_); clear hK77
          refine good_seq fun K79 hK79 => ?_
          refine good_seq fun K80 hK80 => ?_
          refine good_region rfl ?_
          refine ev_q rfl (q_move (by conv => lhs; whnf) ?_)
          refine ev_q rfl (q_int rfl rfl ?_)
          intro b81 hb81; cases b81
          · replace hb81 := dF hb81
            refine ev_nil (hK80 _ ?_); clear hK80
            refine good_condF rfl ?_
            refine good_skip (hK79 _ ?_); clear hK79
            refine good_seq fun K82 hK82 => ?_
            refine good_seq fun K83 hK83 => ?_
            refine good_region rfl ?_
            refine ev_q rfl (q_move (by conv => lhs; whnf) ?_)
            refine ev_q rfl (q_move (by conv => lhs; whnf) ?_)
            refine ev_q rfl (q_int rfl rfl ?_)
            intro b84 hb84; cases b84
            · replace hb84 := neF hb84
              refine ev_nil (hK83 _ ?_); clear hK83
              refine good_condF rfl ?_
              refine good_skip (hK82 _ ?_); clear hK82
              refine good_seq fun K85 hK85 => ?_
              refine good_region rfl ?_
              refine ev_q rfl (q_move (by conv => lhs; whnf) ?_)
              refine ev_q rfl (q_call rfl rfl (rfl) (D_impl_ReadWave s (by omega)) rfl ?_)
              refine ev_q rfl (q_move (by conv => lhs; whnf) ?_)
              refine ev_q rfl (q_extract rfl rfl ?_)
              refine ev_q rfl (q_extractB rfl rfl ?_)
              intro b86 hb86; cases b86
              · first | replace hb86 := dF hb86 | skip
                refine ev_q rfl (q_assign (by conv => lhs; whnf) ?_)
                refine ev_q rfl (q_assign (by conv => lhs; whnf) ?_)
                refine ev_nil (hK85 _ ?_); clear hK85
                refine good_seq fun K87 hK87 => ?_
                refine good_seq fun K88 hK88 => ?_
                refine good_region rfl ?_
                refine ev_q rfl (q_move (by conv => lhs; whnf) ?_)
                refine ev_q rfl (q_move (by conv => lhs; whnf) ?_)
                refine ev_q rfl (q_callB rfl rfl (rfl) (D_laws_eqStepS (rwL s) (by have := rwL_len (s := s); omega)) ?_)
                intro b89 hb89; cases b89
                · first | replace hb89 := dF hb89 | skip
                  refine ev_q rfl (q_not rfl rfl ?_)
                  refine ev_q rfl (q_move (by conv => lhs; whnf) ?_)
                  refine ev_skip rfl ?_
                  refine ev_skip rfl ?_
                  refine ev_skip rfl ?_
                  refine ev_q rfl (q_pickT rfl (by conv => lhs; whnf) ?_)
                  refine ev_nil (hK88 _ ?_); clear hK88
                  refine good_condT rfl ?_
                  refine good_seq fun K90 hK90 => ?_
                  refine good_region rfl ?_
                  refine ev_q rfl (q_assign (by conv => lhs; whnf) ?_)
                  refine ev_nil (hK90 _ ?_); clear hK90
                  refine good_ret ?_
                  repeat (first | refine thenQ_ret ?_ | refine blockQ_ret ?_)
                  refine ret_tmp (st := _) rfl (by conv => lhs; whnf) rfl ?_
                  clear hK87
                  first | rfl | (exfalso; first | omega | contradiction | (simp_all; done) | grind)
                · first | replace hb89 := dT hb89 | skip
                  refine ev_q rfl (q_not rfl rfl ?_)
                  refine ev_q rfl (q_move (by conv => lhs; whnf) ?_)
                  refine ev_q rfl (q_move (by conv => lhs; whnf) ?_)
                  refine ev_q rfl (q_move (by conv => lhs; whnf) ?_)
                  refine ev_q rfl (q_bne tB4 rfl rfl ?_)
                  intro b91 hb91; replace hb91 : b91 = true := hb91; subst hb91
                  refine ev_q rfl (q_pickF rfl (by conv => lhs; whnf) ?_)
                  refine ev_nil (hK88 _ ?_); clear hK88
                  refine good_condT rfl ?_
                  refine good_seq fun K92 hK92 => ?_
                  refine good_region rfl ?_
                  refine ev_q rfl (q_assign (by conv => lhs; whnf) ?_)
                  refine ev_nil (hK92 _ ?_); clear hK92
                  refine good_ret ?_
                  repeat (first | refine thenQ_ret ?_ | refine blockQ_ret ?_)
                  refine ret_tmp (st := _) rfl (by conv => lhs; whnf) rfl ?_
                  clear hK87
                  first | rfl | (exfalso; first | omega | contradiction | (simp_all; done) | grind)
              · first | replace hb86 := dT hb86 | skip
                refine ev_q rfl (q_assign (by conv => lhs; whnf) ?_)
                refine ev_q rfl (q_assign (by conv => lhs; whnf) ?_)
                refine ev_nil (hK85 _ ?_); clear hK85
                refine good_seq fun K93 hK93 => ?_
                refine good_seq fun K94 hK94 => ?_
                refine good_region rfl ?_
                refine ev_q rfl (q_move (by conv => lhs; whnf) ?_)
                refine ev_q rfl (q_move (by conv => lhs; whnf) ?_)
                refine ev_q rfl (q_callB rfl rfl (rfl) (D_laws_eqStepS (rwL s) (by have := rwL_len (s := s); omega)) ?_)
                intro b95 hb95; cases b95
                · first | replace hb95 := dF hb95 | skip
                  refine ev_q rfl (q_not rfl rfl ?_)
                  refine ev_q rfl (q_move (by conv => lhs; whnf) ?_)
                  refine ev_skip rfl ?_
                  refine ev_skip rfl ?_
                  refine ev_skip rfl ?_
                  refine ev_q rfl (q_pickT rfl (by conv => lhs; whnf) ?_)
                  refine ev_nil (hK94 _ ?_); clear hK94
                  refine good_condT rfl ?_
                  refine good_seq fun K96 hK96 => ?_
                  refine good_region rfl ?_
                  refine ev_q rfl (q_assign (by conv => lhs; whnf) ?_)
                  refine ev_nil (hK96 _ ?_); clear hK96
                  refine good_ret ?_
                  repeat (first | refine thenQ_ret ?_ | refine blockQ_ret ?_)
                  refine ret_tmp (st := _) rfl (by conv => lhs; whnf) rfl ?_
                  clear hK93
                  first | rfl | (exfalso; first | omega | contradiction | (simp_all; done) | grind)
                · first | replace hb95 := dT hb95 | skip
                  refine ev_q rfl (q_not rfl rfl ?_)
                  refine ev_q rfl (q_move (by conv => lhs; whnf) ?_)
                  refine ev_q rfl (q_move (by conv => lhs; whnf) ?_)
                  refine ev_q rfl (q_move (by conv => lhs; whnf) ?_)
                  refine ev_q rfl (q_bne tB4 rfl rfl ?_)
                  intro b97 hb97; replace hb97 : b97 = false := hb97; subst hb97
                  refine ev_q rfl (q_pickF rfl (by conv => lhs; whnf) ?_)
                  refine ev_nil (hK94 _ ?_); clear hK94
                  refine good_condF rfl ?_
                  refine good_skip (hK93 _ ?_); clear hK93
                  refine good_seq fun K98 hK98 => ?_
                  refine good_region rfl ?_
                  refine ev_q rfl (q_assign (by conv => lhs; whnf) ?_)
                  refine ev_nil (hK98 _ ?_); clear hK98
                  refine good_seq fun K99 hK99 => ?_
                  refine good_region rfl ?_
                  refine ev_q rfl (q_move (by conv => lhs; whnf) ?_)
                  refine ev_q rfl (q_move (by conv => lhs; whnf) ?_)
                  refine ev_q rfl (q_callI rfl rfl (by change ([.lst 2 (List.take ((rwL s)).length (mkW 1 ((rwL s)) ((rwL s)).length)), .s (.int .i64 1)] : List AV) = _; rw [mkW_take]) (D_laws_heldStepS (rwL s) 1 (by have := rwL_len (s := s); omega) (by omega)) ?_)
                  intro n100 hn100
                  refine ev_q rfl (q_assign (by conv => lhs; whnf) ?_)
                  refine ev_nil (hK99 _ ?_); clear hK99
                  refine good_seq fun K101 hK101 => ?_
                  refine good_seq fun K102 hK102 => ?_
                  refine good_region rfl ?_
                  refine ev_q rfl (q_move (by conv => lhs; whnf) ?_)
                  refine ev_q rfl (q_int rfl rfl ?_)
                  intro b103 hb103; cases b103
                  · replace hb103 := dF hb103
                    refine ev_nil (hK102 _ ?_); clear hK102
                    refine good_condF rfl ?_
                    refine good_skip (hK101 _ ?_); clear hK101
                    refine good_seq fun K104 hK104 => ?_
                    refine good_seq fun K105 hK105 => ?_
                    refine good_region rfl ?_
                    refine ev_q rfl (q_move (by conv => lhs; whnf) ?_)
                    refine ev_q rfl (q_move (by conv => lhs; whnf) ?_)
                    refine ev_q rfl (q_int rfl rfl ?_)
                    intro b106 hb106; cases b106
                    · replace hb106 := neF hb106
                      refine ev_nil (hK105 _ ?_); clear hK105
                      refine good_condF rfl ?_
                      refine good_skip (hK104 _ ?_); clear hK104
                      refine good_seq fun K107 hK107 => ?_
                      refine good_region rfl ?_
                      refine ev_q rfl (q_assign (by conv => lhs; whnf) ?_)
                      refine ev_nil (hK107 _ ?_); clear hK107
                      refine good_ret ?_
                      repeat (first | refine thenQ_ret ?_ | refine blockQ_ret ?_)
                      refine ret_tmp (st := _) rfl (by conv => lhs; whnf) rfl ?_
                      first | rfl | (exfalso; first | omega | contradiction | (simp_all; done) | grind)
                    · replace hb106 := neT hb106
                      refine ev_nil (hK105 _ ?_); clear hK105
                      refine good_condT rfl ?_
                      refine good_seq fun K108 hK108 => ?_
                      refine good_region rfl ?_
                      refine ev_q rfl (q_assign (by conv => lhs; whnf) ?_)
                      refine ev_nil (hK108 _ ?_); clear hK108
                      refine good_ret ?_
                      repeat (first | refine thenQ_ret ?_ | refine blockQ_ret ?_)
                      refine ret_tmp (st := _) rfl (by conv => lhs; whnf) rfl ?_
                      clear hK104
                      first | rfl | (exfalso; first | omega | contradiction | (simp_all; done) | grind)
                  · replace hb103 := dT hb103
                    refine ev_nil (hK102 _ ?_); clear hK102
                    refine good_condT rfl ?_
                    refine good_seq fun K109 hK109 => ?_
                    refine good_region rfl ?_
                    refine ev_q rfl (q_assign (by conv => lhs; whnf) ?_)
                    refine ev_nil (hK109 _ ?_); clear hK109
                    refine good_ret ?_
                    repeat (first | refine thenQ_ret ?_ | refine blockQ_ret ?_)
                    refine ret_tmp (st := _) rfl (by conv => lhs; whnf) rfl ?_
                    clear hK101
                    first | rfl | (exfalso; first | omega | contradiction | (simp_all; done) | grind)
            · replace hb84 := neT hb84
              refine ev_nil (hK83 _ ?_); clear hK83
              refine good_condT rfl ?_
              refine good_seq fun K110 hK110 => ?_
              refine good_region rfl ?_
              refine ev_q rfl (q_assign (by conv => lhs; whnf) ?_)
              refine ev_nil (hK110 _ ?_); clear hK110
              refine good_ret ?_
              repeat (first | refine thenQ_ret ?_ | refine blockQ_ret ?_)
              refine ret_tmp (st := _) rfl (by conv => lhs; whnf) rfl ?_
              clear hK82
              first | rfl | (exfalso; first | omega | contradiction | (simp_all; done) | grind)
          · replace hb81 := dT hb81
            refine ev_nil (hK80 _ ?_); clear hK80
            refine good_condT rfl ?_
            refine good_seq fun K111 hK111 => ?_
            refine good_region rfl ?_
            refine ev_q rfl (q_assign (by conv => lhs; whnf) ?_)
            refine ev_nil (hK111 _ ?_); clear hK111
            refine good_ret ?_
            repeat (first | refine thenQ_ret ?_ | refine blockQ_ret ?_)
            refine ret_tmp (st := _) rfl (by conv => lhs; whnf) rfl ?_
            clear hK79
            first | rfl | (exfalso; first | omega | contradiction | (simp_all; done) | grind)
  · replace hb5 := dT hb5
    refine ev_nil (hK3 _ ?_); clear hK3
    refine good_condT rfl ?_
    refine good_seq fun K112 hK112 => ?_
    refine good_region rfl ?_
    refine ev_q rfl (q_assign (by conv => lhs; whnf) ?_)
    refine ev_nil (hK112 _ ?_); clear hK112
    refine good_ret ?_
    repeat (first | refine thenQ_ret ?_ | refine blockQ_ret ?_)
    refine ret_tmp (st := _) rfl (by conv => lhs; whnf) rfl ?_
    clear hK2
    first | rfl | (exfalso; first | omega | contradiction | (simp_all; done) | grind)

end Go.Proofs.YtodghlkodiidaaaDoor.DFnExactReadWave
