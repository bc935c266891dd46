/- Walks through the functions that FnBasics reaches: what each answers. -/
import Derived.Test.YtodghlkodiidaaaDoorDFnBasicsa
set_option linter.unusedVariables false
set_option linter.unusedSimpArgs false
namespace Go.Proofs.YtodghlkodiidaaaDoor.DFnBasics
open Go Go.RowKit Go.Proofs Go.Proofs.YtodghlkodiidaaaDoor Go.Proofs.YtodghlkodiidaaaDoor.Ev
-- impl.divRound
set_option maxRecDepth 20000 in
set_option maxHeartbeats 2000000 in
theorem D_impl_divRound (a b : Int) (ha : -4000000000000000000 ≤ a ∧ a ≤ 4000000000000000000) (hb : b ≠ 0 ∧ -1000000000000000000 ≤ b ∧ b ≤ 1000000000000000000) : Den Tryd.prog 82 [.s (.int .i64 a), .s (.int .i64 b)] (.s (.int .i64 (dr a b))) := by
  refine den_of_good Tryd.func82 (by decide) rfl (Nat.le_of_ble_eq_true rfl) (Nat.le_of_ble_eq_true rfl) ?_
  refine good_seq fun K1 hK1 => ?_
  refine good_region rfl ?_
  refine ev_q rfl (q_assign (by conv => lhs; whnf) ?_)
  refine ev_nil (hK1 _ ?_); clear hK1
  refine good_seq fun K2 hK2 => ?_
  refine good_draw 9 hmix (by kernel_rfl) rfl ?_
  refine qo_q rfl (q_move (by conv => lhs; whnf) ?_)
  refine qo_q rfl (q_move (by conv => lhs; whnf) ?_)
  refine qo_q rfl (q_int rfl rfl ⟨by omega, ?_⟩)
  intro n3 hn3
  replace hn3 := quoT hn3 (by omega) (by omega)
  have ht := tdiv_le (a := a) (b := b)
  rw [← hn3] at ht
  refine qo_q rfl (q_move (by conv => lhs; whnf) ?_)
  refine qo_q rfl (q_move (by conv => lhs; whnf) ?_)
  refine qo_q rfl (q_int rfl rfl ⟨by omega, ?_⟩)
  intro n4 hn4
  have hm := tmod_lt' (a := a) (b := b) (by omega)
  rw [← hn4] at hm
  refine qo_q rfl (q_callI rfl rfl (rfl) (D_impl_abs _ (by omega)) ?_)
  intro n5 hn5
  refine qo_q rfl (q_assign (by conv => lhs; whnf) ?_)
  refine qo_q rfl (q_assign (by conv => lhs; whnf) ?_)
  refine qo_nil ?_
  refine ev_nil (hK2 _ ?_); clear hK2
  refine good_seq fun K6 hK6 => ?_
  refine good_seq fun K7 hK7 => ?_
  refine good_region rfl ?_
  refine ev_q rfl (q_move (by conv => lhs; whnf) ?_)
  refine ev_q rfl (q_move (by conv => lhs; whnf) ?_)
  refine ev_q rfl (q_callI rfl rfl (rfl) (D_impl_abs _ (by omega)) ?_)
  intro n8 hn8
  refine ev_q rfl (q_move (by conv => lhs; whnf) ?_)
  refine ev_q rfl (q_int rfl rfl ?_)
  intro n9 hn9
  replace hn9 := in64 hn9 (by omega) (by omega)
  refine ev_q rfl (q_int rfl rfl ?_)
  intro b10 hb10; cases b10
  · replace hb10 := dF hb10
    refine ev_nil (hK7 _ ?_); clear hK7
    refine good_condF rfl ?_
    refine good_skip (hK6 _ ?_); clear hK6
    refine good_seq fun K11 hK11 => ?_
    refine good_region rfl ?_
    refine ev_q rfl (q_move (by conv => lhs; whnf) ?_)
    refine ev_q rfl (q_assign (by conv => lhs; whnf) ?_)
    refine ev_nil (hK11 _ ?_); clear hK11
    refine good_ret ?_
    repeat (first | refine thenQ_ret ?_ | refine blockQ_ret ?_)
    refine ret_tmp (st := _) rfl (by conv => lhs; whnf) rfl ?_
    exact fI (by rw [dr_eq (q := n3) (r := n5) (by omega) hn3 (by rw [hn5, hn4])]; first | (rw [if_neg (by omega)]) | (rw [if_pos (by omega)]; first | (rw [if_pos (decide_eq_decide.2 (by omega))]; omega) | (rw [if_neg (fun h => by have := decide_eq_decide.1 h; omega)]; omega)))
  · replace hb10 := dT hb10
    refine ev_nil (hK7 _ ?_); clear hK7
    refine good_condT rfl ?_
    refine good_seq fun K12 hK12 => ?_
    refine good_seq fun K13 hK13 => ?_
    refine good_region rfl ?_
    refine ev_q rfl (q_move (by conv => lhs; whnf) ?_)
    refine ev_q rfl (q_int rfl rfl ?_)
    intro b14 hb14; cases b14
    · replace hb14 := dF hb14
      refine ev_q rfl (q_move (by conv => lhs; whnf) ?_)
      refine ev_q rfl (q_int rfl rfl ?_)
      intro b15 hb15; cases b15
      · replace hb15 := dF hb15
        refine ev_q rfl (q_beq tB4 rfl rfl ?_)
        intro b16 hb16; replace hb16 : b16 = true := hb16; subst hb16
        refine ev_nil (hK13 _ ?_); clear hK13
        refine good_condT rfl ?_
        refine good_seq fun K17 hK17 => ?_
        refine good_region rfl ?_
        refine ev_q rfl (q_move (by conv => lhs; whnf) ?_)
        refine ev_q rfl (q_int rfl rfl ?_)
        intro n18 hn18
        replace hn18 := in64 hn18 (by omega) (by omega)
        refine ev_q rfl (q_assign (by conv => lhs; whnf) ?_)
        refine ev_nil (hK17 _ ?_); clear hK17
        refine good_ret ?_
        repeat (first | refine thenQ_ret ?_ | refine blockQ_ret ?_)
        refine ret_tmp (st := _) rfl (by conv => lhs; whnf) rfl ?_
        clear hK6 hK12
        exact fI (by rw [dr_eq (q := n3) (r := n5) (by omega) hn3 (by rw [hn5, hn4])]; first | (rw [if_neg (by omega)]) | (rw [if_pos (by omega)]; first | (rw [if_pos (decide_eq_decide.2 (by omega))]; omega) | (rw [if_neg (fun h => by have := decide_eq_decide.1 h; omega)]; omega)))
      · replace hb15 := dT hb15
        refine ev_q rfl (q_beq tB4 rfl rfl ?_)
        intro b19 hb19; replace hb19 : b19 = false := hb19; subst hb19
        refine ev_nil (hK13 _ ?_); clear hK13
        refine good_condF rfl ?_
        refine good_skip (hK12 _ ?_); clear hK12
        refine good_seq fun K20 hK20 => ?_
        refine good_region rfl ?_
        refine ev_q rfl (q_move (by conv => lhs; whnf) ?_)
        refine ev_q rfl (q_int rfl rfl ?_)
        intro n21 hn21
        replace hn21 := in64 hn21 (by omega) (by omega)
        refine ev_q rfl (q_assign (by conv => lhs; whnf) ?_)
        refine ev_nil (hK20 _ ?_); clear hK20
        refine good_ret ?_
        repeat (first | refine thenQ_ret ?_ | refine blockQ_ret ?_)
        refine ret_tmp (st := _) rfl (by conv => lhs; whnf) rfl ?_
        clear hK6
        exact fI (by rw [dr_eq (q := n3) (r := n5) (by omega) hn3 (by rw [hn5, hn4])]; first | (rw [if_neg (by omega)]) | (rw [if_pos (by omega)]; first | (rw [if_pos (decide_eq_decide.2 (by omega))]; omega) | (rw [if_neg (fun h => by have := decide_eq_decide.1 h; omega)]; omega)))
    · replace hb14 := dT hb14
      refine ev_q rfl (q_move (by conv => lhs; whnf) ?_)
      refine ev_q rfl (q_int rfl rfl ?_)
      intro b22 hb22; cases b22
      · replace hb22 := dF hb22
        refine ev_q rfl (q_beq tB4 rfl rfl ?_)
        intro b23 hb23; replace hb23 : b23 = false := hb23; subst hb23
        refine ev_nil (hK13 _ ?_); clear hK13
        refine good_condF rfl ?_
        refine good_skip (hK12 _ ?_); clear hK12
        refine good_seq fun K24 hK24 => ?_
        refine good_region rfl ?_
        refine ev_q rfl (q_move (by conv => lhs; whnf) ?_)
        refine ev_q rfl (q_int rfl rfl ?_)
        intro n25 hn25
        replace hn25 := in64 hn25 (by omega) (by omega)
        refine ev_q rfl (q_assign (by conv => lhs; whnf) ?_)
        refine ev_nil (hK24 _ ?_); clear hK24
        refine good_ret ?_
        repeat (first | refine thenQ_ret ?_ | refine blockQ_ret ?_)
        refine ret_tmp (st := _) rfl (by conv => lhs; whnf) rfl ?_
        clear hK6
        exact fI (by rw [dr_eq (q := n3) (r := n5) (by omega) hn3 (by rw [hn5, hn4])]; first | (rw [if_neg (by omega)]) | (rw [if_pos (by omega)]; first | (rw [if_pos (decide_eq_decide.2 (by omega))]; omega) | (rw [if_neg (fun h => by have := decide_eq_decide.1 h; omega)]; omega)))
      · replace hb22 := dT hb22
        refine ev_q rfl (q_beq tB4 rfl rfl ?_)
        intro b26 hb26; replace hb26 : b26 = true := hb26; subst hb26
        refine ev_nil (hK13 _ ?_); clear hK13
        refine good_condT rfl ?_
        refine good_seq fun K27 hK27 => ?_
        refine good_region rfl ?_
        refine ev_q rfl (q_move (by conv => lhs; whnf) ?_)
        refine ev_q rfl (q_int rfl rfl ?_)
        intro n28 hn28
        replace hn28 := in64 hn28 (by omega) (by omega)
        refine ev_q rfl (q_assign (by conv => lhs; whnf) ?_)
        refine ev_nil (hK27 _ ?_); clear hK27
        refine good_ret ?_
        repeat (first | refine thenQ_ret ?_ | refine blockQ_ret ?_)
        refine ret_tmp (st := _) rfl (by conv => lhs; whnf) rfl ?_
        clear hK6 hK12
        exact fI (by rw [dr_eq (q := n3) (r := n5) (by omega) hn3 (by rw [hn5, hn4])]; first | (rw [if_neg (by omega)]) | (rw [if_pos (by omega)]; first | (rw [if_pos (decide_eq_decide.2 (by omega))]; omega) | (rw [if_neg (fun h => by have := decide_eq_decide.1 h; omega)]; omega)))

theorem blB {x0 y0 x1 y1 x : Int} (h0 : -10000000 ≤ x0 ∧ x0 ≤ 10000000) (h1 : -10000000 ≤ y0 ∧ y0 ≤ 10000000) (h2 : -10000000 ≤ x1 ∧ x1 ≤ 10000000) (h3 : -10000000 ≤ y1 ∧ y1 ≤ 10000000) (h4 : x0 < x) (h5 : x < x1) : (-400000000000000 ≤ (y1 - y0) * (x - x0) ∧ (y1 - y0) * (x - x0) ≤ 400000000000000) ∧ (-400000000000001 ≤ dr ((y1 - y0) * (x - x0)) (x1 - x0) ∧ dr ((y1 - y0) * (x - x0)) (x1 - x0) ≤ 400000000000001) := by
  have a1 := mulS (a := y1 - y0) (b := x - x0) (A := 20000000) (B := 20000000) (by omega) (by omega) (by omega) (by omega)
  have a2 := dr_bound (a := (y1 - y0) * (x - x0)) (b := x1 - x0) (by omega)
  exact ⟨by omega, by omega⟩

-- impl.blend
set_option maxRecDepth 20000 in
set_option maxHeartbeats 2000000 in
theorem D_impl_blend (x0 y0 x1 y1 x : Int) (h0 : -10000000 ≤ x0 ∧ x0 ≤ 10000000) (h1 : -10000000 ≤ y0 ∧ y0 ≤ 10000000) (h2 : -10000000 ≤ x1 ∧ x1 ≤ 10000000) (h3 : -10000000 ≤ y1 ∧ y1 ≤ 10000000) : Den Tryd.prog 84 [.s (.int .i64 x0), .s (.int .i64 y0), .s (.int .i64 x1), .s (.int .i64 y1), .s (.int .i64 x)] (.s (.int .i64 (bl x0 y0 x1 y1 x))) := by
  refine den_of_good Tryd.func84 (by decide) rfl (Nat.le_of_ble_eq_true rfl) (Nat.le_of_ble_eq_true rfl) ?_
  refine good_seq fun K1 hK1 => ?_
  refine good_region rfl ?_
  refine ev_q rfl (q_assign (by conv => lhs; whnf) ?_)
  refine ev_nil (hK1 _ ?_); clear hK1
  refine good_seq fun K2 hK2 => ?_
  refine good_block ?_
  refine good_seq fun K3 hK3 => ?_
  refine good_region rfl ?_
  refine ev_q rfl (q_move (by conv => lhs; whnf) ?_)
  refine ev_q rfl (q_move (by conv => lhs; whnf) ?_)
  refine ev_q rfl (q_int rfl rfl ?_)
  intro b4 hb4; cases b4
  · replace hb4 := dF hb4
    refine ev_q rfl (q_move (by conv => lhs; whnf) ?_)
    refine ev_q rfl (q_move (by conv => lhs; whnf) ?_)
    refine ev_q rfl (q_move (by conv => lhs; whnf) ?_)
    refine ev_q rfl (q_int rfl rfl ?_)
    intro b5 hb5; cases b5
    · replace hb5 := dF hb5
      refine ev_q rfl (q_pickF rfl (by conv => lhs; whnf) ?_)
      refine ev_q rfl (q_assign (by conv => lhs; whnf) ?_)
      refine ev_nil (hK3 _ ?_); clear hK3
      refine good_condF rfl ?_
      refine good_seq fun K6 hK6 => ?_
      refine good_region rfl ?_
      refine ev_q rfl (q_move (by conv => lhs; whnf) ?_)
      refine ev_q rfl (q_move (by conv => lhs; whnf) ?_)
      refine ev_q rfl (q_int rfl rfl ?_)
      intro b7 hb7; cases b7
      · replace hb7 := dF hb7
        refine ev_q rfl (q_assign (by conv => lhs; whnf) ?_)
        refine ev_nil (hK6 _ ?_); clear hK6
        refine good_condF rfl ?_
        refine good_skip (hK2 _ ?_); clear hK2
        refine good_seq fun K8 hK8 => ?_
        refine good_region rfl ?_
        refine ev_q rfl (q_move (by conv => lhs; whnf) ?_)
        refine ev_q rfl (q_move (by conv => lhs; whnf) ?_)
        refine ev_q rfl (q_move (by conv => lhs; whnf) ?_)
        refine ev_q rfl (q_int rfl rfl ?_)
        intro n9 hn9
        have hb := blB h0 h1 h2 h3 (x := x) (by omega) (by omega)
        replace hn9 := in64 hn9 (by omega) (by omega)
        refine ev_q rfl (q_move (by conv => lhs; whnf) ?_)
        refine ev_q rfl (q_move (by conv => lhs; whnf) ?_)
        refine ev_q rfl (q_int rfl rfl ?_)
        intro n10 hn10
        replace hn10 := in64 hn10 (by omega) (by omega)
        refine ev_q rfl (q_int rfl rfl ?_)
        intro n11 hn11
        rw [hn9, hn10] at hn11
        replace hn11 := in64 hn11 (by omega) (by omega)
        refine ev_q rfl (q_move (by conv => lhs; whnf) ?_)
        refine ev_q rfl (q_move (by conv => lhs; whnf) ?_)
        refine ev_q rfl (q_int rfl rfl ?_)
        intro n12 hn12
        replace hn12 := in64 hn12 (by omega) (by omega)
        refine ev_q rfl (q_callI rfl rfl (rfl) (D_impl_divRound _ _ (by omega) (by omega)) ?_)
        intro n13 hn13
        rw [hn11, hn12] at hn13
        refine ev_q rfl (q_int rfl rfl ?_)
        intro n14 hn14
        replace hn14 := in64 hn14 (by omega) (by omega)
        refine ev_q rfl (q_assign (by conv => lhs; whnf) ?_)
        refine ev_nil (hK8 _ ?_); clear hK8
        refine good_ret ?_
        repeat (first | refine thenQ_ret ?_ | refine blockQ_ret ?_)
        refine ret_tmp (st := _) rfl (by conv => lhs; whnf) rfl ?_
        exact fI (by unfold bl; first | rw [if_pos (by omega)] | rw [if_neg (by omega), if_pos (by omega)] | (rw [if_neg (by omega), if_neg (by omega)]; omega))
      · replace hb7 := dT hb7
        refine ev_q rfl (q_assign (by conv => lhs; whnf) ?_)
        refine ev_nil (hK6 _ ?_); clear hK6
        refine good_condT rfl ?_
        refine good_seq fun K15 hK15 => ?_
        refine good_region rfl ?_
        refine ev_q rfl (q_move (by conv => lhs; whnf) ?_)
        refine ev_q rfl (q_assign (by conv => lhs; whnf) ?_)
        refine ev_nil (hK15 _ ?_); clear hK15
        refine good_ret ?_
        repeat (first | refine thenQ_ret ?_ | refine blockQ_ret ?_)
        refine ret_tmp (st := _) rfl (by conv => lhs; whnf) rfl ?_
        clear hK2
        exact fI (by unfold bl; first | rw [if_pos (by omega)] | rw [if_neg (by omega), if_pos (by omega)] | (rw [if_neg (by omega), if_neg (by omega)]; omega))
    · replace hb5 := dT hb5
      refine ev_q rfl (q_pickF rfl (by conv => lhs; whnf) ?_)
      refine ev_q rfl (q_assign (by conv => lhs; whnf) ?_)
      refine ev_nil (hK3 _ ?_); clear hK3
      refine good_condT rfl ?_
      refine good_seq fun K16 hK16 => ?_
      refine good_region rfl ?_
      refine ev_q rfl (q_move (by conv => lhs; whnf) ?_)
      refine ev_q rfl (q_assign (by conv => lhs; whnf) ?_)
      refine ev_nil (hK16 _ ?_); clear hK16
      refine good_ret ?_
      repeat (first | refine thenQ_ret ?_ | refine blockQ_ret ?_)
      refine ret_tmp (st := _) rfl (by conv => lhs; whnf) rfl ?_
      clear hK2
      exact fI (by unfold bl; first | rw [if_pos (by omega)] | rw [if_neg (by omega), if_pos (by omega)] | (rw [if_neg (by omega), if_neg (by omega)]; omega))
  · replace hb4 := dT hb4
    refine ev_q rfl (q_move (by conv => lhs; whnf) ?_)
    refine ev_skip rfl ?_
    refine ev_skip rfl ?_
    refine ev_skip rfl ?_
    refine ev_q rfl (q_pickT rfl (by conv => lhs; whnf) ?_)
    refine ev_q rfl (q_assign (by conv => lhs; whnf) ?_)
    refine ev_nil (hK3 _ ?_); clear hK3
    refine good_condT rfl ?_
    refine good_seq fun K17 hK17 => ?_
    refine good_region rfl ?_
    refine ev_q rfl (q_move (by conv => lhs; whnf) ?_)
    refine ev_q rfl (q_assign (by conv => lhs; whnf) ?_)
    refine ev_nil (hK17 _ ?_); clear hK17
    refine good_ret ?_
    repeat (first | refine thenQ_ret ?_ | refine blockQ_ret ?_)
    refine ret_tmp (st := _) rfl (by conv => lhs; whnf) rfl ?_
    clear hK2
    exact fI (by unfold bl; first | rw [if_pos (by omega)] | rw [if_neg (by omega), if_pos (by omega)] | (rw [if_neg (by omega), if_neg (by omega)]; omega))

-- sort.Search
set_option maxRecDepth 20000 in
set_option maxHeartbeats 2000000 in
theorem D_sort_Search (f : Nat) (caps : List AV) (p : Int → Prop) [DecidablePred p] (n : Nat) (hn : n ≤ 4611686018427387903) (mono : ∀ i j : Nat, i ≤ j → j < n → p i → p j) (hf : ∀ i : Nat, i < n → Den Tryd.prog f (.s (.int .i64 i) :: caps) (.s (.bool (decide (p i))))) : Den Tryd.prog 79 [.s (.int .i64 n), .fn f caps] (.s (.int .i64 (srN p n))) := by
  refine den_of_good Tryd.func79 (by decide) rfl (Nat.le_of_ble_eq_true rfl) (Nat.le_of_ble_eq_true rfl) ?_
  refine good_seq fun K1 hK1 => ?_
  refine good_region rfl ?_
  refine ev_q rfl (q_assign (by conv => lhs; whnf) ?_)
  refine ev_nil (hK1 _ ?_); clear hK1
  refine good_seq fun K2 hK2 => ?_
  refine good_region rfl ?_
  refine ev_q rfl (q_move (by conv => lhs; whnf) ?_)
  refine ev_q rfl (q_assign (by conv => lhs; whnf) ?_)
  refine ev_q rfl (q_assign (by conv => lhs; whnf) ?_)
  refine ev_nil (hK2 _ ?_); clear hK2
  refine good_seq fun K3 hK3 => ?_
  refine good_block ?_
  refine good_loop (α := Nat × Nat) (fun (i, j) => { env := upd (upd (upd ((fun _ => .junk)) 1 (.fn f caps)) 5 (.s (.int .i64 i))) 6 (.s (.int .i64 j)), H := fun _ => none }) (fun (i, j) => i ≤ j ∧ j ≤ n ∧ (∀ k : Nat, k < i → ¬ p k) ∧ (∀ k : Nat, j ≤ k → k < n → p k)) (fun (i, j) => j - i) (0, n) ?_ ?_ ?_
  · exact ⟨Nat.zero_le _, Nat.le_refl _, fun k h => absurd h (Nat.not_lt_zero _), fun k h1 h2 => absurd h1 (Nat.not_le_of_lt h2)⟩
  · refine sub_weak ?_ ?_
    · exact weakH_none _
    · refine weakE_upd ?e6 ?r6 (weakE_upd ?e5 ?r5 (weakE_upd ?e1 ?r1 (weakE_junk _ _)))
      case e1 => first | rfl | exact fI (by omega) | (simp_all)
      case r1 => intro h hh; cases hh
      case e5 => first | rfl | exact fI (by omega) | (simp_all)
      case r5 => intro h hh; cases hh
      case e6 => first | rfl | exact fI (by omega) | (simp_all)
      case r6 => intro h hh; cases hh
  · rintro ⟨i, j⟩ ⟨hI1, hI2, hI3, hI4⟩
    refine good_seq fun K4 hK4 => ?_
    refine good_seq fun K5 hK5 => ?_
    refine good_region rfl ?_
    refine ev_q rfl (q_move (by conv => lhs; whnf) ?_)
    refine ev_q rfl (q_move (by conv => lhs; whnf) ?_)
    refine ev_q rfl (q_int rfl rfl ?_)
    intro b6 hb6; cases b6
    · replace hb6 := dF hb6
      refine ev_nil (hK5 _ ?_); clear hK5
      refine good_condF rfl ?_
      refine good_exit ?_
      repeat (first | refine thenQ_exit ?_ | refine blockQ_pass rfl ?_)
      refine blockQ_exit (hK3 _ ?_); clear hK3
      refine good_seq fun K7 hK7 => ?_
      refine good_region rfl ?_
      refine ev_q rfl (q_move (by conv => lhs; whnf) ?_)
      refine ev_q rfl (q_assign (by conv => lhs; whnf) ?_)
      refine ev_nil (hK7 _ ?_); clear hK7
      refine good_ret ?_
      repeat (first | refine thenQ_ret ?_ | refine blockQ_ret ?_)
      refine ret_tmp (st := _) rfl (by conv => lhs; whnf) rfl ?_
      clear hK4
      exact fI (by rw [srN_uniq (p := p) (n := n) (k := i) (by omega) hI3 (fun h => hI4 i (by omega) h)])
    · replace hb6 := dT hb6
      refine ev_nil (hK5 _ ?_); clear hK5
      refine good_condT rfl ?_
      refine good_skip (hK4 _ ?_); clear hK4
      refine good_block ?_
      refine good_seq fun K8 hK8 => ?_
      refine good_region rfl ?_
      refine ev_q rfl (q_move (by conv => lhs; whnf) ?_)
      refine ev_q rfl (q_move (by conv => lhs; whnf) ?_)
      refine ev_q rfl (q_int rfl rfl ?_)
      intro n9 hn9
      replace hn9 := in64 hn9 (by omega) (by omega)
      refine ev_q rfl (q_conv tK3 tK135 rfl ?_)
      intro n10 hn10
      replace hn10 := wrapU hn10 (by omega) (by omega)
      refine ev_q rfl (q_shr rfl rfl ⟨by omega, ?_⟩)
      intro n11 hn11
      replace hn11 := shr1 hn11 (by omega)
      refine ev_q rfl (q_conv tK135 tK3 rfl ?_)
      intro n12 hn12
      replace hn12 := in64 hn12 (by omega) (by omega)
      obtain ⟨k, hk⟩ : ∃ k : Nat, n12 = (k : Int) := ⟨n12.toNat, by omega⟩
      subst hk
      have hkj : i ≤ k ∧ k < j := by omega
      refine ev_q rfl (q_assign (by conv => lhs; whnf) ?_)
      refine ev_nil (hK8 _ ?_); clear hK8
      refine good_seq fun K13 hK13 => ?_
      refine good_region rfl ?_
      refine ev_q rfl (q_move (by conv => lhs; whnf) ?_)
      refine ev_q rfl (q_move (by conv => lhs; whnf) ?_)
      refine ev_q rfl (q_callB rfl rfl (rfl) (hf _ (by omega)) ?_)
      intro b14 hb14; cases b14
      · first | replace hb14 := dF hb14 | skip
        refine ev_q rfl (q_not rfl rfl ?_)
        refine ev_nil (hK13 _ ?_); clear hK13
        refine good_condT rfl ?_
        refine good_region rfl ?_
        refine ev_q rfl (q_move (by conv => lhs; whnf) ?_)
        refine ev_q rfl (q_int rfl rfl ?_)
        intro n15 hn15
        replace hn15 := in64 hn15 (by omega) (by omega)
        refine ev_q rfl (q_assign (by conv => lhs; whnf) ?_)
        refine ev_nil ?_
        clear hK3
        refine ⟨(k + 1, j), ?_, ?_, ?_⟩
        · exact ⟨(show k + 1 ≤ j by omega), hI2, fun q hq hp => absurd (mono q k (Nat.le_of_lt_succ hq) (by omega) hp) (by assumption), hI4⟩
        · first | (show j - (k + 1) < j - i; omega) | (show k - i < j - i; omega)
        · refine sub_weak ?_ ?_
          · exact weakH_none _
          · refine weakE_upd ?e6 ?r6 (weakE_upd ?e5 ?r5 (weakE_upd ?e1 ?r1 (weakE_junk _ _)))
            case e1 => first | rfl | exact fI (by omega) | (simp_all)
            case r1 => intro h hh; cases hh
            case e5 => first | rfl | exact fI (by omega) | (simp_all)
            case r5 => intro h hh; cases hh
            case e6 => first | rfl | exact fI (by omega) | (simp_all)
            case r6 => intro h hh; cases hh
      · first | replace hb14 := dT hb14 | skip
        refine ev_q rfl (q_not rfl rfl ?_)
        refine ev_nil (hK13 _ ?_); clear hK13
        refine good_condF rfl ?_
        refine good_region rfl ?_
        refine ev_q rfl (q_move (by conv => lhs; whnf) ?_)
        refine ev_q rfl (q_assign (by conv => lhs; whnf) ?_)
        refine ev_nil ?_
        clear hK3
        refine ⟨(i, k), ?_, ?_, ?_⟩
        · exact ⟨hkj.1, (show k ≤ n by omega), hI3, fun q hq hqn => mono k q hq hqn (by assumption)⟩
        · first | (show j - (k + 1) < j - i; omega) | (show k - i < j - i; omega)
        · refine sub_weak ?_ ?_
          · exact weakH_none _
          · refine weakE_upd ?e6 ?r6 (weakE_upd ?e5 ?r5 (weakE_upd ?e1 ?r1 (weakE_junk _ _)))
            case e1 => first | rfl | exact fI (by omega) | (simp_all)
            case r1 => intro h hh; cases hh
            case e5 => first | rfl | exact fI (by omega) | (simp_all)
            case r5 => intro h hh; cases hh
            case e6 => first | rfl | exact fI (by omega) | (simp_all)
            case r6 => intro h hh; cases hh

-- impl.RootOf$1
set_option maxRecDepth 20000 in
set_option maxHeartbeats 2000000 in
theorem D_impl_RootOf_1 (a : Int) (r : Nat) (h : r ≤ 3037000498) : Den Tryd.prog 80 [.s (.int .i64 ((r : Int))), .rp [.s (.int .i64 a)]] (.s (.bool (decide (rtp a r)))) := by
  have hq := sq_bd (r := (r : Int) + 1) (by omega) (by omega)
  refine den_of_good Tryd.func80 (by decide) rfl (Nat.le_of_ble_eq_true rfl) (Nat.le_of_ble_eq_true rfl) ?_
  refine good_seq fun K1 hK1 => ?_
  refine good_region rfl ?_
  refine ev_q rfl (q_assign (by conv => lhs; whnf) ?_)
  refine ev_nil (hK1 _ ?_); clear hK1
  refine good_seq fun K2 hK2 => ?_
  refine good_region rfl ?_
  refine ev_q rfl (q_move (by conv => lhs; whnf) ?_)
  refine ev_q rfl (q_int rfl rfl ?_)
  intro n3 hn3
  replace hn3 := in64 hn3 (by omega) (by omega)
  refine ev_q rfl (q_move (by conv => lhs; whnf) ?_)
  refine ev_q rfl (q_int rfl rfl ?_)
  intro n4 hn4
  replace hn4 := in64 hn4 (by omega) (by omega)
  refine ev_q rfl (q_int rfl rfl ?_)
  intro n5 hn5
  rw [hn3, hn4] at hn5
  replace hn5 := in64 hn5 (by omega) (by omega)
  refine ev_q rfl (q_load tA2 rfl ?_)
  refine ev_q rfl (q_int rfl rfl ?_)
  intro b6 hb6; cases b6
  · replace hb6 := dF hb6
    refine ev_q rfl (q_assign (by conv => lhs; whnf) ?_)
    refine ev_nil (hK2 _ ?_); clear hK2
    refine good_ret ?_
    repeat (first | refine thenQ_ret ?_ | refine blockQ_ret ?_)
    refine ret_tmp (st := _) rfl (by conv => lhs; whnf) rfl ?_
    first | exact fT (by unfold rtp; omega) | exact fF (by unfold rtp; omega)
  · replace hb6 := dT hb6
    refine ev_q rfl (q_assign (by conv => lhs; whnf) ?_)
    refine ev_nil (hK2 _ ?_); clear hK2
    refine good_ret ?_
    repeat (first | refine thenQ_ret ?_ | refine blockQ_ret ?_)
    refine ret_tmp (st := _) rfl (by conv => lhs; whnf) rfl ?_
    first | exact fT (by unfold rtp; omega) | exact fF (by unfold rtp; omega)

-- impl.RootOf
set_option maxRecDepth 20000 in
set_option maxHeartbeats 2000000 in
theorem D_impl_RootOf (a : Int)  : Den Tryd.prog 40 [.s (.int .i64 a)] (.s (.int .i64 (rtF a))) := by
  refine den_of_good Tryd.func40 (by decide) rfl (Nat.le_of_ble_eq_true rfl) (Nat.le_of_ble_eq_true rfl) ?_
  refine good_seq fun K1 hK1 => ?_
  refine good_region rfl ?_
  refine ev_k rfl (k_box (by conv => lhs; whnf) rfl rfl rfl ?_)
  refine ev_q rfl (q_assign (by conv => lhs; whnf) ?_)
  refine ev_nil (hK1 _ ?_); clear hK1
  refine good_seq fun K2 hK2 => ?_
  refine good_seq fun K3 hK3 => ?_
  refine good_region rfl ?_
  refine ev_q rfl (q_load tA2 rfl ?_)
  refine ev_q rfl (q_int rfl rfl ?_)
  intro b4 hb4; cases b4
  · replace hb4 := dF hb4
    refine ev_nil (hK3 _ ?_); clear hK3
    refine good_condF rfl ?_
    refine good_skip (hK2 _ ?_); clear hK2
    refine good_seq fun K5 hK5 => ?_
    refine good_region rfl ?_
    refine ev_q rfl (q_clo rfl rfl ?_)
    refine ev_q rfl (q_callI rfl rfl (rfl) (D_sort_Search _ _ (rtp a) 3037000499 (by omega) (fun i j h1 h2 h3 => rtp_mono h1 h3) (fun i h => D_impl_RootOf_1 a i (by omega))) ?_)
    intro n6 hn6
    have h6 := hn6
    refine ev_q rfl (q_assign (by conv => lhs; whnf) ?_)
    refine ev_nil (hK5 _ ?_); clear hK5
    refine good_ret ?_
    repeat (first | refine thenQ_ret ?_ | refine blockQ_ret ?_)
    refine ret_tmp (st := _) rfl (by conv => lhs; whnf) rfl ?_
    first | exact fI (if_pos (by omega)).symm | exact fI (h6.trans (if_neg (by omega)).symm)
  · replace hb4 := dT hb4
    refine ev_nil (hK3 _ ?_); clear hK3
    refine good_condT rfl ?_
    refine good_seq fun K7 hK7 => ?_
    refine good_region rfl ?_
    refine ev_q rfl (q_assign (by conv => lhs; whnf) ?_)
    refine ev_nil (hK7 _ ?_); clear hK7
    refine good_ret ?_
    repeat (first | refine thenQ_ret ?_ | refine blockQ_ret ?_)
    refine ret_tmp (st := _) rfl (by conv => lhs; whnf) rfl ?_
    clear hK2
    first | exact fI (if_pos (by omega)).symm | exact fI (h6.trans (if_neg (by omega)).symm)

-- impl.DivRound
set_option maxRecDepth 20000 in
set_option maxHeartbeats 2000000 in
theorem D_impl_DivRound (a b : Int) (ha : -4000000000 ≤ a ∧ a ≤ 4000000000) (hb : 1 ≤ b ∧ b ≤ 5000) : Den Tryd.prog 41 [.s (.int .i64 a), .s (.int .i64 b)] (.s (.int .i64 (dr a b))) := by
  refine den_of_good Tryd.func41 (by decide) rfl (Nat.le_of_ble_eq_true rfl) (Nat.le_of_ble_eq_true rfl) ?_
  refine good_seq fun K1 hK1 => ?_
  refine good_region rfl ?_
  refine ev_q rfl (q_assign (by conv => lhs; whnf) ?_)
  refine ev_nil (hK1 _ ?_); clear hK1
  refine good_seq fun K2 hK2 => ?_
  refine good_seq fun K3 hK3 => ?_
  refine good_region rfl ?_
  refine ev_q rfl (q_move (by conv => lhs; whnf) ?_)
  refine ev_q rfl (q_int rfl rfl ?_)
  intro b4 hb4; cases b4
  · replace hb4 := eqF hb4
    refine ev_q rfl (q_move (by conv => lhs; whnf) ?_)
    refine ev_q rfl (q_move (by conv => lhs; whnf) ?_)
    refine ev_q rfl (q_callB rfl rfl (rfl) (D_impl_within ..) ?_)
    intro b5 hb5; cases b5
    · first | replace hb5 := dF hb5 | skip
      refine ev_q rfl (q_not rfl rfl ?_)
      refine ev_q rfl (q_pickF rfl (by conv => lhs; whnf) ?_)
      refine ev_q rfl (q_move (by conv => lhs; whnf) ?_)
      refine ev_skip rfl ?_
      refine ev_skip rfl ?_
      refine ev_skip rfl ?_
      refine ev_q rfl (q_pickT rfl (by conv => lhs; whnf) ?_)
      refine ev_nil (hK3 _ ?_); clear hK3
      refine good_condT rfl ?_
      refine good_seq fun K6 hK6 => ?_
      refine good_region rfl ?_
      refine ev_q rfl (q_assign (by conv => lhs; whnf) ?_)
      refine ev_nil (hK6 _ ?_); clear hK6
      refine good_ret ?_
      repeat (first | refine thenQ_ret ?_ | refine blockQ_ret ?_)
      refine ret_tmp (st := _) rfl (by conv => lhs; whnf) rfl ?_
      clear hK2
      first | rfl | exact fI (by assumption) | (exfalso; omega)
    · first | replace hb5 := dT hb5 | skip
      refine ev_q rfl (q_not rfl rfl ?_)
      refine ev_q rfl (q_pickF rfl (by conv => lhs; whnf) ?_)
      refine ev_q rfl (q_move (by conv => lhs; whnf) ?_)
      refine ev_q rfl (q_move (by conv => lhs; whnf) ?_)
      refine ev_q rfl (q_callB rfl rfl (rfl) (D_impl_within ..) ?_)
      intro b7 hb7; cases b7
      · first | replace hb7 := dF hb7 | skip
        refine ev_q rfl (q_not rfl rfl ?_)
        refine ev_q rfl (q_pickF rfl (by conv => lhs; whnf) ?_)
        refine ev_nil (hK3 _ ?_); clear hK3
        refine good_condT rfl ?_
        refine good_seq fun K8 hK8 => ?_
        refine good_region rfl ?_
        refine ev_q rfl (q_assign (by conv => lhs; whnf) ?_)
        refine ev_nil (hK8 _ ?_); clear hK8
        refine good_ret ?_
        repeat (first | refine thenQ_ret ?_ | refine blockQ_ret ?_)
        refine ret_tmp (st := _) rfl (by conv => lhs; whnf) rfl ?_
        clear hK2
        first | rfl | exact fI (by assumption) | (exfalso; omega)
      · first | replace hb7 := dT hb7 | skip
        refine ev_q rfl (q_not rfl rfl ?_)
        refine ev_q rfl (q_pickF rfl (by conv => lhs; whnf) ?_)
        refine ev_nil (hK3 _ ?_); clear hK3
        refine good_condF rfl ?_
        refine good_skip (hK2 _ ?_); clear hK2
        refine good_seq fun K9 hK9 => ?_
        refine good_region rfl ?_
        refine ev_q rfl (q_move (by conv => lhs; whnf) ?_)
        refine ev_q rfl (q_move (by conv => lhs; whnf) ?_)
        refine ev_q rfl (q_callI rfl rfl (rfl) (D_impl_divRound _ _ (by omega) (by omega)) ?_)
        intro n10 hn10
        refine ev_q rfl (q_assign (by conv => lhs; whnf) ?_)
        refine ev_nil (hK9 _ ?_); clear hK9
        refine good_ret ?_
        repeat (first | refine thenQ_ret ?_ | refine blockQ_ret ?_)
        refine ret_tmp (st := _) rfl (by conv => lhs; whnf) rfl ?_
        first | rfl | exact fI (by assumption) | (exfalso; omega)
  · replace hb4 := eqT hb4
    refine ev_q rfl (q_move (by conv => lhs; whnf) ?_)
    refine ev_skip rfl ?_
    refine ev_skip rfl ?_
    refine ev_skip rfl ?_
    refine ev_q rfl (q_pickT rfl (by conv => lhs; whnf) ?_)
    refine ev_q rfl (q_move (by conv => lhs; whnf) ?_)
    refine ev_skip rfl ?_
    refine ev_skip rfl ?_
    refine ev_skip rfl ?_
    refine ev_q rfl (q_pickT rfl (by conv => lhs; whnf) ?_)
    refine ev_nil (hK3 _ ?_); clear hK3
    refine good_condT rfl ?_
    refine good_seq fun K11 hK11 => ?_
    refine good_region rfl ?_
    refine ev_q rfl (q_assign (by conv => lhs; whnf) ?_)
    refine ev_nil (hK11 _ ?_); clear hK11
    refine good_ret ?_
    repeat (first | refine thenQ_ret ?_ | refine blockQ_ret ?_)
    refine ret_tmp (st := _) rfl (by conv => lhs; whnf) rfl ?_
    clear hK2
    first | rfl | exact fI (by assumption) | (exfalso; omega)

-- impl.Blend
set_option maxRecDepth 20000 in
set_option maxHeartbeats 2000000 in
theorem D_impl_Blend (y z x : Int) (hy : -2500 ≤ y ∧ y < 2500) (hz : -2500 ≤ z ∧ z < 2500) : Den Tryd.prog 44 [.s (.int .i64 0), .s (.int .i64 y), .s (.int .i64 1000), .s (.int .i64 z), .s (.int .i64 x)] (.s (.int .i64 (bl 0 y 1000 z x))) := by
  refine den_of_good Tryd.func44 (by decide) rfl (Nat.le_of_ble_eq_true rfl) (Nat.le_of_ble_eq_true rfl) ?_
  refine good_seq fun K1 hK1 => ?_
  refine good_region rfl ?_
  refine ev_q rfl (q_assign (by conv => lhs; whnf) ?_)
  refine ev_nil (hK1 _ ?_); clear hK1
  refine good_seq fun K2 hK2 => ?_
  refine good_seq fun K3 hK3 => ?_
  refine good_region rfl ?_
  refine ev_q rfl (q_move (by conv => lhs; whnf) ?_)
  refine ev_q rfl (q_move (by conv => lhs; whnf) ?_)
  refine ev_q rfl (q_move (by conv => lhs; whnf) ?_)
  refine ev_q rfl (q_move (by conv => lhs; whnf) ?_)
  refine ev_k rfl (k_build zA113 pl113 (rfl) ?_)
  refine ev_q rfl (q_move (by conv => lhs; whnf) ?_)
  refine ev_nil (hK3 _ ?_); clear hK3
  refine good_block ?_
  refine good_loop (α := Nat) (fun i => { env := upd (upd (upd (upd (upd (upd (upd ((fun _ => .junk)) 0 (.s (.int .i64 0))) 1 (.s (.int .i64 y))) 2 (.s (.int .i64 1000))) 3 (.s (.int .i64 z))) 4 (.s (.int .i64 x))) 17 (.agg ([0, y, 1000, z].map ci))) 18 (.s (.int .i64 ((i : Int)))), H := fun _ => none }) (fun i => i ≤ 4) (fun i => 4 - i) 0 ?_ ?_ ?_
  · exact Nat.zero_le _
  · refine sub_weak ?_ ?_
    · exact weakH_none _
    · refine weakE_upd ?e18 ?r18 (weakE_upd ?e17 ?r17 (weakE_upd ?e4 ?r4 (weakE_upd ?e3 ?r3 (weakE_upd ?e2 ?r2 (weakE_upd ?e1 ?r1 (weakE_upd ?e0 ?r0 (weakE_junk _ _)))))))
      case e0 => first | rfl | exact fI (by omega) | (simp_all)
      case r0 => intro h hh; cases hh
      case e1 => first | rfl | exact fI (by omega) | (simp_all)
      case r1 => intro h hh; cases hh
      case e2 => first | rfl | exact fI (by omega) | (simp_all)
      case r2 => intro h hh; cases hh
      case e3 => first | rfl | exact fI (by omega) | (simp_all)
      case r3 => intro h hh; cases hh
      case e4 => first | rfl | exact fI (by omega) | (simp_all)
      case r4 => intro h hh; cases hh
      case e17 => first | rfl | exact fI (by omega) | (simp_all)
      case r17 => intro h hh; cases hh
      case e18 => first | rfl | exact fI (by omega) | (simp_all)
      case r18 => intro h hh; cases hh
  · rintro i hI
    refine good_seq fun K4 hK4 => ?_
    refine good_region rfl ?_
    refine ev_q rfl (q_int rfl rfl ?_)
    intro b5 hb5; cases b5
    · replace hb5 := dF hb5
      refine ev_nil (hK4 _ ?_); clear hK4
      refine good_seq fun K6 hK6 => ?_
      refine good_condF rfl ?_
      refine good_exit ?_
      repeat (first | refine thenQ_exit ?_ | refine blockQ_pass rfl ?_)
      refine blockQ_exit (hK2 _ ?_); clear hK2
      refine good_seq fun K7 hK7 => ?_
      refine good_region rfl ?_
      refine ev_q rfl (q_move (by conv => lhs; whnf) ?_)
      refine ev_q rfl (q_move (by conv => lhs; whnf) ?_)
      refine ev_q rfl (q_move (by conv => lhs; whnf) ?_)
      refine ev_q rfl (q_move (by conv => lhs; whnf) ?_)
      refine ev_q rfl (q_move (by conv => lhs; whnf) ?_)
      refine ev_q rfl (q_callI rfl rfl (rfl) (D_impl_blend _ _ _ _ _ (by omega) (by omega) (by omega) (by omega)) ?_)
      intro n8 hn8
      refine ev_q rfl (q_assign (by conv => lhs; whnf) ?_)
      refine ev_nil (hK7 _ ?_); clear hK7
      refine good_ret ?_
      repeat (first | refine thenQ_ret ?_ | refine blockQ_ret ?_)
      refine ret_tmp (st := _) rfl (by conv => lhs; whnf) rfl ?_
      clear hK6
      first | rfl | exact fI (by assumption) | (exfalso; omega)
    · replace hb5 := dT hb5
      obtain ⟨q, hq⟩ := getL (xs := [0, y, 1000, z]) (n := (i : Int)) (by omega) (by simp; omega)
      have hqm : q = 0 ∨ q = y ∨ q = 1000 ∨ q = z := by have := List.mem_of_getElem? hq; simpa using this
      refine ev_nil (hK4 _ ?_); clear hK4
      refine good_seq fun K9 hK9 => ?_
      refine good_condT rfl ?_
      refine good_skip (hK9 _ ?_); clear hK9
      refine good_seq fun K10 hK10 => ?_
      refine good_block ?_
      refine good_seq fun K11 hK11 => ?_
      refine good_region rfl ?_
      refine ev_q rfl (q_indexV tArrP113 rfl rfl (by exact Int.natCast_nonneg _) (by exact map_get hq) (by omega) ?_)
      refine ev_q rfl (q_assign (by conv => lhs; whnf) ?_)
      refine ev_nil (hK11 _ ?_); clear hK11
      refine good_seq fun K12 hK12 => ?_
      refine good_region rfl ?_
      refine ev_q rfl (q_move (by conv => lhs; whnf) ?_)
      refine ev_q rfl (q_callB rfl rfl (rfl) (D_impl_within ..) ?_)
      intro b13 hb13; cases b13
      · first | replace hb13 := dF hb13 | skip
        refine ev_q rfl (q_not rfl rfl ?_)
        refine ev_nil (hK12 _ ?_); clear hK12
        refine good_condT rfl ?_
        refine good_seq fun K14 hK14 => ?_
        refine good_region rfl ?_
        refine ev_q rfl (q_assign (by conv => lhs; whnf) ?_)
        refine ev_nil (hK14 _ ?_); clear hK14
        refine good_ret ?_
        repeat (first | refine thenQ_ret ?_ | refine blockQ_ret ?_)
        refine ret_tmp (st := _) rfl (by conv => lhs; whnf) rfl ?_
        clear hK2 hK10
        first | rfl | exact fI (by assumption) | (exfalso; omega)
      · first | replace hb13 := dT hb13 | skip
        refine ev_q rfl (q_not rfl rfl ?_)
        refine ev_nil (hK12 _ ?_); clear hK12
        refine good_condF rfl ?_
        refine good_skip (hK10 _ ?_); clear hK10
        refine good_region rfl ?_
        refine ev_q rfl (q_int rfl rfl ?_)
        intro n15 hn15
        replace hn15 := in64 hn15 (by omega) (by omega)
        refine ev_q rfl (q_move (by conv => lhs; whnf) ?_)
        refine ev_nil ?_
        clear hK2
        refine ⟨i + 1, ?_, ?_, ?_⟩
        · show _ ≤ _; omega
        · first | omega | (simp only []; omega) | (dsimp only; omega)
        · refine sub_weak ?_ ?_
          · exact weakH_none _
          · refine weakE_upd ?e18 ?r18 (weakE_upd ?e17 ?r17 (weakE_upd ?e4 ?r4 (weakE_upd ?e3 ?r3 (weakE_upd ?e2 ?r2 (weakE_upd ?e1 ?r1 (weakE_upd ?e0 ?r0 (weakE_junk _ _)))))))
            case e0 => first | rfl | exact fI (by omega) | (simp_all)
            case r0 => intro h hh; cases hh
            case e1 => first | rfl | exact fI (by omega) | (simp_all)
            case r1 => intro h hh; cases hh
            case e2 => first | rfl | exact fI (by omega) | (simp_all)
            case r2 => intro h hh; cases hh
            case e3 => first | rfl | exact fI (by omega) | (simp_all)
            case r3 => intro h hh; cases hh
            case e4 => first | rfl | exact fI (by omega) | (simp_all)
            case r4 => intro h hh; cases hh
            case e17 => first | rfl | exact fI (by omega) | (simp_all)
            case r17 => intro h hh; cases hh
            case e18 => first | rfl | exact fI (by omega) | (simp_all)
            case r18 => intro h hh; cases hh

-- (*spec.l00Src).next
set_option maxRecDepth 20000 in
set_option maxHeartbeats 2000000 in
theorem D_spec_l00Src_next (cs : List Int) (a s : Int) (hc : cs.length ≤ 17592186044416) (hb : byteL cs) (ha : 0 ≤ a ∧ a ≤ 3999999999999999999)  : DenXR Tryd.prog 111 [(1000000, .box 133 (src cs a s))] [.ptr 1000000 0] (τ := Int × Int × Int) (fun (v, a1, s1) => (0 ≤ v ∧ v ≤ 255) ∧ (a ≤ a1 ∧ a1 ≤ a + 1)) (fun (v, a1, s1) => [(1000000, .box 133 (src cs a1 s1))]) (fun (v, a1, s1) => .s (.int .i64 v)) := by
  refine denXR_of_good Tryd.func111 (by decide) rfl (Nat.le_of_ble_eq_true rfl) (Nat.le_of_ble_eq_true rfl) rfl ?_
  refine good_seq fun K1 hK1 => ?_
  refine good_region rfl ?_
  refine ev_q rfl (q_assign (by conv => lhs; whnf) ?_)
  refine ev_nil (hK1 _ ?_); clear hK1
  refine good_seq fun K2 hK2 => ?_
  refine good_region rfl ?_
  refine ev_q rfl (q_assign (by conv => lhs; whnf) ?_)
  refine ev_nil (hK2 _ ?_); clear hK2
  refine good_seq fun K3 hK3 => ?_
  refine good_seq fun K4 hK4 => ?_
  refine good_draw 10 hmix (by kernel_rfl) rfl ?_
  refine qo_q rfl (q_move (by conv => lhs; whnf) ?_)
  refine qo_q rfl (q_nilCheck (by conv => lhs; whnf) rfl ?_)
  refine qo_q rfl (q_fieldAddrP fO133_1 rfl rfl ?_)
  refine qo_q rfl (q_load tA3 rfl ?_)
  refine qo_q rfl (q_move (by conv => lhs; whnf) ?_)
  refine qo_q rfl (q_nilCheck (by conv => lhs; whnf) rfl ?_)
  refine qo_q rfl (q_fieldAddrP fO133_0 rfl rfl ?_)
  refine qo_q rfl (q_load tA61 rfl ?_)
  refine qo_q rfl (q_len tEs61 rfl ?_)
  intro n5 hn5
  try simp only [List.length_map] at hn5
  refine qo_q rfl (q_int rfl rfl ?_)
  intro b6 hb6; cases b6
  · replace hb6 := dF hb6
    refine qo_nil ?_
    refine ev_nil (hK4 _ ?_); clear hK4
    refine good_condF rfl ?_
    refine good_skip (hK3 _ ?_); clear hK3
    refine good_seq fun K7 hK7 => ?_
    refine good_region rfl ?_
    refine ev_q rfl (q_move (by conv => lhs; whnf) ?_)
    refine ev_q rfl (q_nilCheck (by conv => lhs; whnf) rfl ?_)
    refine ev_q rfl (q_fieldAddrP fO133_1 rfl rfl ?_)
    refine ev_q rfl (q_load tA3 rfl ?_)
    refine ev_q rfl (q_int rfl rfl ?_)
    intro n8 hn8
    replace hn8 := in64 hn8 (by omega) (by omega)
    refine ev_q rfl (q_nilCheck (by conv => lhs; whnf) rfl ?_)
    refine ev_q rfl (q_fieldAddrP fO133_1 rfl rfl ?_)
    refine ev_k rfl (k_store sz3 rfl (by conv => lhs; whnf) rfl rfl rfl (Nat.le_of_ble_eq_true rfl) rfl ?_)
    refine ev_nil (hK7 _ ?_); clear hK7
    refine good_seq fun K9 hK9 => ?_
    refine good_region rfl ?_
    refine ev_q rfl (q_move (by conv => lhs; whnf) ?_)
    refine ev_q rfl (q_move (by conv => lhs; whnf) ?_)
    refine ev_q rfl (q_nilCheck (by conv => lhs; whnf) rfl ?_)
    refine ev_q rfl (q_fieldAddrP fO133_2 rfl rfl ?_)
    refine ev_q rfl (q_load tA131 rfl ?_)
    refine ev_q rfl (q_int rfl rfl ?_)
    intro n10 hn10
    skip
    refine ev_q rfl (q_move (by conv => lhs; whnf) ?_)
    refine ev_q rfl (q_conv tK3 tK131 rfl ?_)
    intro n11 hn11
    skip
    refine ev_q rfl (q_int rfl rfl ?_)
    intro n12 hn12
    skip
    refine ev_q rfl (q_int rfl rfl ?_)
    intro n13 hn13
    skip
    refine ev_q rfl (q_nilCheck (by conv => lhs; whnf) rfl ?_)
    refine ev_q rfl (q_fieldAddrP fO133_2 rfl rfl ?_)
    refine ev_k rfl (k_store sz131 rfl (by conv => lhs; whnf) rfl rfl rfl (Nat.le_of_ble_eq_true rfl) rfl ?_)
    refine ev_nil (hK9 _ ?_); clear hK9
    refine good_seq fun K14 hK14 => ?_
    refine good_seq fun K15 hK15 => ?_
    refine good_draw 10 hmix (by kernel_rfl) rfl ?_
    refine qo_q rfl (q_move (by conv => lhs; whnf) ?_)
    refine qo_q rfl (q_nilCheck (by conv => lhs; whnf) rfl ?_)
    refine qo_q rfl (q_fieldAddrP fO133_1 rfl rfl ?_)
    refine qo_q rfl (q_load tA3 rfl ?_)
    refine qo_q rfl (q_move (by conv => lhs; whnf) ?_)
    refine qo_q rfl (q_nilCheck (by conv => lhs; whnf) rfl ?_)
    refine qo_q rfl (q_fieldAddrP fO133_0 rfl rfl ?_)
    refine qo_q rfl (q_load tA61 rfl ?_)
    refine qo_q rfl (q_len tEs61 rfl ?_)
    intro n16 hn16
    try simp only [List.length_map] at hn16
    refine qo_q rfl (q_int rfl rfl ?_)
    intro b17 hb17; cases b17
    · replace hb17 := dF hb17
      refine qo_nil ?_
      refine ev_nil (hK15 _ ?_); clear hK15
      refine good_condF rfl ?_
      refine good_skip (hK14 _ ?_); clear hK14
      refine good_seq fun K18 hK18 => ?_
      refine good_region rfl ?_
      refine ev_q rfl (q_move (by conv => lhs; whnf) ?_)
      refine ev_q rfl (q_nilCheck (by conv => lhs; whnf) rfl ?_)
      refine ev_q rfl (q_fieldAddrP fO133_2 rfl rfl ?_)
      refine ev_q rfl (q_load tA131 rfl ?_)
      refine ev_q rfl (q_shr rfl rfl ⟨by omega, ?_⟩)
      intro n19 hn19
      skip
      refine ev_q rfl (q_int rfl rfl ?_)
      intro n20 hn20
      have hv := and255 hn20
      refine ev_q rfl (q_conv tK131 tK2 rfl ?_)
      intro n21 hn21
      replace hn21 := in64 hn21 (by omega) (by omega)
      refine ev_q rfl (q_assign (by conv => lhs; whnf) ?_)
      refine ev_nil (hK18 _ ?_); clear hK18
      refine good_ret ?_
      repeat (first | refine thenQ_ret ?_ | refine blockQ_ret ?_)
      apply ex_3
      case hF =>
        refine fx_tmp rfl (by conv => lhs; whnf) ?_
        exact ⟨_, conv_eq (by first | rfl | exact fI (by first | omega | grind) | (exfalso; first | omega | grind)), weakH_box (boxEq (by first | rfl | (rw [e]; done) | (rw [e]; rfl) | (simp_all; done))) rfl (weakH_none _), refsIn_ok rfl⟩
      case hR =>
        exact ⟨by omega, by omega⟩
    · replace hb17 := dT hb17
      refine qo_nil ?_
      refine ev_nil (hK15 _ ?_); clear hK15
      refine good_condT rfl ?_
      refine good_seq fun K22 hK22 => ?_
      refine good_region rfl ?_
      refine ev_q rfl (q_move (by conv => lhs; whnf) ?_)
      refine ev_q rfl (q_assign (by conv => lhs; whnf) ?_)
      refine ev_nil (hK22 _ ?_); clear hK22
      refine good_ret ?_
      repeat (first | refine thenQ_ret ?_ | refine blockQ_ret ?_)
      clear hK14
      apply ex_3
      case hF =>
        refine fx_tmp rfl (by conv => lhs; whnf) ?_
        exact ⟨_, conv_eq (by first | rfl | exact fI (by first | omega | grind) | (exfalso; first | omega | grind)), weakH_box (boxEq (by first | rfl | (rw [e]; done) | (rw [e]; rfl) | (simp_all; done))) rfl (weakH_none _), refsIn_ok rfl⟩
      case hR =>
        exact ⟨by omega, by omega⟩
  · replace hb6 := dT hb6
    obtain ⟨p, hp⟩ := getL (xs := cs) (n := a) (by omega) (by omega)
    have hpb := hb p (List.mem_of_getElem? hp)
    refine qo_nil ?_
    refine ev_nil (hK4 _ ?_); clear hK4
    refine good_condT rfl ?_
    refine good_draw 12 hmix (by kernel_rfl) rfl ?_
    refine qo_q rfl (q_move (by conv => lhs; whnf) ?_)
    refine qo_q rfl (q_nilCheck (by conv => lhs; whnf) rfl ?_)
    refine qo_q rfl (q_fieldAddrP fO133_0 rfl rfl ?_)
    refine qo_q rfl (q_load tA61 rfl ?_)
    refine qo_q rfl (q_move (by conv => lhs; whnf) ?_)
    refine qo_q rfl (q_nilCheck (by conv => lhs; whnf) rfl ?_)
    refine qo_q rfl (q_fieldAddrP fO133_1 rfl rfl ?_)
    refine qo_q rfl (q_load tA3 rfl ?_)
    refine qo_q rfl (q_idx tE61 rfl rfl (by omega) (by exact map_get hp) rfl ?_)
    refine qo_q rfl (q_load tA5 rfl ?_)
    refine qo_q rfl (q_conv tK5 tK3 rfl ?_)
    intro n23 hn23
    replace hn23 := in64 hn23 (by omega) (by omega)
    refine qo_q rfl (q_assign (by conv => lhs; whnf) ?_)
    refine qo_nil ?_
    refine ev_nil (hK3 _ ?_); clear hK3
    refine good_seq fun K24 hK24 => ?_
    refine good_region rfl ?_
    refine ev_q rfl (q_move (by conv => lhs; whnf) ?_)
    refine ev_q rfl (q_nilCheck (by conv => lhs; whnf) rfl ?_)
    refine ev_q rfl (q_fieldAddrP fO133_1 rfl rfl ?_)
    refine ev_q rfl (q_load tA3 rfl ?_)
    refine ev_q rfl (q_int rfl rfl ?_)
    intro n25 hn25
    replace hn25 := in64 hn25 (by omega) (by omega)
    refine ev_q rfl (q_nilCheck (by conv => lhs; whnf) rfl ?_)
    refine ev_q rfl (q_fieldAddrP fO133_1 rfl rfl ?_)
    refine ev_k rfl (k_store sz3 rfl (by conv => lhs; whnf) rfl rfl rfl (Nat.le_of_ble_eq_true rfl) rfl ?_)
    refine ev_nil (hK24 _ ?_); clear hK24
    refine good_seq fun K26 hK26 => ?_
    refine good_region rfl ?_
    refine ev_q rfl (q_move (by conv => lhs; whnf) ?_)
    refine ev_q rfl (q_move (by conv => lhs; whnf) ?_)
    refine ev_q rfl (q_nilCheck (by conv => lhs; whnf) rfl ?_)
    refine ev_q rfl (q_fieldAddrP fO133_2 rfl rfl ?_)
    refine ev_q rfl (q_load tA131 rfl ?_)
    refine ev_q rfl (q_int rfl rfl ?_)
    intro n27 hn27
    skip
    refine ev_q rfl (q_move (by conv => lhs; whnf) ?_)
    refine ev_q rfl (q_conv tK3 tK131 rfl ?_)
    intro n28 hn28
    skip
    refine ev_q rfl (q_int rfl rfl ?_)
    intro n29 hn29
    skip
    refine ev_q rfl (q_int rfl rfl ?_)
    intro n30 hn30
    skip
    refine ev_q rfl (q_nilCheck (by conv => lhs; whnf) rfl ?_)
    refine ev_q rfl (q_fieldAddrP fO133_2 rfl rfl ?_)
    refine ev_k rfl (k_store sz131 rfl (by conv => lhs; whnf) rfl rfl rfl (Nat.le_of_ble_eq_true rfl) rfl ?_)
    refine ev_nil (hK26 _ ?_); clear hK26
    refine good_seq fun K31 hK31 => ?_
    refine good_seq fun K32 hK32 => ?_
    refine good_draw 10 hmix (by kernel_rfl) rfl ?_
    refine qo_q rfl (q_move (by conv => lhs; whnf) ?_)
    refine qo_q rfl (q_nilCheck (by conv => lhs; whnf) rfl ?_)
    refine qo_q rfl (q_fieldAddrP fO133_1 rfl rfl ?_)
    refine qo_q rfl (q_load tA3 rfl ?_)
    refine qo_q rfl (q_move (by conv => lhs; whnf) ?_)
    refine qo_q rfl (q_nilCheck (by conv => lhs; whnf) rfl ?_)
    refine qo_q rfl (q_fieldAddrP fO133_0 rfl rfl ?_)
    refine qo_q rfl (q_load tA61 rfl ?_)
    refine qo_q rfl (q_len tEs61 rfl ?_)
    intro n33 hn33
    try simp only [List.length_map] at hn33
    refine qo_q rfl (q_int rfl rfl ?_)
    intro b34 hb34; cases b34
    · replace hb34 := dF hb34
      refine qo_nil ?_
      refine ev_nil (hK32 _ ?_); clear hK32
      refine good_condF rfl ?_
      refine good_skip (hK31 _ ?_); clear hK31
      refine good_seq fun K35 hK35 => ?_
      refine good_region rfl ?_
      refine ev_q rfl (q_move (by conv => lhs; whnf) ?_)
      refine ev_q rfl (q_nilCheck (by conv => lhs; whnf) rfl ?_)
      refine ev_q rfl (q_fieldAddrP fO133_2 rfl rfl ?_)
      refine ev_q rfl (q_load tA131 rfl ?_)
      refine ev_q rfl (q_shr rfl rfl ⟨by omega, ?_⟩)
      intro n36 hn36
      skip
      refine ev_q rfl (q_int rfl rfl ?_)
      intro n37 hn37
      have hv := and255 hn37
      refine ev_q rfl (q_conv tK131 tK2 rfl ?_)
      intro n38 hn38
      replace hn38 := in64 hn38 (by omega) (by omega)
      refine ev_q rfl (q_assign (by conv => lhs; whnf) ?_)
      refine ev_nil (hK35 _ ?_); clear hK35
      refine good_ret ?_
      repeat (first | refine thenQ_ret ?_ | refine blockQ_ret ?_)
      apply ex_3
      case hF =>
        refine fx_tmp rfl (by conv => lhs; whnf) ?_
        exact ⟨_, conv_eq (by first | rfl | exact fI (by first | omega | grind) | (exfalso; first | omega | grind)), weakH_box (boxEq (by first | rfl | (rw [e]; done) | (rw [e]; rfl) | (simp_all; done))) rfl (weakH_none _), refsIn_ok rfl⟩
      case hR =>
        exact ⟨by omega, by omega⟩
    · replace hb34 := dT hb34
      refine qo_nil ?_
      refine ev_nil (hK32 _ ?_); clear hK32
      refine good_condT rfl ?_
      refine good_seq fun K39 hK39 => ?_
      refine good_region rfl ?_
      refine ev_q rfl (q_move (by conv => lhs; whnf) ?_)
      refine ev_q rfl (q_assign (by conv => lhs; whnf) ?_)
      refine ev_nil (hK39 _ ?_); clear hK39
      refine good_ret ?_
      repeat (first | refine thenQ_ret ?_ | refine blockQ_ret ?_)
      clear hK31
      apply ex_3
      case hF =>
        refine fx_tmp rfl (by conv => lhs; whnf) ?_
        exact ⟨_, conv_eq (by first | rfl | exact fI (by first | omega | grind) | (exfalso; first | omega | grind)), weakH_box (boxEq (by first | rfl | (rw [e]; done) | (rw [e]; rfl) | (simp_all; done))) rfl (weakH_none _), refsIn_ok rfl⟩
      case hR =>
        exact ⟨by omega, by omega⟩

-- (*spec.l00Src).pick
set_option maxRecDepth 20000 in
set_option maxHeartbeats 2000000 in
theorem D_spec_l00Src_pick (cs : List Int) (a s : Int) (n : Int) (hc : cs.length ≤ 17592186044416) (hb : byteL cs) (ha : 0 ≤ a ∧ a ≤ 3999999999999999998) (hn : -1000000000000 ≤ n ∧ n ≤ 1000000000000) : DenXR Tryd.prog 78 [(1000000, .box 133 (src cs a s))] [.ptr 1000000 0, .s (.int .i64 n)] (τ := Int × Int × Int) (fun (v, a1, s1) => (0 ≤ v ∧ (v = 0 ∨ v < n)) ∧ (a ≤ a1 ∧ a1 ≤ a + 2)) (fun (v, a1, s1) => [(1000000, .box 133 (src cs a1 s1))]) (fun (v, a1, s1) => .s (.int .i64 v)) := by
  refine denXR_of_good Tryd.func78 (by decide) rfl (Nat.le_of_ble_eq_true rfl) (Nat.le_of_ble_eq_true rfl) rfl ?_
  refine good_seq fun K1 hK1 => ?_
  refine good_region rfl ?_
  refine ev_q rfl (q_assign (by conv => lhs; whnf) ?_)
  refine ev_nil (hK1 _ ?_); clear hK1
  refine good_seq fun K2 hK2 => ?_
  refine good_seq fun K3 hK3 => ?_
  refine good_region rfl ?_
  refine ev_q rfl (q_move (by conv => lhs; whnf) ?_)
  refine ev_q rfl (q_int rfl rfl ?_)
  intro b4 hb4; cases b4
  · replace hb4 := dF hb4
    refine ev_nil (hK3 _ ?_); clear hK3
    refine good_condF rfl ?_
    refine good_skip (hK2 _ ?_); clear hK2
    refine good_seq fun K5 hK5 => ?_
    refine good_region rfl ?_
    refine ev_q rfl (q_move (by conv => lhs; whnf) ?_)
    refine ev_k rfl (k_callR [(1000000, 1000000)] (D_spec_l00Src_next cs _ _  hc hb (by omega)) rfl (rfl) (rfl) ⟨rfl, trivial⟩ rfl (by rintro ⟨v6, a6, s6⟩ ⟨hx6_0, hx6_1⟩; exact ⟨⟨rfl, rfl, trivial⟩, rfl⟩) rfl rfl ?_)
    rintro ⟨v6, a6, s6⟩ ⟨hx6_0, hx6_1⟩
    refine ev_q rfl (q_assign (by conv => lhs; whnf) ?_)
    refine ev_nil (hK5 _ ?_); clear hK5
    refine good_seq fun K7 hK7 => ?_
    refine good_seq fun K8 hK8 => ?_
    refine good_region rfl ?_
    refine ev_q rfl (q_move (by conv => lhs; whnf) ?_)
    refine ev_q rfl (q_int rfl rfl ?_)
    intro b9 hb9; cases b9
    · replace hb9 := dF hb9
      refine ev_nil (hK8 _ ?_); clear hK8
      refine good_condF rfl ?_
      refine good_skip (hK7 _ ?_); clear hK7
      refine good_seq fun K10 hK10 => ?_
      refine good_region rfl ?_
      refine ev_q rfl (q_move (by conv => lhs; whnf) ?_)
      refine ev_q rfl (q_move (by conv => lhs; whnf) ?_)
      refine ev_q rfl (q_int rfl rfl ⟨by omega, ?_⟩)
      intro n11 hn11
      replace hn11 := remE hn11 (by omega)
      have hr : 0 ≤ n11 ∧ n11 < n := by rw [hn11]; exact ⟨Int.emod_nonneg _ (by omega), Int.emod_lt_of_pos _ (by omega)⟩
      refine ev_q rfl (q_assign (by conv => lhs; whnf) ?_)
      refine ev_nil (hK10 _ ?_); clear hK10
      refine good_ret ?_
      repeat (first | refine thenQ_ret ?_ | refine blockQ_ret ?_)
      apply ex_3
      case hF =>
        refine fx_tmp rfl (by conv => lhs; whnf) ?_
        exact ⟨_, conv_eq (by first | rfl | exact fI (by first | omega | grind) | (exfalso; first | omega | grind)), weakH_box (boxEq (by first | rfl | (rw [e]; done) | (rw [e]; rfl) | (simp_all; done))) rfl (weakH_none _), refsIn_ok rfl⟩
      case hR =>
        exact ⟨by omega, by omega⟩
    · replace hb9 := dT hb9
      refine ev_nil (hK8 _ ?_); clear hK8
      refine good_condT rfl ?_
      refine good_region rfl ?_
      refine ev_q rfl (q_move (by conv => lhs; whnf) ?_)
      refine ev_q rfl (q_int rfl rfl ?_)
      intro n12 hn12
      replace hn12 := in64 hn12 (by omega) (by omega)
      refine ev_q rfl (q_move (by conv => lhs; whnf) ?_)
      refine ev_k rfl (k_callR [(1000000, 1000000)] (D_spec_l00Src_next cs _ _  hc hb (by omega)) rfl (rfl) (rfl) ⟨rfl, trivial⟩ rfl (by rintro ⟨v13, a13, s13⟩ ⟨hx13_0, hx13_1⟩; exact ⟨⟨rfl, rfl, trivial⟩, rfl⟩) rfl rfl ?_)
      rintro ⟨v13, a13, s13⟩ ⟨hx13_0, hx13_1⟩
      refine ev_q rfl (q_int rfl rfl ?_)
      intro n14 hn14
      replace hn14 := in64 hn14 (by omega) (by omega)
      refine ev_q rfl (q_assign (by conv => lhs; whnf) ?_)
      refine ev_nil (hK7 _ ?_); clear hK7
      refine good_seq fun K15 hK15 => ?_
      refine good_region rfl ?_
      refine ev_q rfl (q_move (by conv => lhs; whnf) ?_)
      refine ev_q rfl (q_move (by conv => lhs; whnf) ?_)
      refine ev_q rfl (q_int rfl rfl ⟨by omega, ?_⟩)
      intro n16 hn16
      replace hn16 := remE hn16 (by omega)
      have hr : 0 ≤ n16 ∧ n16 < n := by rw [hn16]; exact ⟨Int.emod_nonneg _ (by omega), Int.emod_lt_of_pos _ (by omega)⟩
      refine ev_q rfl (q_assign (by conv => lhs; whnf) ?_)
      refine ev_nil (hK15 _ ?_); clear hK15
      refine good_ret ?_
      repeat (first | refine thenQ_ret ?_ | refine blockQ_ret ?_)
      apply ex_3
      case hF =>
        refine fx_tmp rfl (by conv => lhs; whnf) ?_
        exact ⟨_, conv_eq (by first | rfl | exact fI (by first | omega | grind) | (exfalso; first | omega | grind)), weakH_box (boxEq (by first | rfl | (rw [e]; done) | (rw [e]; rfl) | (simp_all; done))) rfl (weakH_none _), refsIn_ok rfl⟩
      case hR =>
        exact ⟨by omega, by omega⟩
  · replace hb4 := dT hb4
    refine ev_nil (hK3 _ ?_); clear hK3
    refine good_condT rfl ?_
    refine good_seq fun K17 hK17 => ?_
    refine good_region rfl ?_
    refine ev_q rfl (q_assign (by conv => lhs; whnf) ?_)
    refine ev_nil (hK17 _ ?_); clear hK17
    refine good_ret ?_
    repeat (first | refine thenQ_ret ?_ | refine blockQ_ret ?_)
    clear hK2
    apply ex_3
    case hF =>
      refine fx_tmp rfl (by conv => lhs; whnf) ?_
      exact ⟨_, conv_eq (by first | rfl | exact fI (by first | omega | grind) | (exfalso; first | omega | grind)), weakH_box (boxEq (by first | rfl | (rw [e]; done) | (rw [e]; rfl) | (simp_all; done))) rfl (weakH_none _), refsIn_ok rfl⟩
    case hR =>
      exact ⟨by omega, by omega⟩

-- spec.l00From
set_option maxRecDepth 20000 in
set_option maxHeartbeats 2000000 in
theorem D_spec_l00From (cs : List Int)  : DenX Tryd.prog 77 [] [.lst 1 (cs.map cb)] [(5, .box 133 (src cs 0 0))] (.ptr 5 0) := by
  refine denX_of_good Tryd.func77 (by decide) rfl (Nat.le_of_ble_eq_true rfl) (Nat.le_of_ble_eq_true rfl) rfl ?_
  refine good_seq fun K1 hK1 => ?_
  refine good_region rfl ?_
  refine ev_q rfl (q_assign (by conv => lhs; whnf) ?_)
  refine ev_nil (hK1 _ ?_); clear hK1
  refine good_seq fun K2 hK2 => ?_
  refine good_region rfl ?_
  refine ev_q rfl (q_move (by conv => lhs; whnf) ?_)
  refine ev_k rfl (k_build zA133 pl133 (rfl) ?_)
  refine ev_k rfl (k_box (by conv => lhs; whnf) rfl rfl rfl ?_)
  refine ev_q rfl (q_assign (by conv => lhs; whnf) ?_)
  refine ev_nil (hK2 _ ?_); clear hK2
  refine good_ret ?_
  repeat (first | refine thenQ_ret ?_ | refine blockQ_ret ?_)
  refine fx_tmp rfl (by conv => lhs; whnf) ?_
  exact ⟨_, conv_eq (by first | rfl | (rw [e]; done) | (rw [e]; rfl) | exact ownEq (by first | omega | simp_all)), weakH_box (boxEq (by first | rfl | (rw [e]; done) | (rw [e]; rfl) | (simp_all; done))) rfl (weakH_none _), refsIn_ok rfl⟩

-- spec.R8Numbers
set_option maxRecDepth 20000 in
set_option maxHeartbeats 2000000 in
theorem D_spec_R8Numbers (cs : List Int) (hc : cs.length ≤ 17592186044416) (hb : byteL cs) : DenXR Tryd.prog 39 [] [.lst 1 (cs.map cb)] (τ := Int × Int) (fun (x, y) => (-100000 ≤ x ∧ x ≤ 3600000000) ∧ (1 ≤ y ∧ y ≤ 5000)) (fun (x, y) => []) (fun (x, y) => .tup [.s (.int .i64 x), .s (.int .i64 y)]) := by
  refine denXR_of_good Tryd.func39 (by decide) rfl (Nat.le_of_ble_eq_true rfl) (Nat.le_of_ble_eq_true rfl) rfl ?_
  refine good_seq fun K1 hK1 => ?_
  refine good_region rfl ?_
  refine ev_q rfl (q_assign (by conv => lhs; whnf) ?_)
  refine ev_q rfl (q_assign (by conv => lhs; whnf) ?_)
  refine ev_nil (hK1 _ ?_); clear hK1
  refine good_seq fun K2 hK2 => ?_
  refine good_region rfl ?_
  refine ev_q rfl (q_move (by conv => lhs; whnf) ?_)
  refine ev_k rfl (k_callX [(5, 900000)] (D_spec_l00From cs) rfl (rfl) (rfl) trivial ⟨⟨rfl, show (900000 : Nat) < 1000000 by decide⟩, trivial⟩ rfl rfl rfl ?_)
  refine ev_q rfl (q_assign (by conv => lhs; whnf) ?_)
  refine ev_nil (hK2 _ ?_); clear hK2
  refine good_seq fun K3 hK3 => ?_
  refine good_region rfl ?_
  refine ev_q rfl (q_move (by conv => lhs; whnf) ?_)
  refine ev_k rfl (k_callR [(1000000, 900000)] (D_spec_l00Src_pick cs _ _ _ hc hb (by omega) (by omega)) rfl (rfl) (rfl) ⟨rfl, trivial⟩ rfl (by rintro ⟨v4, a4, s4⟩ ⟨hx4_0, hx4_1⟩; exact ⟨⟨rfl, rfl, trivial⟩, rfl⟩) rfl rfl ?_)
  rintro ⟨v4, a4, s4⟩ ⟨hx4_0, hx4_1⟩
  refine ev_q rfl (q_assign (by conv => lhs; whnf) ?_)
  refine ev_nil (hK3 _ ?_); clear hK3
  refine good_seq fun K5 hK5 => ?_
  refine good_region rfl ?_
  refine ev_q rfl (q_move (by conv => lhs; whnf) ?_)
  refine ev_q rfl (q_move (by conv => lhs; whnf) ?_)
  refine ev_k rfl (k_callR [(1000000, 900000)] (D_spec_l00Src_pick cs _ _ _ hc hb (by omega) (by omega)) rfl (rfl) (rfl) ⟨rfl, trivial⟩ rfl (by rintro ⟨v6, a6, s6⟩ ⟨hx6_0, hx6_1⟩; exact ⟨⟨rfl, rfl, trivial⟩, rfl⟩) rfl rfl ?_)
  rintro ⟨v6, a6, s6⟩ ⟨hx6_0, hx6_1⟩
  refine ev_q rfl (q_int rfl rfl ?_)
  intro n7 hn7
  have hm := mulB (a := v4) (b := v6) (A := 59999) (B := 59999) (by omega) (by omega) (by omega) (by omega)
  replace hn7 := in64 hn7 (by omega) (by omega)
  refine ev_q rfl (q_int rfl rfl ?_)
  intro n8 hn8
  replace hn8 := in64 hn8 (by omega) (by omega)
  refine ev_q rfl (q_assign (by conv => lhs; whnf) ?_)
  refine ev_nil (hK5 _ ?_); clear hK5
  refine good_seq fun K9 hK9 => ?_
  refine good_region rfl ?_
  refine ev_q rfl (q_move (by conv => lhs; whnf) ?_)
  refine ev_q rfl (q_move (by conv => lhs; whnf) ?_)
  refine ev_k rfl (k_callR [(1000000, 900000)] (D_spec_l00Src_pick cs _ _ _ hc hb (by omega) (by omega)) rfl (rfl) (rfl) ⟨rfl, trivial⟩ rfl (by rintro ⟨v10, a10, s10⟩ ⟨hx10_0, hx10_1⟩; exact ⟨⟨rfl, rfl, trivial⟩, rfl⟩) rfl rfl ?_)
  rintro ⟨v10, a10, s10⟩ ⟨hx10_0, hx10_1⟩
  refine ev_q rfl (q_int rfl rfl ?_)
  intro n11 hn11
  replace hn11 := in64 hn11 (by omega) (by omega)
  refine ev_q rfl (q_assign (by conv => lhs; whnf) ?_)
  refine ev_q rfl (q_assign (by conv => lhs; whnf) ?_)
  refine ev_nil (hK9 _ ?_); clear hK9
  refine good_ret ?_
  repeat (first | refine thenQ_ret ?_ | refine blockQ_ret ?_)
  refine ex_2 (v := n8) (a := n11) ?hF ?hR
  case hF =>
    refine fx_many rfl ?_
    refine fxs_tmp (by conv => lhs; whnf) ?_
    refine fxs_tmp (by conv => lhs; whnf) ?_
    refine fx_nil ?_
    exact ⟨_, .tup (.cons (conv_eq (by first | rfl | exact fI (by first | omega | grind) | (exfalso; first | omega | grind))) (.cons (conv_eq (by first | rfl | exact fI (by first | omega | grind) | (exfalso; first | omega | grind))) (.nil))), weakH_none _, refsIn_ok rfl⟩
  case hR =>
    exact ⟨by omega, by omega⟩

-- laws.r8Long
set_option maxRecDepth 20000 in
set_option maxHeartbeats 2000000 in
theorem D_laws_r8Long (cs ds : List Int)  : Den Tryd.prog 38 [.lst 1 (cs.map cb), .lst 1 (ds.map cb)] (.s (.bool (decide ((cs.length : Int) > 1048576 ∨ (ds.length : Int) > 1048576)))) := by
  refine den_of_good Tryd.func38 (by decide) rfl (Nat.le_of_ble_eq_true rfl) (Nat.le_of_ble_eq_true rfl) ?_
  refine good_seq fun K1 hK1 => ?_
  refine good_region rfl ?_
  refine ev_q rfl (q_assign (by conv => lhs; whnf) ?_)
  refine ev_nil (hK1 _ ?_); clear hK1
  refine good_seq fun K2 hK2 => ?_
  refine good_region rfl ?_
  refine ev_q rfl (q_move (by conv => lhs; whnf) ?_)
  refine ev_q rfl (q_len tEs61 rfl ?_)
  intro n3 hn3
  try simp only [List.length_map] at hn3
  refine ev_q rfl (q_int rfl rfl ?_)
  intro b4 hb4; cases b4
  · replace hb4 := dF hb4
    refine ev_q rfl (q_move (by conv => lhs; whnf) ?_)
    refine ev_q rfl (q_move (by conv => lhs; whnf) ?_)
    refine ev_q rfl (q_len tEs61 rfl ?_)
    intro n5 hn5
    try simp only [List.length_map] at hn5
    refine ev_q rfl (q_int rfl rfl ?_)
    intro b6 hb6; cases b6
    · replace hb6 := dF hb6
      refine ev_q rfl (q_pickF rfl (by conv => lhs; whnf) ?_)
      refine ev_q rfl (q_assign (by conv => lhs; whnf) ?_)
      refine ev_nil (hK2 _ ?_); clear hK2
      refine good_ret ?_
      repeat (first | refine thenQ_ret ?_ | refine blockQ_ret ?_)
      refine ret_tmp (st := _) rfl (by conv => lhs; whnf) rfl ?_
      first | exact fT (by omega) | exact fF (by omega)
    · replace hb6 := dT hb6
      refine ev_q rfl (q_pickF rfl (by conv => lhs; whnf) ?_)
      refine ev_q rfl (q_assign (by conv => lhs; whnf) ?_)
      refine ev_nil (hK2 _ ?_); clear hK2
      refine good_ret ?_
      repeat (first | refine thenQ_ret ?_ | refine blockQ_ret ?_)
      refine ret_tmp (st := _) rfl (by conv => lhs; whnf) rfl ?_
      first | exact fT (by omega) | exact fF (by omega)
  · replace hb4 := dT hb4
    refine ev_q rfl (q_move (by conv => lhs; whnf) ?_)
    refine ev_skip rfl ?_
    refine ev_skip rfl ?_
    refine ev_skip rfl ?_
    refine ev_q rfl (q_pickT rfl (by conv => lhs; whnf) ?_)
    refine ev_q rfl (q_assign (by conv => lhs; whnf) ?_)
    refine ev_nil (hK2 _ ?_); clear hK2
    refine good_ret ?_
    repeat (first | refine thenQ_ret ?_ | refine blockQ_ret ?_)
    refine ret_tmp (st := _) rfl (by conv => lhs; whnf) rfl ?_
    first | exact fT (by omega) | exact fF (by omega)

-- laws.r8At
set_option maxRecDepth 20000 in
set_option maxHeartbeats 2000000 in
theorem D_laws_r8At (cs : List Int) (k : Int) (hc : cs.length ≤ 17592186044416) (hb : byteL cs) (hk : 0 ≤ k ∧ k ≤ 1000) : Den Tryd.prog 83 [.lst 1 (cs.map cb), .s (.int .i64 k), .s (.int .i64 256)] (.s (.int .i64 (r8a cs k 256))) := by
  refine den_of_good Tryd.func83 (by decide) rfl (Nat.le_of_ble_eq_true rfl) (Nat.le_of_ble_eq_true rfl) ?_
  refine good_seq fun K1 hK1 => ?_
  refine good_region rfl ?_
  refine ev_q rfl (q_assign (by conv => lhs; whnf) ?_)
  refine ev_nil (hK1 _ ?_); clear hK1
  refine good_seq fun K2 hK2 => ?_
  refine good_seq fun K3 hK3 => ?_
  refine good_region rfl ?_
  refine ev_q rfl (q_move (by conv => lhs; whnf) ?_)
  refine ev_q rfl (q_int rfl rfl ?_)
  intro b4 hb4; cases b4
  · replace hb4 := dF hb4
    refine ev_q rfl (q_move (by conv => lhs; whnf) ?_)
    refine ev_q rfl (q_move (by conv => lhs; whnf) ?_)
    refine ev_q rfl (q_move (by conv => lhs; whnf) ?_)
    refine ev_q rfl (q_len tEs61 rfl ?_)
    intro n5 hn5
    try simp only [List.length_map] at hn5
    refine ev_q rfl (q_int rfl rfl ?_)
    intro b6 hb6; cases b6
    · replace hb6 := dF hb6
      obtain ⟨q, hq⟩ := getL (xs := cs) (n := k) (by omega) (by omega)
      have hqb := hb _ (List.mem_of_getElem? hq)
      have e8 : r8a cs k 256 = q % 256 := by unfold r8a; rw [if_neg (by omega), List.getD, hq]; rfl
      refine ev_q rfl (q_pickF rfl (by conv => lhs; whnf) ?_)
      refine ev_nil (hK3 _ ?_); clear hK3
      refine good_condF rfl ?_
      refine good_skip (hK2 _ ?_); clear hK2
      refine good_seq fun K7 hK7 => ?_
      refine good_region rfl ?_
      refine ev_q rfl (q_move (by conv => lhs; whnf) ?_)
      refine ev_q rfl (q_move (by conv => lhs; whnf) ?_)
      refine ev_q rfl (q_idx tE61 rfl rfl (by omega) (by exact map_get hq) rfl ?_)
      refine ev_q rfl (q_load tA5 rfl ?_)
      refine ev_q rfl (q_conv tK5 tK2 rfl ?_)
      intro n8 hn8
      replace hn8 := in64 hn8 (by omega) (by omega)
      refine ev_q rfl (q_move (by conv => lhs; whnf) ?_)
      refine ev_q rfl (q_int rfl rfl ⟨by omega, ?_⟩)
      intro n9 hn9
      replace hn9 := remE hn9 (by omega)
      rw [hn8] at hn9
      refine ev_q rfl (q_assign (by conv => lhs; whnf) ?_)
      refine ev_nil (hK7 _ ?_); clear hK7
      refine good_ret ?_
      repeat (first | refine thenQ_ret ?_ | refine blockQ_ret ?_)
      refine ret_tmp (st := _) rfl (by conv => lhs; whnf) rfl ?_
      first | exact fI e8.symm | exact fI (by rw [e8]; assumption) | exact fI (by rw [e8]; omega) | (exfalso; omega)
    · replace hb6 := dT hb6
      have e8 : r8a cs k 256 = 0 := if_pos (by omega)
      refine ev_q rfl (q_pickF rfl (by conv => lhs; whnf) ?_)
      refine ev_nil (hK3 _ ?_); clear hK3
      refine good_condT rfl ?_
      refine good_seq fun K10 hK10 => ?_
      refine good_region rfl ?_
      refine ev_q rfl (q_assign (by conv => lhs; whnf) ?_)
      refine ev_nil (hK10 _ ?_); clear hK10
      refine good_ret ?_
      repeat (first | refine thenQ_ret ?_ | refine blockQ_ret ?_)
      refine ret_tmp (st := _) rfl (by conv => lhs; whnf) rfl ?_
      clear hK2
      first | exact fI e8.symm | exact fI (by rw [e8]; assumption) | exact fI (by rw [e8]; omega) | (exfalso; omega)
  · replace hb4 := dT hb4
    refine ev_q rfl (q_move (by conv => lhs; whnf) ?_)
    refine ev_skip rfl ?_
    refine ev_skip rfl ?_
    refine ev_skip rfl ?_
    refine ev_skip rfl ?_
    refine ev_q rfl (q_pickT rfl (by conv => lhs; whnf) ?_)
    refine ev_nil (hK3 _ ?_); clear hK3
    refine good_condT rfl ?_
    refine good_seq fun K11 hK11 => ?_
    refine good_region rfl ?_
    refine ev_q rfl (q_assign (by conv => lhs; whnf) ?_)
    refine ev_nil (hK11 _ ?_); clear hK11
    refine good_ret ?_
    repeat (first | refine thenQ_ret ?_ | refine blockQ_ret ?_)
    refine ret_tmp (st := _) rfl (by conv => lhs; whnf) rfl ?_
    clear hK2
    first | exact fI e8.symm | exact fI (by rw [e8]; assumption) | exact fI (by rw [e8]; omega) | (exfalso; omega)

-- laws.r8Wide
set_option maxRecDepth 20000 in
set_option maxHeartbeats 2000000 in
theorem D_laws_r8Wide (cs : List Int) (k n : Int) (hc : cs.length ≤ 17592186044416) (hb : byteL cs) (hk : 0 ≤ k ∧ k ≤ 100) (hn : 1 ≤ n ∧ n ≤ 100000) : Den Tryd.prog 43 [.lst 1 (cs.map cb), .s (.int .i64 k), .s (.int .i64 n)] (.s (.int .i64 (r8w cs k n))) := by
  have b1 := r8a_bd (cs := cs) (k := k)
  have b2 := r8a_bd (cs := cs) (k := k + 1)
  refine den_of_good Tryd.func43 (by decide) rfl (Nat.le_of_ble_eq_true rfl) (Nat.le_of_ble_eq_true rfl) ?_
  refine good_seq fun K1 hK1 => ?_
  refine good_region rfl ?_
  refine ev_q rfl (q_assign (by conv => lhs; whnf) ?_)
  refine ev_nil (hK1 _ ?_); clear hK1
  refine good_seq fun K2 hK2 => ?_
  refine good_region rfl ?_
  refine ev_q rfl (q_move (by conv => lhs; whnf) ?_)
  refine ev_q rfl (q_move (by conv => lhs; whnf) ?_)
  refine ev_q rfl (q_callI rfl rfl (rfl) (D_laws_r8At cs k hc hb (by omega)) ?_)
  intro n3 hn3
  refine ev_q rfl (q_int rfl rfl ?_)
  intro n4 hn4
  replace hn4 := in64 hn4 (by omega) (by omega)
  refine ev_q rfl (q_move (by conv => lhs; whnf) ?_)
  refine ev_q rfl (q_move (by conv => lhs; whnf) ?_)
  refine ev_q rfl (q_int rfl rfl ?_)
  intro n5 hn5
  replace hn5 := in64 hn5 (by omega) (by omega)
  refine ev_q rfl (q_callI rfl rfl (by change ([.lst 1 (cs.map cb), .s (.int .i64 (n5)), .s (.int .i64 256)] : List AV) = _; rw [hn5]) (D_laws_r8At cs (k + 1) hc hb (by omega)) ?_)
  intro n6 hn6
  refine ev_q rfl (q_int rfl rfl ?_)
  intro n7 hn7
  replace hn7 := in64 hn7 (by omega) (by omega)
  refine ev_q rfl (q_move (by conv => lhs; whnf) ?_)
  refine ev_q rfl (q_int rfl rfl ⟨by omega, ?_⟩)
  intro n8 hn8
  replace hn8 := remE hn8 (by omega)
  refine ev_q rfl (q_assign (by conv => lhs; whnf) ?_)
  refine ev_nil (hK2 _ ?_); clear hK2
  refine good_ret ?_
  repeat (first | refine thenQ_ret ?_ | refine blockQ_ret ?_)
  refine ret_tmp (st := _) rfl (by conv => lhs; whnf) rfl ?_
  exact fI (by unfold r8w; rw [hn8]; congr 1; omega)

-- laws.r8Abs
set_option maxRecDepth 20000 in
set_option maxHeartbeats 2000000 in
theorem D_laws_r8Abs (a : Int) (h : -9223372036854775807 ≤ a ∧ a ≤ 9223372036854775807) : Den Tryd.prog 42 [.s (.int .i64 a)] (.s (.int .i64 ((a.natAbs : Int)))) := by
  refine den_of_good Tryd.func42 (by decide) rfl (Nat.le_of_ble_eq_true rfl) (Nat.le_of_ble_eq_true rfl) ?_
  refine good_seq fun K1 hK1 => ?_
  refine good_region rfl ?_
  refine ev_q rfl (q_assign (by conv => lhs; whnf) ?_)
  refine ev_nil (hK1 _ ?_); clear hK1
  refine good_seq fun K2 hK2 => ?_
  refine good_region rfl ?_
  refine ev_q rfl (q_move (by conv => lhs; whnf) ?_)
  refine ev_q rfl (q_move (by conv => lhs; whnf) ?_)
  refine ev_q rfl (q_neg rfl ?_)
  intro n3 hn3
  replace hn3 := neg64 hn3 (by omega) (by omega)
  refine ev_q rfl (q_max rfl rfl ?_)
  intro n4 hn4; simp only [mxI, mnI] at hn4
  refine ev_q rfl (q_assign (by conv => lhs; whnf) ?_)
  refine ev_nil (hK2 _ ?_); clear hK2
  refine good_ret ?_
  repeat (first | refine thenQ_ret ?_ | refine blockQ_ret ?_)
  refine ret_tmp (st := _) rfl (by conv => lhs; whnf) rfl ?_
  first | rfl | exact fI (by first | omega | grind) | (exfalso; first | omega | grind)

-- laws.r8Same
set_option maxRecDepth 20000 in
set_option maxHeartbeats 2000000 in
theorem D_laws_r8Same (xs : List Int) (hx : xs.length ≤ 17592186044416) : Den Tryd.prog 49 [.lst 1 (xs.map ci), .lst 1 (xs.map ci)] (.s (.bool true)) := by
  refine den_of_good Tryd.func49 (by decide) rfl (Nat.le_of_ble_eq_true rfl) (Nat.le_of_ble_eq_true rfl) ?_
  refine good_seq fun K1 hK1 => ?_
  refine good_region rfl ?_
  refine ev_q rfl (q_assign (by conv => lhs; whnf) ?_)
  refine ev_nil (hK1 _ ?_); clear hK1
  refine good_seq fun K2 hK2 => ?_
  refine good_seq fun K3 hK3 => ?_
  refine good_region rfl ?_
  refine ev_q rfl (q_move (by conv => lhs; whnf) ?_)
  refine ev_q rfl (q_len tEs69 rfl ?_)
  intro n4 hn4
  try simp only [List.length_map] at hn4
  refine ev_q rfl (q_move (by conv => lhs; whnf) ?_)
  refine ev_q rfl (q_len tEs69 rfl ?_)
  intro n5 hn5
  try simp only [List.length_map] at hn5
  refine ev_q rfl (q_int rfl rfl ?_)
  intro b6 hb6; cases b6
  · replace hb6 := neF hb6
    refine ev_nil (hK3 _ ?_); clear hK3
    refine good_condF rfl ?_
    refine good_skip (hK2 _ ?_); clear hK2
    refine good_seq fun K7 hK7 => ?_
    refine good_seq fun K8 hK8 => ?_
    refine good_region rfl ?_
    refine ev_q rfl (q_assign (by conv => lhs; whnf) ?_)
    refine ev_nil (hK8 _ ?_); clear hK8
    refine good_block ?_
    refine good_loop (α := Nat) (fun i => { env := upd (upd (upd ((fun _ => .junk)) 0 (.lst 1 (xs.map ci))) 1 (.lst 1 (xs.map ci))) 5 (.s (.int .i64 i)), H := fun _ => none }) (fun i => i ≤ xs.length) (fun i => xs.length - i) 0 ?_ ?_ ?_
    · show 0 ≤ _; omega
    · refine sub_weak ?_ ?_
      · exact weakH_none _
      · refine weakE_upd ?e5 ?r5 (weakE_upd ?e1 ?r1 (weakE_upd ?e0 ?r0 (weakE_junk _ _)))
        case e0 => first | rfl | exact fI (by omega) | (simp_all)
        case r0 => intro h hh; cases hh
        case e1 => first | rfl | exact fI (by omega) | (simp_all)
        case r1 => intro h hh; cases hh
        case e5 => first | rfl | exact fI (by omega) | (simp_all)
        case r5 => intro h hh; cases hh
    · rintro i hI
      refine good_seq fun K9 hK9 => ?_
      refine good_seq fun K10 hK10 => ?_
      refine good_region rfl ?_
      refine ev_q rfl (q_move (by conv => lhs; whnf) ?_)
      refine ev_q rfl (q_move (by conv => lhs; whnf) ?_)
      refine ev_q rfl (q_len tEs69 rfl ?_)
      intro n11 hn11
      try simp only [List.length_map] at hn11
      refine ev_q rfl (q_int rfl rfl ?_)
      intro b12 hb12; cases b12
      · replace hb12 := dF hb12
        refine ev_nil (hK10 _ ?_); clear hK10
        refine good_condF rfl ?_
        refine good_exit ?_
        repeat (first | refine thenQ_exit ?_ | refine blockQ_pass rfl ?_)
        refine blockQ_exit (hK7 _ ?_); clear hK7
        refine good_seq fun K13 hK13 => ?_
        refine good_region rfl ?_
        refine ev_q rfl (q_assign (by conv => lhs; whnf) ?_)
        refine ev_nil (hK13 _ ?_); clear hK13
        refine good_ret ?_
        repeat (first | refine thenQ_ret ?_ | refine blockQ_ret ?_)
        refine ret_tmp (st := _) rfl (by conv => lhs; whnf) rfl ?_
        clear hK9
        first | rfl | (exfalso; first | omega | contradiction)
      · replace hb12 := dT hb12
        obtain ⟨q, hq⟩ := getL (xs := xs) (n := (i : Int)) (by omega) (by omega)
        replace hq : xs[i]? = some q := hq
        refine ev_nil (hK10 _ ?_); clear hK10
        refine good_condT rfl ?_
        refine good_skip (hK9 _ ?_); clear hK9
        refine good_seq fun K14 hK14 => ?_
        refine good_block ?_
        refine good_seq fun K15 hK15 => ?_
        refine good_draw 9 hmix (by kernel_rfl) rfl ?_
        refine qo_q rfl (q_move (by conv => lhs; whnf) ?_)
        refine qo_q rfl (q_move (by conv => lhs; whnf) ?_)
        refine qo_q rfl (q_idx tE69 rfl rfl (by exact Int.natCast_nonneg _) (by exact map_get hq) rfl ?_)
        refine qo_q rfl (q_load tA2 rfl ?_)
        refine qo_q rfl (q_move (by conv => lhs; whnf) ?_)
        refine qo_q rfl (q_move (by conv => lhs; whnf) ?_)
        refine qo_q rfl (q_idx tE69 rfl rfl (by exact Int.natCast_nonneg _) (by exact map_get hq) rfl ?_)
        refine qo_q rfl (q_load tA2 rfl ?_)
        refine qo_q rfl (q_int rfl rfl ?_)
        intro b16 hb16; cases b16
        · replace hb16 := neF hb16
          refine qo_nil ?_
          refine ev_nil (hK15 _ ?_); clear hK15
          refine good_condF rfl ?_
          refine good_skip (hK14 _ ?_); clear hK14
          refine good_region rfl ?_
          refine ev_q rfl (q_move (by conv => lhs; whnf) ?_)
          refine ev_q rfl (q_int rfl rfl ?_)
          intro n17 hn17
          replace hn17 := in64 hn17 (by omega) (by omega)
          refine ev_q rfl (q_assign (by conv => lhs; whnf) ?_)
          refine ev_nil ?_
          clear hK7
          refine ⟨i + 1, ?_, ?_, ?_⟩
          · show _ ≤ _; omega
          · first | omega | (simp only []; omega) | (dsimp only; omega)
          · refine sub_weak ?_ ?_
            · exact weakH_none _
            · refine weakE_upd ?e5 ?r5 (weakE_upd ?e1 ?r1 (weakE_upd ?e0 ?r0 (weakE_junk _ _)))
              case e0 => first | rfl | exact fI (by omega) | (simp_all)
              case r0 => intro h hh; cases hh
              case e1 => first | rfl | exact fI (by omega) | (simp_all)
              case r1 => intro h hh; cases hh
              case e5 => first | rfl | exact fI (by omega) | (simp_all)
              case r5 => intro h hh; cases hh
        · replace hb16 := neT hb16
          refine qo_nil ?_
          refine ev_nil (hK15 _ ?_); clear hK15
          refine good_condT rfl ?_
          refine good_seq fun K18 hK18 => ?_
          refine good_region rfl ?_
          refine ev_q rfl (q_assign (by conv => lhs; whnf) ?_)
          refine ev_nil (hK18 _ ?_); clear hK18
          refine good_ret ?_
          repeat (first | refine thenQ_ret ?_ | refine blockQ_ret ?_)
          refine ret_tmp (st := _) rfl (by conv => lhs; whnf) rfl ?_
          clear hK7 hK14
          first | rfl | (exfalso; first | omega | contradiction)
  · replace hb6 := neT hb6
    refine ev_nil (hK3 _ ?_); clear hK3
    refine good_condT rfl ?_
    refine good_seq fun K19 hK19 => ?_
    refine good_region rfl ?_
    refine ev_q rfl (q_assign (by conv => lhs; whnf) ?_)
    refine ev_nil (hK19 _ ?_); clear hK19
    refine good_ret ?_
    repeat (first | refine thenQ_ret ?_ | refine blockQ_ret ?_)
    refine ret_tmp (st := _) rfl (by conv => lhs; whnf) rfl ?_
    clear hK2
    first | rfl | (exfalso; first | omega | contradiction)

-- laws.FnBasics
set_option maxRecDepth 20000 in
set_option maxHeartbeats 2000000 in
theorem D_laws_FnBasics (cs ds : List Int) (hb : byteL cs) (hb2 : byteL ds) : Den Tryd.prog 10 [.lst 1 (cs.map cb), .lst 1 (ds.map cb)] (.s (.bool true)) := by
  refine den_of_good Tryd.func10 (by decide) rfl (Nat.le_of_ble_eq_true rfl) (Nat.le_of_ble_eq_true rfl) ?_
  refine good_seq fun K1 hK1 => ?_
  refine good_region rfl ?_
  refine ev_q rfl (q_assign (by conv => lhs; whnf) ?_)
  refine ev_nil (hK1 _ ?_); clear hK1
  refine good_seq fun K2 hK2 => ?_
  refine good_seq fun K3 hK3 => ?_
  refine good_region rfl ?_
  refine ev_q rfl (q_move (by conv => lhs; whnf) ?_)
  refine ev_q rfl (q_move (by conv => lhs; whnf) ?_)
  refine ev_q rfl (q_callB rfl rfl (rfl) (D_laws_r8Long cs ds) ?_)
  intro b4 hb4; cases b4
  · first | replace hb4 := dF hb4 | skip
    refine ev_nil (hK3 _ ?_); clear hK3
    refine good_condF rfl ?_
    refine good_skip (hK2 _ ?_); clear hK2
    refine good_seq fun K5 hK5 => ?_
    refine good_region rfl ?_
    refine ev_q rfl (q_move (by conv => lhs; whnf) ?_)
    refine ev_k rfl (k_callR [] (D_spec_R8Numbers cs (by omega) hb) rfl (rfl) (rfl) trivial rfl (by rintro ⟨x6, y6⟩ ⟨hx6_0, hx6_1⟩; exact ⟨trivial, rfl⟩) rfl rfl ?_)
    rintro ⟨x6, y6⟩ ⟨hx6_0, hx6_1⟩
    refine ev_q rfl (q_move (by conv => lhs; whnf) ?_)
    refine ev_q rfl (q_extractI rfl rfl ?_)
    intro n7 hn7
    refine ev_q rfl (q_extractI rfl rfl ?_)
    intro n8 hn8
    refine ev_q rfl (q_assign (by conv => lhs; whnf) ?_)
    refine ev_q rfl (q_assign (by conv => lhs; whnf) ?_)
    refine ev_nil (hK5 _ ?_); clear hK5
    refine good_seq fun K9 hK9 => ?_
    refine good_region rfl ?_
    refine ev_q rfl (q_move (by conv => lhs; whnf) ?_)
    refine ev_q rfl (q_callI rfl rfl (rfl) (D_impl_RootOf _) ?_)
    intro n10 hn10
    refine ev_q rfl (q_assign (by conv => lhs; whnf) ?_)
    refine ev_nil (hK9 _ ?_); clear hK9
    refine good_seq fun K11 hK11 => ?_
    refine good_seq fun K12 hK12 => ?_
    refine good_region rfl ?_
    refine ev_q rfl (q_move (by conv => lhs; whnf) ?_)
    refine ev_q rfl (q_int rfl rfl ?_)
    intro b13 hb13; cases b13
    · replace hb13 := dF hb13
      have hr := rt_spec (a := n7) (by omega) (by omega)
      rw [← hn10] at hr
      have hrn := Int.mul_nonneg hr.1 hr.1
      have hsm := sq_mono (i := n10 + 1) (j := 60001) (by omega) (by omega)
      refine ev_q rfl (q_move (by conv => lhs; whnf) ?_)
      refine ev_skip rfl ?_
      refine ev_skip rfl ?_
      refine ev_q rfl (q_pickF rfl (by conv => lhs; whnf) ?_)
      refine ev_q rfl (q_move (by conv => lhs; whnf) ?_)
      refine ev_q rfl (q_move (by conv => lhs; whnf) ?_)
      refine ev_q rfl (q_int rfl rfl ?_)
      intro b14 hb14; cases b14
      · replace hb14 := dF hb14
        refine ev_q rfl (q_move (by conv => lhs; whnf) ?_)
        refine ev_skip rfl ?_
        refine ev_skip rfl ?_
        refine ev_skip rfl ?_
        refine ev_skip rfl ?_
        refine ev_skip rfl ?_
        refine ev_skip rfl ?_
        refine ev_skip rfl ?_
        refine ev_skip rfl ?_
        refine ev_skip rfl ?_
        refine ev_skip rfl ?_
        refine ev_skip rfl ?_
        refine ev_skip rfl ?_
        refine ev_skip rfl ?_
        refine ev_skip rfl ?_
        refine ev_skip rfl ?_
        refine ev_skip rfl ?_
        refine ev_skip rfl ?_
        refine ev_skip rfl ?_
        refine ev_skip rfl ?_
        refine ev_skip rfl ?_
        refine ev_skip rfl ?_
        refine ev_skip rfl ?_
        refine ev_q rfl (q_pickF rfl (by conv => lhs; whnf) ?_)
        refine ev_q rfl (q_pickF rfl (by conv => lhs; whnf) ?_)
        refine ev_nil (hK12 _ ?_); clear hK12
        refine good_condF rfl ?_
        refine good_skip (hK11 _ ?_); clear hK11
        refine good_seq fun K15 hK15 => ?_
        refine good_region rfl ?_
        refine ev_q rfl (q_move (by conv => lhs; whnf) ?_)
        refine ev_q rfl (q_move (by conv => lhs; whnf) ?_)
        refine ev_q rfl (q_callI rfl rfl (rfl) (D_impl_DivRound _ _ (by omega) (by omega)) ?_)
        intro n16 hn16
        have hcl := dr_close (a := n7) (b := n8) (by omega)
        have hng := dr_neg (a := n7) (b := n8) (by omega)
        have hdb := dr_bound (a := n7) (b := n8) (by omega)
        rw [← hn16] at hcl hng hdb
        refine ev_q rfl (q_assign (by conv => lhs; whnf) ?_)
        refine ev_nil (hK15 _ ?_); clear hK15
        refine good_seq fun K17 hK17 => ?_
        refine good_seq fun K18 hK18 => ?_
        refine good_region rfl ?_
        refine ev_q rfl (q_move (by conv => lhs; whnf) ?_)
        refine ev_q rfl (q_move (by conv => lhs; whnf) ?_)
        refine ev_q rfl (q_move (by conv => lhs; whnf) ?_)
        refine ev_q rfl (q_int rfl rfl ?_)
        intro n19 hn19
        replace hn19 := in64 hn19 (by omega) (by omega)
        refine ev_q rfl (q_int rfl rfl ?_)
        intro n20 hn20
        replace hn20 := in64 hn20 (by omega) (by omega)
        refine ev_q rfl (q_callI rfl rfl (rfl) (D_laws_r8Abs _ (by omega)) ?_)
        intro n21 hn21
        refine ev_q rfl (q_int rfl rfl ?_)
        intro n22 hn22
        replace hn22 := in64 hn22 (by omega) (by omega)
        refine ev_q rfl (q_move (by conv => lhs; whnf) ?_)
        refine ev_q rfl (q_int rfl rfl ?_)
        intro b23 hb23; cases b23
        · replace hb23 := dF hb23
          refine ev_q rfl (q_move (by conv => lhs; whnf) ?_)
          refine ev_q rfl (q_move (by conv => lhs; whnf) ?_)
          refine ev_q rfl (q_neg rfl ?_)
          intro n24 hn24
          replace hn24 := neg64 hn24 (by omega) (by omega)
          refine ev_q rfl (q_move (by conv => lhs; whnf) ?_)
          refine ev_q rfl (q_callI rfl rfl (rfl) (D_impl_DivRound _ _ (by omega) (by omega)) ?_)
          intro n25 hn25
          rw [hn24, hng] at hn25
          refine ev_q rfl (q_move (by conv => lhs; whnf) ?_)
          refine ev_q rfl (q_neg rfl ?_)
          intro n26 hn26
          replace hn26 := neg64 hn26 (by omega) (by omega)
          refine ev_q rfl (q_int rfl rfl ?_)
          intro b27 hb27; cases b27
          · replace hb27 := neF hb27
            refine ev_q rfl (q_pickF rfl (by conv => lhs; whnf) ?_)
            refine ev_nil (hK18 _ ?_); clear hK18
            refine good_condF rfl ?_
            refine good_skip (hK17 _ ?_); clear hK17
            refine good_seq fun K28 hK28 => ?_
            refine good_region rfl ?_
            refine ev_q rfl (q_move (by conv => lhs; whnf) ?_)
            refine ev_q rfl (q_callI rfl rfl (rfl) (D_laws_r8Wide ds 0 1000 (by omega) hb2 (by omega) (by omega)) ?_)
            intro n29 hn29
            have hw0 := r8w_bd (cs := ds) (k := 0) (n := 1000) (by omega)
            rw [← hn29] at hw0
            refine ev_q rfl (q_assign (by conv => lhs; whnf) ?_)
            refine ev_nil (hK28 _ ?_); clear hK28
            refine good_seq fun K30 hK30 => ?_
            refine good_region rfl ?_
            refine ev_q rfl (q_move (by conv => lhs; whnf) ?_)
            refine ev_q rfl (q_callI rfl rfl (rfl) (D_laws_r8Wide ds 2 5000 (by omega) hb2 (by omega) (by omega)) ?_)
            intro n31 hn31
            have hw2 := r8w_bd (cs := ds) (k := 2) (n := 5000) (by omega)
            rw [← hn31] at hw2
            refine ev_q rfl (q_int rfl rfl ?_)
            intro n32 hn32
            replace hn32 := in64 hn32 (by omega) (by omega)
            refine ev_q rfl (q_assign (by conv => lhs; whnf) ?_)
            refine ev_nil (hK30 _ ?_); clear hK30
            refine good_seq fun K33 hK33 => ?_
            refine good_region rfl ?_
            refine ev_q rfl (q_move (by conv => lhs; whnf) ?_)
            refine ev_q rfl (q_callI rfl rfl (rfl) (D_laws_r8Wide ds 4 5000 (by omega) hb2 (by omega) (by omega)) ?_)
            intro n34 hn34
            have hw4 := r8w_bd (cs := ds) (k := 4) (n := 5000) (by omega)
            rw [← hn34] at hw4
            refine ev_q rfl (q_int rfl rfl ?_)
            intro n35 hn35
            replace hn35 := in64 hn35 (by omega) (by omega)
            refine ev_q rfl (q_assign (by conv => lhs; whnf) ?_)
            refine ev_nil (hK33 _ ?_); clear hK33
            refine good_seq fun K36 hK36 => ?_
            refine good_region rfl ?_
            refine ev_q rfl (q_move (by conv => lhs; whnf) ?_)
            refine ev_q rfl (q_move (by conv => lhs; whnf) ?_)
            refine ev_q rfl (q_move (by conv => lhs; whnf) ?_)
            refine ev_q rfl (q_callI rfl rfl (rfl) (D_impl_Blend _ _ _ (by omega) (by omega)) ?_)
            intro n37 hn37
            have hbi := bl_in (y := n32) (z := n35) n29
            rw [← hn37] at hbi
            have hbl := bl_l (y := n32) (z := n35)
            have hbr := bl_r (y := n32) (z := n35)
            refine ev_q rfl (q_assign (by conv => lhs; whnf) ?_)
            refine ev_nil (hK36 _ ?_); clear hK36
            refine good_seq fun K38 hK38 => ?_
            refine good_seq fun K39 hK39 => ?_
            refine good_region rfl ?_
            refine ev_q rfl (q_move (by conv => lhs; whnf) ?_)
            refine ev_q rfl (q_move (by conv => lhs; whnf) ?_)
            refine ev_q rfl (q_move (by conv => lhs; whnf) ?_)
            refine ev_q rfl (q_min rfl rfl ?_)
            intro n40 hn40; simp only [mxI, mnI] at hn40
            refine ev_q rfl (q_int rfl rfl ?_)
            intro b41 hb41; cases b41
            · replace hb41 := dF hb41
              refine ev_q rfl (q_move (by conv => lhs; whnf) ?_)
              refine ev_q rfl (q_move (by conv => lhs; whnf) ?_)
              refine ev_q rfl (q_move (by conv => lhs; whnf) ?_)
              refine ev_q rfl (q_move (by conv => lhs; whnf) ?_)
              refine ev_q rfl (q_max rfl rfl ?_)
              intro n42 hn42; simp only [mxI, mnI] at hn42
              refine ev_q rfl (q_int rfl rfl ?_)
              intro b43 hb43; cases b43
              · replace hb43 := dF hb43
                refine ev_q rfl (q_pickF rfl (by conv => lhs; whnf) ?_)
                refine ev_q rfl (q_move (by conv => lhs; whnf) ?_)
                refine ev_q rfl (q_move (by conv => lhs; whnf) ?_)
                refine ev_q rfl (q_move (by conv => lhs; whnf) ?_)
                refine ev_q rfl (q_callI rfl rfl (rfl) (D_impl_Blend _ _ _ (by omega) (by omega)) ?_)
                intro n44 hn44
                refine ev_q rfl (q_move (by conv => lhs; whnf) ?_)
                refine ev_q rfl (q_int rfl rfl ?_)
                intro b45 hb45; cases b45
                · replace hb45 := neF hb45
                  refine ev_q rfl (q_pickF rfl (by conv => lhs; whnf) ?_)
                  refine ev_q rfl (q_move (by conv => lhs; whnf) ?_)
                  refine ev_q rfl (q_move (by conv => lhs; whnf) ?_)
                  refine ev_q rfl (q_move (by conv => lhs; whnf) ?_)
                  refine ev_q rfl (q_callI rfl rfl (rfl) (D_impl_Blend _ _ _ (by omega) (by omega)) ?_)
                  intro n46 hn46
                  refine ev_q rfl (q_move (by conv => lhs; whnf) ?_)
                  refine ev_q rfl (q_int rfl rfl ?_)
                  intro b47 hb47; cases b47
                  · replace hb47 := neF hb47
                    refine ev_q rfl (q_pickF rfl (by conv => lhs; whnf) ?_)
                    refine ev_nil (hK39 _ ?_); clear hK39
                    refine good_condF rfl ?_
                    refine good_skip (hK38 _ ?_); clear hK38
                    refine good_seq fun K48 hK48 => ?_
                    refine good_region rfl ?_
                    have hll := lt_rl (L := [n7, n8, n29, n32, n35]) (bas_in (by omega) (by omega) (by omega) (by omega) (by omega)) (by simp)
                    have hdd := rdN_eq (n := n7) (by omega)
                    refine ev_q rfl (q_move (by conv => lhs; whnf) ?_)
                    refine ev_q rfl (q_move (by conv => lhs; whnf) ?_)
                    refine ev_q rfl (q_move (by conv => lhs; whnf) ?_)
                    refine ev_q rfl (q_move (by conv => lhs; whnf) ?_)
                    refine ev_q rfl (q_move (by conv => lhs; whnf) ?_)
                    refine ev_k rfl (k_lit tE69 zA2 rfl rfl (by decide) (by decide) rfl rfl rfl ?_)
                    refine ev_q rfl (q_assign (by conv => lhs; whnf) ?_)
                    refine ev_nil (hK48 _ ?_); clear hK48
                    refine good_seq fun K49 hK49 => ?_
                    refine good_region rfl ?_
                    refine ev_q rfl (q_move (by conv => lhs; whnf) ?_)
                    refine ev_q rfl (q_call rfl rfl (rfl) (D_impl_ListText [n7, n8, n29, n32, n35] (by simp)) rfl ?_)
                    refine ev_q rfl (q_call rfl rfl (rfl) (D_impl_ReadList (lt [n7, n8, n29, n32, n35]) (by have := lt_size (xs := [n7, n8, n29, n32, n35]); omega)) rfl ?_)
                    refine ev_q rfl (q_move (by conv => lhs; whnf) ?_)
                    refine ev_q rfl (q_extract rfl rfl ?_)
                    refine ev_q rfl (q_extractB rfl rfl ?_)
                    intro b50 hb50; cases b50
                    · first | replace hb50 := dF hb50 | skip
                      refine ev_q rfl (q_assign (by conv => lhs; whnf) ?_)
                      refine ev_q rfl (q_assign (by conv => lhs; whnf) ?_)
                      refine ev_nil (hK49 _ ?_); clear hK49
                      refine good_seq fun K51 hK51 => ?_
                      refine good_region rfl ?_
                      refine ev_q rfl (q_move (by conv => lhs; whnf) ?_)
                      refine ev_q rfl (q_call rfl rfl (rfl) (D_impl_Decimal n7 ⟨by omega, by omega⟩) rfl ?_)
                      refine ev_q rfl (q_call rfl rfl (rfl) (D_impl_ReadDecimal (dec n7) (by have := dec_size (n := n7) (by omega) (by omega); omega)) rfl ?_)
                      refine ev_q rfl (q_move (by conv => lhs; whnf) ?_)
                      refine ev_q rfl (q_extractI rfl rfl ?_)
                      intro n52 hn52
                      refine ev_q rfl (q_extractB rfl rfl ?_)
                      intro b53 hb53; cases b53
                      · first | replace hb53 := dF hb53 | skip
                        refine ev_q rfl (q_assign (by conv => lhs; whnf) ?_)
                        refine ev_q rfl (q_assign (by conv => lhs; whnf) ?_)
                        refine ev_nil (hK51 _ ?_); clear hK51
                        refine good_seq fun K54 hK54 => ?_
                        refine good_region rfl ?_
                        refine ev_q rfl (q_move (by conv => lhs; whnf) ?_)
                        refine ev_q rfl (q_move (by conv => lhs; whnf) ?_)
                        refine ev_skip rfl ?_
                        refine ev_skip rfl ?_
                        refine ev_skip rfl ?_
                        refine ev_q rfl (q_pickF rfl (by conv => lhs; whnf) ?_)
                        refine ev_q rfl (q_move (by conv => lhs; whnf) ?_)
                        refine ev_skip rfl ?_
                        refine ev_q rfl (q_pickF rfl (by conv => lhs; whnf) ?_)
                        refine ev_q rfl (q_move (by conv => lhs; whnf) ?_)
                        refine ev_skip rfl ?_
                        refine ev_skip rfl ?_
                        refine ev_skip rfl ?_
                        refine ev_q rfl (q_pickF rfl (by conv => lhs; whnf) ?_)
                        refine ev_q rfl (q_assign (by conv => lhs; whnf) ?_)
                        refine ev_nil (hK54 _ ?_); clear hK54
                        refine good_ret ?_
                        repeat (first | refine thenQ_ret ?_ | refine blockQ_ret ?_)
                        refine ret_tmp (st := _) rfl (by conv => lhs; whnf) rfl ?_
                        first | rfl | (exfalso; first | omega | (exact absurd hll.1 (by assumption)) | (exact absurd hdd.1 (by assumption)) | contradiction)
                      · first | replace hb53 := dT hb53 | skip
                        refine ev_q rfl (q_assign (by conv => lhs; whnf) ?_)
                        refine ev_q rfl (q_assign (by conv => lhs; whnf) ?_)
                        refine ev_nil (hK51 _ ?_); clear hK51
                        refine good_seq fun K55 hK55 => ?_
                        refine good_region rfl ?_
                        refine ev_q rfl (q_move (by conv => lhs; whnf) ?_)
                        refine ev_q rfl (q_move (by conv => lhs; whnf) ?_)
                        refine ev_skip rfl ?_
                        refine ev_skip rfl ?_
                        refine ev_skip rfl ?_
                        refine ev_q rfl (q_pickF rfl (by conv => lhs; whnf) ?_)
                        refine ev_q rfl (q_move (by conv => lhs; whnf) ?_)
                        refine ev_skip rfl ?_
                        refine ev_q rfl (q_pickF rfl (by conv => lhs; whnf) ?_)
                        refine ev_q rfl (q_move (by conv => lhs; whnf) ?_)
                        refine ev_skip rfl ?_
                        refine ev_skip rfl ?_
                        refine ev_skip rfl ?_
                        refine ev_q rfl (q_pickF rfl (by conv => lhs; whnf) ?_)
                        refine ev_q rfl (q_assign (by conv => lhs; whnf) ?_)
                        refine ev_nil (hK55 _ ?_); clear hK55
                        refine good_ret ?_
                        repeat (first | refine thenQ_ret ?_ | refine blockQ_ret ?_)
                        refine ret_tmp (st := _) rfl (by conv => lhs; whnf) rfl ?_
                        first | rfl | (exfalso; first | omega | (exact absurd hll.1 (by assumption)) | (exact absurd hdd.1 (by assumption)) | contradiction)
                    · first | replace hb50 := dT hb50 | skip
                      refine ev_q rfl (q_assign (by conv => lhs; whnf) ?_)
                      refine ev_q rfl (q_assign (by conv => lhs; whnf) ?_)
                      refine ev_nil (hK49 _ ?_); clear hK49
                      refine good_seq fun K56 hK56 => ?_
                      refine good_region rfl ?_
                      refine ev_q rfl (q_move (by conv => lhs; whnf) ?_)
                      refine ev_q rfl (q_call rfl rfl (rfl) (D_impl_Decimal n7 ⟨by omega, by omega⟩) rfl ?_)
                      refine ev_q rfl (q_call rfl rfl (rfl) (D_impl_ReadDecimal (dec n7) (by have := dec_size (n := n7) (by omega) (by omega); omega)) rfl ?_)
                      refine ev_q rfl (q_move (by conv => lhs; whnf) ?_)
                      refine ev_q rfl (q_extractI rfl rfl ?_)
                      intro n57 hn57
                      refine ev_q rfl (q_extractB rfl rfl ?_)
                      intro b58 hb58; cases b58
                      · first | replace hb58 := dF hb58 | skip
                        refine ev_q rfl (q_assign (by conv => lhs; whnf) ?_)
                        refine ev_q rfl (q_assign (by conv => lhs; whnf) ?_)
                        refine ev_nil (hK56 _ ?_); clear hK56
                        refine good_seq fun K59 hK59 => ?_
                        refine good_region rfl ?_
                        refine ev_q rfl (q_move (by conv => lhs; whnf) ?_)
                        refine ev_q rfl (q_move (by conv => lhs; whnf) ?_)
                        refine ev_q rfl (q_move (by conv => lhs; whnf) ?_)
                        refine ev_q rfl (q_move (by conv => lhs; whnf) ?_)
                        refine ev_q rfl (q_callB rfl rfl (by change ([.lst 1 ((rlL (lt [n7, n8, n29, n32, n35])).map ci), .lst 1 ([n7, n8, n29, n32, n35].map ci)] : List AV) = _; rw [hll.2]) (D_laws_r8Same [n7, n8, n29, n32, n35] (by simp)) ?_)
                        intro b60 hb60; cases b60
                        · first | replace hb60 := dF hb60 | skip
                          refine ev_q rfl (q_pickT rfl (by conv => lhs; whnf) ?_)
                          refine ev_q rfl (q_move (by conv => lhs; whnf) ?_)
                          refine ev_skip rfl ?_
                          refine ev_q rfl (q_pickF rfl (by conv => lhs; whnf) ?_)
                          refine ev_q rfl (q_move (by conv => lhs; whnf) ?_)
                          refine ev_skip rfl ?_
                          refine ev_skip rfl ?_
                          refine ev_skip rfl ?_
                          refine ev_q rfl (q_pickF rfl (by conv => lhs; whnf) ?_)
                          refine ev_q rfl (q_assign (by conv => lhs; whnf) ?_)
                          refine ev_nil (hK59 _ ?_); clear hK59
                          refine good_ret ?_
                          repeat (first | refine thenQ_ret ?_ | refine blockQ_ret ?_)
                          refine ret_tmp (st := _) rfl (by conv => lhs; whnf) rfl ?_
                          first | rfl | (exfalso; first | omega | (exact absurd hll.1 (by assumption)) | (exact absurd hdd.1 (by assumption)) | contradiction)
                        · first | replace hb60 := dT hb60 | skip
                          refine ev_q rfl (q_pickT rfl (by conv => lhs; whnf) ?_)
                          refine ev_q rfl (q_move (by conv => lhs; whnf) ?_)
                          refine ev_q rfl (q_move (by conv => lhs; whnf) ?_)
                          refine ev_q rfl (q_pickT rfl (by conv => lhs; whnf) ?_)
                          refine ev_q rfl (q_move (by conv => lhs; whnf) ?_)
                          refine ev_skip rfl ?_
                          refine ev_skip rfl ?_
                          refine ev_skip rfl ?_
                          refine ev_q rfl (q_pickF rfl (by conv => lhs; whnf) ?_)
                          refine ev_q rfl (q_assign (by conv => lhs; whnf) ?_)
                          refine ev_nil (hK59 _ ?_); clear hK59
                          refine good_ret ?_
                          repeat (first | refine thenQ_ret ?_ | refine blockQ_ret ?_)
                          refine ret_tmp (st := _) rfl (by conv => lhs; whnf) rfl ?_
                          first | rfl | (exfalso; first | omega | (exact absurd hll.1 (by assumption)) | (exact absurd hdd.1 (by assumption)) | contradiction)
                      · first | replace hb58 := dT hb58 | skip
                        refine ev_q rfl (q_assign (by conv => lhs; whnf) ?_)
                        refine ev_q rfl (q_assign (by conv => lhs; whnf) ?_)
                        refine ev_nil (hK56 _ ?_); clear hK56
                        refine good_seq fun K61 hK61 => ?_
                        refine good_region rfl ?_
                        refine ev_q rfl (q_move (by conv => lhs; whnf) ?_)
                        refine ev_q rfl (q_move (by conv => lhs; whnf) ?_)
                        refine ev_q rfl (q_move (by conv => lhs; whnf) ?_)
                        refine ev_q rfl (q_move (by conv => lhs; whnf) ?_)
                        refine ev_q rfl (q_callB rfl rfl (by change ([.lst 1 ((rlL (lt [n7, n8, n29, n32, n35])).map ci), .lst 1 ([n7, n8, n29, n32, n35].map ci)] : List AV) = _; rw [hll.2]) (D_laws_r8Same [n7, n8, n29, n32, n35] (by simp)) ?_)
                        intro b62 hb62; cases b62
                        · first | replace hb62 := dF hb62 | skip
                          refine ev_q rfl (q_pickT rfl (by conv => lhs; whnf) ?_)
                          refine ev_q rfl (q_move (by conv => lhs; whnf) ?_)
                          refine ev_skip rfl ?_
                          refine ev_q rfl (q_pickF rfl (by conv => lhs; whnf) ?_)
                          refine ev_q rfl (q_move (by conv => lhs; whnf) ?_)
                          refine ev_skip rfl ?_
                          refine ev_skip rfl ?_
                          refine ev_skip rfl ?_
                          refine ev_q rfl (q_pickF rfl (by conv => lhs; whnf) ?_)
                          refine ev_q rfl (q_assign (by conv => lhs; whnf) ?_)
                          refine ev_nil (hK61 _ ?_); clear hK61
                          refine good_ret ?_
                          repeat (first | refine thenQ_ret ?_ | refine blockQ_ret ?_)
                          refine ret_tmp (st := _) rfl (by conv => lhs; whnf) rfl ?_
                          first | rfl | (exfalso; first | omega | (exact absurd hll.1 (by assumption)) | (exact absurd hdd.1 (by assumption)) | contradiction)
                        · first | replace hb62 := dT hb62 | skip
                          refine ev_q rfl (q_pickT rfl (by conv => lhs; whnf) ?_)
                          refine ev_q rfl (q_move (by conv => lhs; whnf) ?_)
                          refine ev_q rfl (q_move (by conv => lhs; whnf) ?_)
                          refine ev_q rfl (q_pickT rfl (by conv => lhs; whnf) ?_)
                          refine ev_q rfl (q_move (by conv => lhs; whnf) ?_)
                          refine ev_q rfl (q_move (by conv => lhs; whnf) ?_)
                          refine ev_q rfl (q_move (by conv => lhs; whnf) ?_)
                          refine ev_q rfl (q_int rfl rfl ?_)
                          intro b63 hb63; cases b63
                          · replace hb63 := eqF hb63
                            refine ev_q rfl (q_pickT rfl (by conv => lhs; whnf) ?_)
                            refine ev_q rfl (q_assign (by conv => lhs; whnf) ?_)
                            refine ev_nil (hK61 _ ?_); clear hK61
                            refine good_ret ?_
                            repeat (first | refine thenQ_ret ?_ | refine blockQ_ret ?_)
                            refine ret_tmp (st := _) rfl (by conv => lhs; whnf) rfl ?_
                            first | rfl | (exfalso; first | omega | (exact absurd hll.1 (by assumption)) | (exact absurd hdd.1 (by assumption)) | contradiction)
                          · replace hb63 := eqT hb63
                            refine ev_q rfl (q_pickT rfl (by conv => lhs; whnf) ?_)
                            refine ev_q rfl (q_assign (by conv => lhs; whnf) ?_)
                            refine ev_nil (hK61 _ ?_); clear hK61
                            refine good_ret ?_
                            repeat (first | refine thenQ_ret ?_ | refine blockQ_ret ?_)
                            refine ret_tmp (st := _) rfl (by conv => lhs; whnf) rfl ?_
                            first | rfl | (exfalso; first | omega | (exact absurd hll.1 (by assumption)) | (exact absurd hdd.1 (by assumption)) | contradiction)
                  · replace hb47 := neT hb47
                    refine ev_q rfl (q_pickF rfl (by conv => lhs; whnf) ?_)
                    refine ev_nil (hK39 _ ?_); clear hK39
                    refine good_condT rfl ?_
                    refine good_seq fun K64 hK64 => ?_
                    refine good_region rfl ?_
                    refine ev_q rfl (q_assign (by conv => lhs; whnf) ?_)
                    refine ev_nil (hK64 _ ?_); clear hK64
                    refine good_ret ?_
                    repeat (first | refine thenQ_ret ?_ | refine blockQ_ret ?_)
                    refine ret_tmp (st := _) rfl (by conv => lhs; whnf) rfl ?_
                    clear hK38
                    first | rfl | (exfalso; first | omega | (exact absurd hll.1 (by assumption)) | (exact absurd hdd.1 (by assumption)) | contradiction)
                · replace hb45 := neT hb45
                  refine ev_q rfl (q_pickF rfl (by conv => lhs; whnf) ?_)
                  refine ev_q rfl (q_move (by conv => lhs; whnf) ?_)
                  refine ev_skip rfl ?_
                  refine ev_skip rfl ?_
                  refine ev_skip rfl ?_
                  refine ev_skip rfl ?_
                  refine ev_skip rfl ?_
                  refine ev_q rfl (q_pickT rfl (by conv => lhs; whnf) ?_)
                  refine ev_nil (hK39 _ ?_); clear hK39
                  refine good_condT rfl ?_
                  refine good_seq fun K65 hK65 => ?_
                  refine good_region rfl ?_
                  refine ev_q rfl (q_assign (by conv => lhs; whnf) ?_)
                  refine ev_nil (hK65 _ ?_); clear hK65
                  refine good_ret ?_
                  repeat (first | refine thenQ_ret ?_ | refine blockQ_ret ?_)
                  refine ret_tmp (st := _) rfl (by conv => lhs; whnf) rfl ?_
                  clear hK38
                  first | rfl | (exfalso; first | omega | (exact absurd hll.1 (by assumption)) | (exact absurd hdd.1 (by assumption)) | contradiction)
              · replace hb43 := dT hb43
                refine ev_q rfl (q_pickF rfl (by conv => lhs; whnf) ?_)
                refine ev_q rfl (q_move (by conv => lhs; whnf) ?_)
                refine ev_skip rfl ?_
                refine ev_skip rfl ?_
                refine ev_skip rfl ?_
                refine ev_skip rfl ?_
                refine ev_skip rfl ?_
                refine ev_q rfl (q_pickT rfl (by conv => lhs; whnf) ?_)
                refine ev_q rfl (q_move (by conv => lhs; whnf) ?_)
                refine ev_skip rfl ?_
                refine ev_skip rfl ?_
                refine ev_skip rfl ?_
                refine ev_skip rfl ?_
                refine ev_skip rfl ?_
                refine ev_q rfl (q_pickT rfl (by conv => lhs; whnf) ?_)
                refine ev_nil (hK39 _ ?_); clear hK39
                refine good_condT rfl ?_
                refine good_seq fun K66 hK66 => ?_
                refine good_region rfl ?_
                refine ev_q rfl (q_assign (by conv => lhs; whnf) ?_)
                refine ev_nil (hK66 _ ?_); clear hK66
                refine good_ret ?_
                repeat (first | refine thenQ_ret ?_ | refine blockQ_ret ?_)
                refine ret_tmp (st := _) rfl (by conv => lhs; whnf) rfl ?_
                clear hK38
                first | rfl | (exfalso; first | omega | (exact absurd hll.1 (by assumption)) | (exact absurd hdd.1 (by assumption)) | contradiction)
            · replace hb41 := dT hb41
              refine ev_q rfl (q_move (by conv => lhs; whnf) ?_)
              refine ev_skip rfl ?_
              refine ev_skip rfl ?_
              refine ev_skip rfl ?_
              refine ev_skip rfl ?_
              refine ev_skip rfl ?_
              refine ev_q rfl (q_pickT rfl (by conv => lhs; whnf) ?_)
              refine ev_q rfl (q_move (by conv => lhs; whnf) ?_)
              refine ev_skip rfl ?_
              refine ev_skip rfl ?_
              refine ev_skip rfl ?_
              refine ev_skip rfl ?_
              refine ev_skip rfl ?_
              refine ev_q rfl (q_pickT rfl (by conv => lhs; whnf) ?_)
              refine ev_q rfl (q_move (by conv => lhs; whnf) ?_)
              refine ev_skip rfl ?_
              refine ev_skip rfl ?_
              refine ev_skip rfl ?_
              refine ev_skip rfl ?_
              refine ev_skip rfl ?_
              refine ev_q rfl (q_pickT rfl (by conv => lhs; whnf) ?_)
              refine ev_nil (hK39 _ ?_); clear hK39
              refine good_condT rfl ?_
              refine good_seq fun K67 hK67 => ?_
              refine good_region rfl ?_
              refine ev_q rfl (q_assign (by conv => lhs; whnf) ?_)
              refine ev_nil (hK67 _ ?_); clear hK67
              refine good_ret ?_
              repeat (first | refine thenQ_ret ?_ | refine blockQ_ret ?_)
              refine ret_tmp (st := _) rfl (by conv => lhs; whnf) rfl ?_
              clear hK38
              first | rfl | (exfalso; first | omega | (exact absurd hll.1 (by assumption)) | (exact absurd hdd.1 (by assumption)) | contradiction)
          · replace hb27 := neT hb27
            refine ev_q rfl (q_pickF rfl (by conv => lhs; whnf) ?_)
            refine ev_nil (hK18 _ ?_); clear hK18
            refine good_condT rfl ?_
            refine good_seq fun K68 hK68 => ?_
            refine good_region rfl ?_
            refine ev_q rfl (q_assign (by conv => lhs; whnf) ?_)
            refine ev_nil (hK68 _ ?_); clear hK68
            refine good_ret ?_
            repeat (first | refine thenQ_ret ?_ | refine blockQ_ret ?_)
            refine ret_tmp (st := _) rfl (by conv => lhs; whnf) rfl ?_
            clear hK17
            first | rfl | (exfalso; first | omega | (exact absurd hll.1 (by assumption)) | (exact absurd hdd.1 (by assumption)) | contradiction)
        · replace hb23 := dT hb23
          refine ev_q rfl (q_move (by conv => lhs; whnf) ?_)
          refine ev_skip rfl ?_
          refine ev_skip rfl ?_
          refine ev_skip rfl ?_
          refine ev_skip rfl ?_
          refine ev_skip rfl ?_
          refine ev_skip rfl ?_
          refine ev_skip rfl ?_
          refine ev_q rfl (q_pickT rfl (by conv => lhs; whnf) ?_)
          refine ev_nil (hK18 _ ?_); clear hK18
          refine good_condT rfl ?_
          refine good_seq fun K69 hK69 => ?_
          refine good_region rfl ?_
          refine ev_q rfl (q_assign (by conv => lhs; whnf) ?_)
          refine ev_nil (hK69 _ ?_); clear hK69
          refine good_ret ?_
          repeat (first | refine thenQ_ret ?_ | refine blockQ_ret ?_)
          refine ret_tmp (st := _) rfl (by conv => lhs; whnf) rfl ?_
          clear hK17
          first | rfl | (exfalso; first | omega | (exact absurd hll.1 (by assumption)) | (exact absurd hdd.1 (by assumption)) | contradiction)
      · replace hb14 := dT hb14
        refine ev_q rfl (q_move (by conv => lhs; whnf) ?_)
        refine ev_q rfl (q_move (by conv => lhs; whnf) ?_)
        refine ev_q rfl (q_int rfl rfl ?_)
        intro b70 hb70; cases b70
        · replace hb70 := dF hb70
          refine ev_q rfl (q_move (by conv => lhs; whnf) ?_)
          refine ev_q rfl (q_move (by conv => lhs; whnf) ?_)
          refine ev_q rfl (q_int rfl rfl ?_)
          intro b71 hb71; cases b71
          · replace hb71 := dF hb71
            refine ev_q rfl (q_pickF rfl (by conv => lhs; whnf) ?_)
            refine ev_q rfl (q_move (by conv => lhs; whnf) ?_)
            refine ev_q rfl (q_move (by conv => lhs; whnf) ?_)
            refine ev_q rfl (q_move (by conv => lhs; whnf) ?_)
            refine ev_q rfl (q_int rfl rfl ?_)
            intro n72 hn72
            replace hn72 := in64 hn72 (by omega) (by omega)
            refine ev_q rfl (q_move (by conv => lhs; whnf) ?_)
            refine ev_q rfl (q_int rfl rfl ?_)
            intro b73 hb73; cases b73
            · replace hb73 := dF hb73
              refine ev_q rfl (q_pickF rfl (by conv => lhs; whnf) ?_)
              refine ev_q rfl (q_move (by conv => lhs; whnf) ?_)
              refine ev_q rfl (q_move (by conv => lhs; whnf) ?_)
              refine ev_q rfl (q_int rfl rfl ?_)
              intro n74 hn74
              replace hn74 := in64 hn74 (by omega) (by omega)
              refine ev_q rfl (q_move (by conv => lhs; whnf) ?_)
              refine ev_q rfl (q_int rfl rfl ?_)
              intro n75 hn75
              replace hn75 := in64 hn75 (by omega) (by omega)
              refine ev_q rfl (q_int rfl rfl ?_)
              intro n76 hn76
              rw [hn74, hn75] at hn76
              replace hn76 := in64 hn76 (by omega) (by omega)
              refine ev_q rfl (q_move (by conv => lhs; whnf) ?_)
              refine ev_q rfl (q_int rfl rfl ?_)
              intro b77 hb77; cases b77
              · replace hb77 := dF hb77
                refine ev_q rfl (q_pickF rfl (by conv => lhs; whnf) ?_)
                refine ev_q rfl (q_pickT rfl (by conv => lhs; whnf) ?_)
                refine ev_q rfl (q_pickF rfl (by conv => lhs; whnf) ?_)
                refine ev_nil (hK12 _ ?_); clear hK12
                refine good_condF rfl ?_
                refine good_skip (hK11 _ ?_); clear hK11
                refine good_seq fun K78 hK78 => ?_
                refine good_region rfl ?_
                refine ev_q rfl (q_move (by conv => lhs; whnf) ?_)
                refine ev_q rfl (q_move (by conv => lhs; whnf) ?_)
                refine ev_q rfl (q_callI rfl rfl (rfl) (D_impl_DivRound _ _ (by omega) (by omega)) ?_)
                intro n79 hn79
                have hcl := dr_close (a := n7) (b := n8) (by omega)
                have hng := dr_neg (a := n7) (b := n8) (by omega)
                have hdb := dr_bound (a := n7) (b := n8) (by omega)
                rw [← hn79] at hcl hng hdb
                refine ev_q rfl (q_assign (by conv => lhs; whnf) ?_)
                refine ev_nil (hK78 _ ?_); clear hK78
                refine good_seq fun K80 hK80 => ?_
                refine good_seq fun K81 hK81 => ?_
                refine good_region rfl ?_
                refine ev_q rfl (q_move (by conv => lhs; whnf) ?_)
                refine ev_q rfl (q_move (by conv => lhs; whnf) ?_)
                refine ev_q rfl (q_move (by conv => lhs; whnf) ?_)
                refine ev_q rfl (q_int rfl rfl ?_)
                intro n82 hn82
                replace hn82 := in64 hn82 (by omega) (by omega)
                refine ev_q rfl (q_int rfl rfl ?_)
                intro n83 hn83
                replace hn83 := in64 hn83 (by omega) (by omega)
                refine ev_q rfl (q_callI rfl rfl (rfl) (D_laws_r8Abs _ (by omega)) ?_)
                intro n84 hn84
                refine ev_q rfl (q_int rfl rfl ?_)
                intro n85 hn85
                replace hn85 := in64 hn85 (by omega) (by omega)
                refine ev_q rfl (q_move (by conv => lhs; whnf) ?_)
                refine ev_q rfl (q_int rfl rfl ?_)
                intro b86 hb86; cases b86
                · replace hb86 := dF hb86
                  refine ev_q rfl (q_move (by conv => lhs; whnf) ?_)
                  refine ev_q rfl (q_move (by conv => lhs; whnf) ?_)
                  refine ev_q rfl (q_neg rfl ?_)
                  intro n87 hn87
                  replace hn87 := neg64 hn87 (by omega) (by omega)
                  refine ev_q rfl (q_move (by conv => lhs; whnf) ?_)
                  refine ev_q rfl (q_callI rfl rfl (rfl) (D_impl_DivRound _ _ (by omega) (by omega)) ?_)
                  intro n88 hn88
                  rw [hn87, hng] at hn88
                  refine ev_q rfl (q_move (by conv => lhs; whnf) ?_)
                  refine ev_q rfl (q_neg rfl ?_)
                  intro n89 hn89
                  replace hn89 := neg64 hn89 (by omega) (by omega)
                  refine ev_q rfl (q_int rfl rfl ?_)
                  intro b90 hb90; cases b90
                  · replace hb90 := neF hb90
                    refine ev_q rfl (q_pickF rfl (by conv => lhs; whnf) ?_)
                    refine ev_nil (hK81 _ ?_); clear hK81
                    refine good_condF rfl ?_
                    refine good_skip (hK80 _ ?_); clear hK80
                    refine good_seq fun K91 hK91 => ?_
                    refine good_region rfl ?_
                    refine ev_q rfl (q_move (by conv => lhs; whnf) ?_)
                    refine ev_q rfl (q_callI rfl rfl (rfl) (D_laws_r8Wide ds 0 1000 (by omega) hb2 (by omega) (by omega)) ?_)
                    intro n92 hn92
                    have hw0 := r8w_bd (cs := ds) (k := 0) (n := 1000) (by omega)
                    rw [← hn92] at hw0
                    refine ev_q rfl (q_assign (by conv => lhs; whnf) ?_)
                    refine ev_nil (hK91 _ ?_); clear hK91
                    refine good_seq fun K93 hK93 => ?_
                    refine good_region rfl ?_
                    refine ev_q rfl (q_move (by conv => lhs; whnf) ?_)
                    refine ev_q rfl (q_callI rfl rfl (rfl) (D_laws_r8Wide ds 2 5000 (by omega) hb2 (by omega) (by omega)) ?_)
                    intro n94 hn94
                    have hw2 := r8w_bd (cs := ds) (k := 2) (n := 5000) (by omega)
                    rw [← hn94] at hw2
                    refine ev_q rfl (q_int rfl rfl ?_)
                    intro n95 hn95
                    replace hn95 := in64 hn95 (by omega) (by omega)
                    refine ev_q rfl (q_assign (by conv => lhs; whnf) ?_)
                    refine ev_nil (hK93 _ ?_); clear hK93
                    refine good_seq fun K96 hK96 => ?_
                    refine good_region rfl ?_
                    refine ev_q rfl (q_move (by conv => lhs; whnf) ?_)
                    refine ev_q rfl (q_callI rfl rfl (rfl) (D_laws_r8Wide ds 4 5000 (by omega) hb2 (by omega) (by omega)) ?_)
                    intro n97 hn97
                    have hw4 := r8w_bd (cs := ds) (k := 4) (n := 5000) (by omega)
                    rw [← hn97] at hw4
                    refine ev_q rfl (q_int rfl rfl ?_)
                    intro n98 hn98
                    replace hn98 := in64 hn98 (by omega) (by omega)
                    refine ev_q rfl (q_assign (by conv => lhs; whnf) ?_)
                    refine ev_nil (hK96 _ ?_); clear hK96
                    refine good_seq fun K99 hK99 => ?_
                    refine good_region rfl ?_
                    refine ev_q rfl (q_move (by conv => lhs; whnf) ?_)
                    refine ev_q rfl (q_move (by conv => lhs; whnf) ?_)
                    refine ev_q rfl (q_move (by conv => lhs; whnf) ?_)
                    refine ev_q rfl (q_callI rfl rfl (rfl) (D_impl_Blend _ _ _ (by omega) (by omega)) ?_)
                    intro n100 hn100
                    have hbi := bl_in (y := n95) (z := n98) n92
                    rw [← hn100] at hbi
                    have hbl := bl_l (y := n95) (z := n98)
                    have hbr := bl_r (y := n95) (z := n98)
                    refine ev_q rfl (q_assign (by conv => lhs; whnf) ?_)
                    refine ev_nil (hK99 _ ?_); clear hK99
                    refine good_seq fun K101 hK101 => ?_
                    refine good_seq fun K102 hK102 => ?_
                    refine good_region rfl ?_
                    refine ev_q rfl (q_move (by conv => lhs; whnf) ?_)
                    refine ev_q rfl (q_move (by conv => lhs; whnf) ?_)
                    refine ev_q rfl (q_move (by conv => lhs; whnf) ?_)
                    refine ev_q rfl (q_min rfl rfl ?_)
                    intro n103 hn103; simp only [mxI, mnI] at hn103
                    refine ev_q rfl (q_int rfl rfl ?_)
                    intro b104 hb104; cases b104
                    · replace hb104 := dF hb104
                      refine ev_q rfl (q_move (by conv => lhs; whnf) ?_)
                      refine ev_q rfl (q_move (by conv => lhs; whnf) ?_)
                      refine ev_q rfl (q_move (by conv => lhs; whnf) ?_)
                      refine ev_q rfl (q_move (by conv => lhs; whnf) ?_)
                      refine ev_q rfl (q_max rfl rfl ?_)
                      intro n105 hn105; simp only [mxI, mnI] at hn105
                      refine ev_q rfl (q_int rfl rfl ?_)
                      intro b106 hb106; cases b106
                      · replace hb106 := dF hb106
                        refine ev_q rfl (q_pickF rfl (by conv => lhs; whnf) ?_)
                        refine ev_q rfl (q_move (by conv => lhs; whnf) ?_)
                        refine ev_q rfl (q_move (by conv => lhs; whnf) ?_)
                        refine ev_q rfl (q_move (by conv => lhs; whnf) ?_)
                        refine ev_q rfl (q_callI rfl rfl (rfl) (D_impl_Blend _ _ _ (by omega) (by omega)) ?_)
                        intro n107 hn107
                        refine ev_q rfl (q_move (by conv => lhs; whnf) ?_)
                        refine ev_q rfl (q_int rfl rfl ?_)
                        intro b108 hb108; cases b108
                        · replace hb108 := neF hb108
                          refine ev_q rfl (q_pickF rfl (by conv => lhs; whnf) ?_)
                          refine ev_q rfl (q_move (by conv => lhs; whnf) ?_)
                          refine ev_q rfl (q_move (by conv => lhs; whnf) ?_)
                          refine ev_q rfl (q_move (by conv => lhs; whnf) ?_)
                          refine ev_q rfl (q_callI rfl rfl (rfl) (D_impl_Blend _ _ _ (by omega) (by omega)) ?_)
                          intro n109 hn109
                          refine ev_q rfl (q_move (by conv => lhs; whnf) ?_)
                          refine ev_q rfl (q_int rfl rfl ?_)
                          intro b110 hb110; cases b110
                          · replace hb110 := neF hb110
                            refine ev_q rfl (q_pickF rfl (by conv => lhs; whnf) ?_)
                            refine ev_nil (hK102 _ ?_); clear hK102
                            refine good_condF rfl ?_
                            refine good_skip (hK101 _ ?_); clear hK101
                            refine good_seq fun K111 hK111 => ?_
                            refine good_region rfl ?_
                            have hll := lt_rl (L := [n7, n8, n92, n95, n98]) (bas_in (by omega) (by omega) (by omega) (by omega) (by omega)) (by simp)
                            have hdd := rdN_eq (n := n7) (by omega)
                            refine ev_q rfl (q_move (by conv => lhs; whnf) ?_)
                            refine ev_q rfl (q_move (by conv => lhs; whnf) ?_)
                            refine ev_q rfl (q_move (by conv => lhs; whnf) ?_)
                            refine ev_q rfl (q_move (by conv => lhs; whnf) ?_)
                            refine ev_q rfl (q_move (by conv => lhs; whnf) ?_)
                            refine ev_k rfl (k_lit tE69 zA2 rfl rfl (by decide) (by decide) rfl rfl rfl ?_)
                            refine ev_q rfl (q_assign (by conv => lhs; whnf) ?_)
                            refine ev_nil (hK111 _ ?_); clear hK111
                            refine good_seq fun K112 hK112 => ?_
                            refine good_region rfl ?_
                            refine ev_q rfl (q_move (by conv => lhs; whnf) ?_)
                            refine ev_q rfl (q_call rfl rfl (rfl) (D_impl_ListText [n7, n8, n92, n95, n98] (by simp)) rfl ?_)
                            refine ev_q rfl (q_call rfl rfl (rfl) (D_impl_ReadList (lt [n7, n8, n92, n95, n98]) (by have := lt_size (xs := [n7, n8, n92, n95, n98]); omega)) rfl ?_)
                            refine ev_q rfl (q_move (by conv => lhs; whnf) ?_)
                            refine ev_q rfl (q_extract rfl rfl ?_)
                            refine ev_q rfl (q_extractB rfl rfl ?_)
                            intro b113 hb113; cases b113
                            · first | replace hb113 := dF hb113 | skip
                              refine ev_q rfl (q_assign (by conv => lhs; whnf) ?_)
                              refine ev_q rfl (q_assign (by conv => lhs; whnf) ?_)
                              refine ev_nil (hK112 _ ?_); clear hK112
                              refine good_seq fun K114 hK114 => ?_
                              refine good_region rfl ?_
                              refine ev_q rfl (q_move (by conv => lhs; whnf) ?_)
                              refine ev_q rfl (q_call rfl rfl (rfl) (D_impl_Decimal n7 ⟨by omega, by omega⟩) rfl ?_)
                              refine ev_q rfl (q_call rfl rfl (rfl) (D_impl_ReadDecimal (dec n7) (by have := dec_size (n := n7) (by omega) (by omega); omega)) rfl ?_)
                              refine ev_q rfl (q_move (by conv => lhs; whnf) ?_)
                              refine ev_q rfl (q_extractI rfl rfl ?_)
                              intro n115 hn115
                              refine ev_q rfl (q_extractB rfl rfl ?_)
                              intro b116 hb116; cases b116
                              · first | replace hb116 := dF hb116 | skip
                                refine ev_q rfl (q_assign (by conv => lhs; whnf) ?_)
                                refine ev_q rfl (q_assign (by conv => lhs; whnf) ?_)
                                refine ev_nil (hK114 _ ?_); clear hK114
                                refine good_seq fun K117 hK117 => ?_
                                refine good_region rfl ?_
                                refine ev_q rfl (q_move (by conv => lhs; whnf) ?_)
                                refine ev_q rfl (q_move (by conv => lhs; whnf) ?_)
                                refine ev_skip rfl ?_
                                refine ev_skip rfl ?_
                                refine ev_skip rfl ?_
                                refine ev_q rfl (q_pickF rfl (by conv => lhs; whnf) ?_)
                                refine ev_q rfl (q_move (by conv => lhs; whnf) ?_)
                                refine ev_skip rfl ?_
                                refine ev_q rfl (q_pickF rfl (by conv => lhs; whnf) ?_)
                                refine ev_q rfl (q_move (by conv => lhs; whnf) ?_)
                                refine ev_skip rfl ?_
                                refine ev_skip rfl ?_
                                refine ev_skip rfl ?_
                                refine ev_q rfl (q_pickF rfl (by conv => lhs; whnf) ?_)
                                refine ev_q rfl (q_assign (by conv => lhs; whnf) ?_)
                                refine ev_nil (hK117 _ ?_); clear hK117
                                refine good_ret ?_
                                repeat (first | refine thenQ_ret ?_ | refine blockQ_ret ?_)
                                refine ret_tmp (st := _) rfl (by conv => lhs; whnf) rfl ?_
                                first | rfl | (exfalso; first | omega | (exact absurd hll.1 (by assumption)) | (exact absurd hdd.1 (by assumption)) | contradiction)
                              · first | replace hb116 := dT hb116 | skip
                                refine ev_q rfl (q_assign (by conv => lhs; whnf) ?_)
                                refine ev_q rfl (q_assign (by conv => lhs; whnf) ?_)
                                refine ev_nil (hK114 _ ?_); clear hK114
                                refine good_seq fun K118 hK118 => ?_
                                refine good_region rfl ?_
                                refine ev_q rfl (q_move (by conv => lhs; whnf) ?_)
                                refine ev_q rfl (q_move (by conv => lhs; whnf) ?_)
                                refine ev_skip rfl ?_
                                refine ev_skip rfl ?_
                                refine ev_skip rfl ?_
                                refine ev_q rfl (q_pickF rfl (by conv => lhs; whnf) ?_)
                                refine ev_q rfl (q_move (by conv => lhs; whnf) ?_)
                                refine ev_skip rfl ?_
                                refine ev_q rfl (q_pickF rfl (by conv => lhs; whnf) ?_)
                                refine ev_q rfl (q_move (by conv => lhs; whnf) ?_)
                                refine ev_skip rfl ?_
                                refine ev_skip rfl ?_
                                refine ev_skip rfl ?_
                                refine ev_q rfl (q_pickF rfl (by conv => lhs; whnf) ?_)
                                refine ev_q rfl (q_assign (by conv => lhs; whnf) ?_)
                                refine ev_nil (hK118 _ ?_); clear hK118
                                refine good_ret ?_
                                repeat (first | refine thenQ_ret ?_ | refine blockQ_ret ?_)
                                refine ret_tmp (st := _) rfl (by conv => lhs; whnf) rfl ?_
                                first | rfl | (exfalso; first | omega | (exact absurd hll.1 (by assumption)) | (exact absurd hdd.1 (by assumption)) | contradiction)
                            · first | replace hb113 := dT hb113 | skip
                              refine ev_q rfl (q_assign (by conv => lhs; whnf) ?_)
                              refine ev_q rfl (q_assign (by conv => lhs; whnf) ?_)
                              refine ev_nil (hK112 _ ?_); clear hK112
                              refine good_seq fun K119 hK119 => ?_
                              refine good_region rfl ?_
                              refine ev_q rfl (q_move (by conv => lhs; whnf) ?_)
                              refine ev_q rfl (q_call rfl rfl (rfl) (D_impl_Decimal n7 ⟨by omega, by omega⟩) rfl ?_)
                              refine ev_q rfl (q_call rfl rfl (rfl) (D_impl_ReadDecimal (dec n7) (by have := dec_size (n := n7) (by omega) (by omega); omega)) rfl ?_)
                              refine ev_q rfl (q_move (by conv => lhs; whnf) ?_)
                              refine ev_q rfl (q_extractI rfl rfl ?_)
                              intro n120 hn120
                              refine ev_q rfl (q_extractB rfl rfl ?_)
                              intro b121 hb121; cases b121
                              · first | replace hb121 := dF hb121 | skip
                                refine ev_q rfl (q_assign (by conv => lhs; whnf) ?_)
                                refine ev_q rfl (q_assign (by conv => lhs; whnf) ?_)
                                refine ev_nil (hK119 _ ?_); clear hK119
                                refine good_seq fun K122 hK122 => ?_
                                refine good_region rfl ?_
                                refine ev_q rfl (q_move (by conv => lhs; whnf) ?_)
                                refine ev_q rfl (q_move (by conv => lhs; whnf) ?_)
                                refine ev_q rfl (q_move (by conv => lhs; whnf) ?_)
                                refine ev_q rfl (q_move (by conv => lhs; whnf) ?_)
                                refine ev_q rfl (q_callB rfl rfl (by change ([.lst 1 ((rlL (lt [n7, n8, n92, n95, n98])).map ci), .lst 1 ([n7, n8, n92, n95, n98].map ci)] : List AV) = _; rw [hll.2]) (D_laws_r8Same [n7, n8, n92, n95, n98] (by simp)) ?_)
                                intro b123 hb123; cases b123
                                · first | replace hb123 := dF hb123 | skip
                                  refine ev_q rfl (q_pickT rfl (by conv => lhs; whnf) ?_)
                                  refine ev_q rfl (q_move (by conv => lhs; whnf) ?_)
                                  refine ev_skip rfl ?_
                                  refine ev_q rfl (q_pickF rfl (by conv => lhs; whnf) ?_)
                                  refine ev_q rfl (q_move (by conv => lhs; whnf) ?_)
                                  refine ev_skip rfl ?_
                                  refine ev_skip rfl ?_
                                  refine ev_skip rfl ?_
                                  refine ev_q rfl (q_pickF rfl (by conv => lhs; whnf) ?_)
                                  refine ev_q rfl (q_assign (by conv => lhs; whnf) ?_)
                                  refine ev_nil (hK122 _ ?_); clear hK122
                                  refine good_ret ?_
                                  repeat (first | refine thenQ_ret ?_ | refine blockQ_ret ?_)
                                  refine ret_tmp (st := _) rfl (by conv => lhs; whnf) rfl ?_
                                  first | rfl | (exfalso; first | omega | (exact absurd hll.1 (by assumption)) | (exact absurd hdd.1 (by assumption)) | contradiction)
                                · first | replace hb123 := dT hb123 | skip
                                  refine ev_q rfl (q_pickT rfl (by conv => lhs; whnf) ?_)
                                  refine ev_q rfl (q_move (by conv => lhs; whnf) ?_)
                                  refine ev_q rfl (q_move (by conv => lhs; whnf) ?_)
                                  refine ev_q rfl (q_pickT rfl (by conv => lhs; whnf) ?_)
                                  refine ev_q rfl (q_move (by conv => lhs; whnf) ?_)
                                  refine ev_skip rfl ?_
                                  refine ev_skip rfl ?_
                                  refine ev_skip rfl ?_
                                  refine ev_q rfl (q_pickF rfl (by conv => lhs; whnf) ?_)
                                  refine ev_q rfl (q_assign (by conv => lhs; whnf) ?_)
                                  refine ev_nil (hK122 _ ?_); clear hK122
                                  refine good_ret ?_
                                  repeat (first | refine thenQ_ret ?_ | refine blockQ_ret ?_)
                                  refine ret_tmp (st := _) rfl (by conv => lhs; whnf) rfl ?_
                                  first | rfl | (exfalso; first | omega | (exact absurd hll.1 (by assumption)) | (exact absurd hdd.1 (by assumption)) | contradiction)
                              · first | replace hb121 := dT hb121 | skip
                                refine ev_q rfl (q_assign (by conv => lhs; whnf) ?_)
                                refine ev_q rfl (q_assign (by conv => lhs; whnf) ?_)
                                refine ev_nil (hK119 _ ?_); clear hK119
                                refine good_seq fun K124 hK124 => ?_
                                refine good_region rfl ?_
                                refine ev_q rfl (q_move (by conv => lhs; whnf) ?_)
                                refine ev_q rfl (q_move (by conv => lhs; whnf) ?_)
                                refine ev_q rfl (q_move (by conv => lhs; whnf) ?_)
                                refine ev_q rfl (q_move (by conv => lhs; whnf) ?_)
                                refine ev_q rfl (q_callB rfl rfl (by change ([.lst 1 ((rlL (lt [n7, n8, n92, n95, n98])).map ci), .lst 1 ([n7, n8, n92, n95, n98].map ci)] : List AV) = _; rw [hll.2]) (D_laws_r8Same [n7, n8, n92, n95, n98] (by simp)) ?_)
                                intro b125 hb125; cases b125
                                · first | replace hb125 := dF hb125 | skip
                                  refine ev_q rfl (q_pickT rfl (by conv => lhs; whnf) ?_)
                                  refine ev_q rfl (q_move (by conv => lhs; whnf) ?_)
                                  refine ev_skip rfl ?_
                                  refine ev_q rfl (q_pickF rfl (by conv => lhs; whnf) ?_)
                                  refine ev_q rfl (q_move (by conv => lhs; whnf) ?_)
                                  refine ev_skip rfl ?_
                                  refine ev_skip rfl ?_
                                  refine ev_skip rfl ?_
                                  refine ev_q rfl (q_pickF rfl (by conv => lhs; whnf) ?_)
                                  refine ev_q rfl (q_assign (by conv => lhs; whnf) ?_)
                                  refine ev_nil (hK124 _ ?_); clear hK124
                                  refine good_ret ?_
                                  repeat (first | refine thenQ_ret ?_ | refine blockQ_ret ?_)
                                  refine ret_tmp (st := _) rfl (by conv => lhs; whnf) rfl ?_
                                  first | rfl | (exfalso; first | omega | (exact absurd hll.1 (by assumption)) | (exact absurd hdd.1 (by assumption)) | contradiction)
                                · first | replace hb125 := dT hb125 | skip
                                  refine ev_q rfl (q_pickT rfl (by conv => lhs; whnf) ?_)
                                  refine ev_q rfl (q_move (by conv => lhs; whnf) ?_)
                                  refine ev_q rfl (q_move (by conv => lhs; whnf) ?_)
                                  refine ev_q rfl (q_pickT rfl (by conv => lhs; whnf) ?_)
                                  refine ev_q rfl (q_move (by conv => lhs; whnf) ?_)
                                  refine ev_q rfl (q_move (by conv => lhs; whnf) ?_)
                                  refine ev_q rfl (q_move (by conv => lhs; whnf) ?_)
                                  refine ev_q rfl (q_int rfl rfl ?_)
                                  intro b126 hb126; cases b126
                                  · replace hb126 := eqF hb126
                                    refine ev_q rfl (q_pickT rfl (by conv => lhs; whnf) ?_)
                                    refine ev_q rfl (q_assign (by conv => lhs; whnf) ?_)
                                    refine ev_nil (hK124 _ ?_); clear hK124
                                    refine good_ret ?_
                                    repeat (first | refine thenQ_ret ?_ | refine blockQ_ret ?_)
                                    refine ret_tmp (st := _) rfl (by conv => lhs; whnf) rfl ?_
                                    first | rfl | (exfalso; first | omega | (exact absurd hll.1 (by assumption)) | (exact absurd hdd.1 (by assumption)) | contradiction)
                                  · replace hb126 := eqT hb126
                                    refine ev_q rfl (q_pickT rfl (by conv => lhs; whnf) ?_)
                                    refine ev_q rfl (q_assign (by conv => lhs; whnf) ?_)
                                    refine ev_nil (hK124 _ ?_); clear hK124
                                    refine good_ret ?_
                                    repeat (first | refine thenQ_ret ?_ | refine blockQ_ret ?_)
                                    refine ret_tmp (st := _) rfl (by conv => lhs; whnf) rfl ?_
                                    first | rfl | (exfalso; first | omega | (exact absurd hll.1 (by assumption)) | (exact absurd hdd.1 (by assumption)) | contradiction)
                          · replace hb110 := neT hb110
                            refine ev_q rfl (q_pickF rfl (by conv => lhs; whnf) ?_)
                            refine ev_nil (hK102 _ ?_); clear hK102
                            refine good_condT rfl ?_
                            refine good_seq fun K127 hK127 => ?_
                            refine good_region rfl ?_
                            refine ev_q rfl (q_assign (by conv => lhs; whnf) ?_)
                            refine ev_nil (hK127 _ ?_); clear hK127
                            refine good_ret ?_
                            repeat (first | refine thenQ_ret ?_ | refine blockQ_ret ?_)
                            refine ret_tmp (st := _) rfl (by conv => lhs; whnf) rfl ?_
                            clear hK101
                            first | rfl | (exfalso; first | omega | (exact absurd hll.1 (by assumption)) | (exact absurd hdd.1 (by assumption)) | contradiction)
                        · replace hb108 := neT hb108
                          refine ev_q rfl (q_pickF rfl (by conv => lhs; whnf) ?_)
                          refine ev_q rfl (q_move (by conv => lhs; whnf) ?_)
                          refine ev_skip rfl ?_
                          refine ev_skip rfl ?_
                          refine ev_skip rfl ?_
                          refine ev_skip rfl ?_
                          refine ev_skip rfl ?_
                          refine ev_q rfl (q_pickT rfl (by conv => lhs; whnf) ?_)
                          refine ev_nil (hK102 _ ?_); clear hK102
                          refine good_condT rfl ?_
                          refine good_seq fun K128 hK128 => ?_
                          refine good_region rfl ?_
                          refine ev_q rfl (q_assign (by conv => lhs; whnf) ?_)
                          refine ev_nil (hK128 _ ?_); clear hK128
                          refine good_ret ?_
                          repeat (first | refine thenQ_ret ?_ | refine blockQ_ret ?_)
                          refine ret_tmp (st := _) rfl (by conv => lhs; whnf) rfl ?_
                          clear hK101
                          first | rfl | (exfalso; first | omega | (exact absurd hll.1 (by assumption)) | (exact absurd hdd.1 (by assumption)) | contradiction)
                      · replace hb106 := dT hb106
                        refine ev_q rfl (q_pickF rfl (by conv => lhs; whnf) ?_)
                        refine ev_q rfl (q_move (by conv => lhs; whnf) ?_)
                        refine ev_skip rfl ?_
                        refine ev_skip rfl ?_
                        refine ev_skip rfl ?_
                        refine ev_skip rfl ?_
                        refine ev_skip rfl ?_
                        refine ev_q rfl (q_pickT rfl (by conv => lhs; whnf) ?_)
                        refine ev_q rfl (q_move (by conv => lhs; whnf) ?_)
                        refine ev_skip rfl ?_
                        refine ev_skip rfl ?_
                        refine ev_skip rfl ?_
                        refine ev_skip rfl ?_
                        refine ev_skip rfl ?_
                        refine ev_q rfl (q_pickT rfl (by conv => lhs; whnf) ?_)
                        refine ev_nil (hK102 _ ?_); clear hK102
                        refine good_condT rfl ?_
                        refine good_seq fun K129 hK129 => ?_
                        refine good_region rfl ?_
                        refine ev_q rfl (q_assign (by conv => lhs; whnf) ?_)
                        refine ev_nil (hK129 _ ?_); clear hK129
                        refine good_ret ?_
                        repeat (first | refine thenQ_ret ?_ | refine blockQ_ret ?_)
                        refine ret_tmp (st := _) rfl (by conv => lhs; whnf) rfl ?_
                        clear hK101
                        first | rfl | (exfalso; first | omega | (exact absurd hll.1 (by assumption)) | (exact absurd hdd.1 (by assumption)) | contradiction)
                    · replace hb104 := dT hb104
                      refine ev_q rfl (q_move (by conv => lhs; whnf) ?_)
                      refine ev_skip rfl ?_
                      refine ev_skip rfl ?_
                      refine ev_skip rfl ?_
                      refine ev_skip rfl ?_
                      refine ev_skip rfl ?_
                      refine ev_q rfl (q_pickT rfl (by conv => lhs; whnf) ?_)
                      refine ev_q rfl (q_move (by conv => lhs; whnf) ?_)
                      refine ev_skip rfl ?_
                      refine ev_skip rfl ?_
                      refine ev_skip rfl ?_
                      refine ev_skip rfl ?_
                      refine ev_skip rfl ?_
                      refine ev_q rfl (q_pickT rfl (by conv => lhs; whnf) ?_)
                      refine ev_q rfl (q_move (by conv => lhs; whnf) ?_)
                      refine ev_skip rfl ?_
                      refine ev_skip rfl ?_
                      refine ev_skip rfl ?_
                      refine ev_skip rfl ?_
                      refine ev_skip rfl ?_
                      refine ev_q rfl (q_pickT rfl (by conv => lhs; whnf) ?_)
                      refine ev_nil (hK102 _ ?_); clear hK102
                      refine good_condT rfl ?_
                      refine good_seq fun K130 hK130 => ?_
                      refine good_region rfl ?_
                      refine ev_q rfl (q_assign (by conv => lhs; whnf) ?_)
                      refine ev_nil (hK130 _ ?_); clear hK130
                      refine good_ret ?_
                      repeat (first | refine thenQ_ret ?_ | refine blockQ_ret ?_)
                      refine ret_tmp (st := _) rfl (by conv => lhs; whnf) rfl ?_
                      clear hK101
                      first | rfl | (exfalso; first | omega | (exact absurd hll.1 (by assumption)) | (exact absurd hdd.1 (by assumption)) | contradiction)
                  · replace hb90 := neT hb90
                    refine ev_q rfl (q_pickF rfl (by conv => lhs; whnf) ?_)
                    refine ev_nil (hK81 _ ?_); clear hK81
                    refine good_condT rfl ?_
                    refine good_seq fun K131 hK131 => ?_
                    refine good_region rfl ?_
                    refine ev_q rfl (q_assign (by conv => lhs; whnf) ?_)
                    refine ev_nil (hK131 _ ?_); clear hK131
                    refine good_ret ?_
                    repeat (first | refine thenQ_ret ?_ | refine blockQ_ret ?_)
                    refine ret_tmp (st := _) rfl (by conv => lhs; whnf) rfl ?_
                    clear hK80
                    first | rfl | (exfalso; first | omega | (exact absurd hll.1 (by assumption)) | (exact absurd hdd.1 (by assumption)) | contradiction)
                · replace hb86 := dT hb86
                  refine ev_q rfl (q_move (by conv => lhs; whnf) ?_)
                  refine ev_skip rfl ?_
                  refine ev_skip rfl ?_
                  refine ev_skip rfl ?_
                  refine ev_skip rfl ?_
                  refine ev_skip rfl ?_
                  refine ev_skip rfl ?_
                  refine ev_skip rfl ?_
                  refine ev_q rfl (q_pickT rfl (by conv => lhs; whnf) ?_)
                  refine ev_nil (hK81 _ ?_); clear hK81
                  refine good_condT rfl ?_
                  refine good_seq fun K132 hK132 => ?_
                  refine good_region rfl ?_
                  refine ev_q rfl (q_assign (by conv => lhs; whnf) ?_)
                  refine ev_nil (hK132 _ ?_); clear hK132
                  refine good_ret ?_
                  repeat (first | refine thenQ_ret ?_ | refine blockQ_ret ?_)
                  refine ret_tmp (st := _) rfl (by conv => lhs; whnf) rfl ?_
                  clear hK80
                  first | rfl | (exfalso; first | omega | (exact absurd hll.1 (by assumption)) | (exact absurd hdd.1 (by assumption)) | contradiction)
              · replace hb77 := dT hb77
                refine ev_q rfl (q_pickF rfl (by conv => lhs; whnf) ?_)
                refine ev_q rfl (q_pickT rfl (by conv => lhs; whnf) ?_)
                refine ev_q rfl (q_pickF rfl (by conv => lhs; whnf) ?_)
                refine ev_nil (hK12 _ ?_); clear hK12
                refine good_condT rfl ?_
                refine good_seq fun K133 hK133 => ?_
                refine good_region rfl ?_
                refine ev_q rfl (q_assign (by conv => lhs; whnf) ?_)
                refine ev_nil (hK133 _ ?_); clear hK133
                refine good_ret ?_
                repeat (first | refine thenQ_ret ?_ | refine blockQ_ret ?_)
                refine ret_tmp (st := _) rfl (by conv => lhs; whnf) rfl ?_
                clear hK11
                first | rfl | (exfalso; first | omega | (exact absurd hll.1 (by assumption)) | (exact absurd hdd.1 (by assumption)) | contradiction)
            · replace hb73 := dT hb73
              refine ev_q rfl (q_pickF rfl (by conv => lhs; whnf) ?_)
              refine ev_q rfl (q_move (by conv => lhs; whnf) ?_)
              refine ev_skip rfl ?_
              refine ev_skip rfl ?_
              refine ev_skip rfl ?_
              refine ev_skip rfl ?_
              refine ev_skip rfl ?_
              refine ev_skip rfl ?_
              refine ev_skip rfl ?_
              refine ev_q rfl (q_pickT rfl (by conv => lhs; whnf) ?_)
              refine ev_q rfl (q_pickT rfl (by conv => lhs; whnf) ?_)
              refine ev_q rfl (q_pickF rfl (by conv => lhs; whnf) ?_)
              refine ev_nil (hK12 _ ?_); clear hK12
              refine good_condT rfl ?_
              refine good_seq fun K134 hK134 => ?_
              refine good_region rfl ?_
              refine ev_q rfl (q_assign (by conv => lhs; whnf) ?_)
              refine ev_nil (hK134 _ ?_); clear hK134
              refine good_ret ?_
              repeat (first | refine thenQ_ret ?_ | refine blockQ_ret ?_)
              refine ret_tmp (st := _) rfl (by conv => lhs; whnf) rfl ?_
              clear hK11
              first | rfl | (exfalso; first | omega | (exact absurd hll.1 (by assumption)) | (exact absurd hdd.1 (by assumption)) | contradiction)
          · replace hb71 := dT hb71
            refine ev_q rfl (q_pickF rfl (by conv => lhs; whnf) ?_)
            refine ev_q rfl (q_move (by conv => lhs; whnf) ?_)
            refine ev_skip rfl ?_
            refine ev_skip rfl ?_
            refine ev_skip rfl ?_
            refine ev_skip rfl ?_
            refine ev_skip rfl ?_
            refine ev_q rfl (q_pickT rfl (by conv => lhs; whnf) ?_)
            refine ev_q rfl (q_move (by conv => lhs; whnf) ?_)
            refine ev_skip rfl ?_
            refine ev_skip rfl ?_
            refine ev_skip rfl ?_
            refine ev_skip rfl ?_
            refine ev_skip rfl ?_
            refine ev_skip rfl ?_
            refine ev_skip rfl ?_
            refine ev_q rfl (q_pickT rfl (by conv => lhs; whnf) ?_)
            refine ev_q rfl (q_pickT rfl (by conv => lhs; whnf) ?_)
            refine ev_q rfl (q_pickF rfl (by conv => lhs; whnf) ?_)
            refine ev_nil (hK12 _ ?_); clear hK12
            refine good_condT rfl ?_
            refine good_seq fun K135 hK135 => ?_
            refine good_region rfl ?_
            refine ev_q rfl (q_assign (by conv => lhs; whnf) ?_)
            refine ev_nil (hK135 _ ?_); clear hK135
            refine good_ret ?_
            repeat (first | refine thenQ_ret ?_ | refine blockQ_ret ?_)
            refine ret_tmp (st := _) rfl (by conv => lhs; whnf) rfl ?_
            clear hK11
            first | rfl | (exfalso; first | omega | (exact absurd hll.1 (by assumption)) | (exact absurd hdd.1 (by assumption)) | contradiction)
        · replace hb70 := dT hb70
          refine ev_q rfl (q_move (by conv => lhs; whnf) ?_)
          refine ev_skip rfl ?_
          refine ev_skip rfl ?_
          refine ev_q rfl (q_pickT rfl (by conv => lhs; whnf) ?_)
          refine ev_q rfl (q_move (by conv => lhs; whnf) ?_)
          refine ev_skip rfl ?_
          refine ev_skip rfl ?_
          refine ev_skip rfl ?_
          refine ev_skip rfl ?_
          refine ev_skip rfl ?_
          refine ev_q rfl (q_pickT rfl (by conv => lhs; whnf) ?_)
          refine ev_q rfl (q_move (by conv => lhs; whnf) ?_)
          refine ev_skip rfl ?_
          refine ev_skip rfl ?_
          refine ev_skip rfl ?_
          refine ev_skip rfl ?_
          refine ev_skip rfl ?_
          refine ev_skip rfl ?_
          refine ev_skip rfl ?_
          refine ev_q rfl (q_pickT rfl (by conv => lhs; whnf) ?_)
          refine ev_q rfl (q_pickT rfl (by conv => lhs; whnf) ?_)
          refine ev_q rfl (q_pickF rfl (by conv => lhs; whnf) ?_)
          refine ev_nil (hK12 _ ?_); clear hK12
          refine good_condT rfl ?_
          refine good_seq fun K136 hK136 => ?_
          refine good_region rfl ?_
          refine ev_q rfl (q_assign (by conv => lhs; whnf) ?_)
          refine ev_nil (hK136 _ ?_); clear hK136
          refine good_ret ?_
          repeat (first | refine thenQ_ret ?_ | refine blockQ_ret ?_)
          refine ret_tmp (st := _) rfl (by conv => lhs; whnf) rfl ?_
          clear hK11
          first | rfl | (exfalso; first | omega | (exact absurd hll.1 (by assumption)) | (exact absurd hdd.1 (by assumption)) | contradiction)
    · replace hb13 := dT hb13
      have hr0 : n10 = 0 := by rw [hn10]; exact if_pos (by omega)
      refine ev_q rfl (q_move (by conv => lhs; whnf) ?_)
      refine ev_q rfl (q_move (by conv => lhs; whnf) ?_)
      refine ev_q rfl (q_int rfl rfl ?_)
      intro b137 hb137; cases b137
      · replace hb137 := neF hb137
        refine ev_q rfl (q_pickT rfl (by conv => lhs; whnf) ?_)
        refine ev_q rfl (q_move (by conv => lhs; whnf) ?_)
        refine ev_q rfl (q_move (by conv => lhs; whnf) ?_)
        refine ev_q rfl (q_int rfl rfl ?_)
        intro b138 hb138; cases b138
        · replace hb138 := dF hb138
          refine ev_q rfl (q_move (by conv => lhs; whnf) ?_)
          refine ev_skip rfl ?_
          refine ev_skip rfl ?_
          refine ev_skip rfl ?_
          refine ev_skip rfl ?_
          refine ev_skip rfl ?_
          refine ev_skip rfl ?_
          refine ev_skip rfl ?_
          refine ev_skip rfl ?_
          refine ev_skip rfl ?_
          refine ev_skip rfl ?_
          refine ev_skip rfl ?_
          refine ev_skip rfl ?_
          refine ev_skip rfl ?_
          refine ev_skip rfl ?_
          refine ev_skip rfl ?_
          refine ev_skip rfl ?_
          refine ev_skip rfl ?_
          refine ev_skip rfl ?_
          refine ev_skip rfl ?_
          refine ev_skip rfl ?_
          refine ev_skip rfl ?_
          refine ev_skip rfl ?_
          refine ev_q rfl (q_pickF rfl (by conv => lhs; whnf) ?_)
          refine ev_q rfl (q_pickF rfl (by conv => lhs; whnf) ?_)
          refine ev_nil (hK12 _ ?_); clear hK12
          refine good_condF rfl ?_
          refine good_skip (hK11 _ ?_); clear hK11
          refine good_seq fun K139 hK139 => ?_
          refine good_region rfl ?_
          refine ev_q rfl (q_move (by conv => lhs; whnf) ?_)
          refine ev_q rfl (q_move (by conv => lhs; whnf) ?_)
          refine ev_q rfl (q_callI rfl rfl (rfl) (D_impl_DivRound _ _ (by omega) (by omega)) ?_)
          intro n140 hn140
          have hcl := dr_close (a := n7) (b := n8) (by omega)
          have hng := dr_neg (a := n7) (b := n8) (by omega)
          have hdb := dr_bound (a := n7) (b := n8) (by omega)
          rw [← hn140] at hcl hng hdb
          refine ev_q rfl (q_assign (by conv => lhs; whnf) ?_)
          refine ev_nil (hK139 _ ?_); clear hK139
          refine good_seq fun K141 hK141 => ?_
          refine good_seq fun K142 hK142 => ?_
          refine good_region rfl ?_
          refine ev_q rfl (q_move (by conv => lhs; whnf) ?_)
          refine ev_q rfl (q_move (by conv => lhs; whnf) ?_)
          refine ev_q rfl (q_move (by conv => lhs; whnf) ?_)
          refine ev_q rfl (q_int rfl rfl ?_)
          intro n143 hn143
          replace hn143 := in64 hn143 (by omega) (by omega)
          refine ev_q rfl (q_int rfl rfl ?_)
          intro n144 hn144
          replace hn144 := in64 hn144 (by omega) (by omega)
          refine ev_q rfl (q_callI rfl rfl (rfl) (D_laws_r8Abs _ (by omega)) ?_)
          intro n145 hn145
          refine ev_q rfl (q_int rfl rfl ?_)
          intro n146 hn146
          replace hn146 := in64 hn146 (by omega) (by omega)
          refine ev_q rfl (q_move (by conv => lhs; whnf) ?_)
          refine ev_q rfl (q_int rfl rfl ?_)
          intro b147 hb147; cases b147
          · replace hb147 := dF hb147
            refine ev_q rfl (q_move (by conv => lhs; whnf) ?_)
            refine ev_q rfl (q_move (by conv => lhs; whnf) ?_)
            refine ev_q rfl (q_neg rfl ?_)
            intro n148 hn148
            replace hn148 := neg64 hn148 (by omega) (by omega)
            refine ev_q rfl (q_move (by conv => lhs; whnf) ?_)
            refine ev_q rfl (q_callI rfl rfl (rfl) (D_impl_DivRound _ _ (by omega) (by omega)) ?_)
            intro n149 hn149
            rw [hn148, hng] at hn149
            refine ev_q rfl (q_move (by conv => lhs; whnf) ?_)
            refine ev_q rfl (q_neg rfl ?_)
            intro n150 hn150
            replace hn150 := neg64 hn150 (by omega) (by omega)
            refine ev_q rfl (q_int rfl rfl ?_)
            intro b151 hb151; cases b151
            · replace hb151 := neF hb151
              refine ev_q rfl (q_pickF rfl (by conv => lhs; whnf) ?_)
              refine ev_nil (hK142 _ ?_); clear hK142
              refine good_condF rfl ?_
              refine good_skip (hK141 _ ?_); clear hK141
              refine good_seq fun K152 hK152 => ?_
              refine good_region rfl ?_
              refine ev_q rfl (q_move (by conv => lhs; whnf) ?_)
              refine ev_q rfl (q_callI rfl rfl (rfl) (D_laws_r8Wide ds 0 1000 (by omega) hb2 (by omega) (by omega)) ?_)
              intro n153 hn153
              have hw0 := r8w_bd (cs := ds) (k := 0) (n := 1000) (by omega)
              rw [← hn153] at hw0
              refine ev_q rfl (q_assign (by conv => lhs; whnf) ?_)
              refine ev_nil (hK152 _ ?_); clear hK152
              refine good_seq fun K154 hK154 => ?_
              refine good_region rfl ?_
              refine ev_q rfl (q_move (by conv => lhs; whnf) ?_)
              refine ev_q rfl (q_callI rfl rfl (rfl) (D_laws_r8Wide ds 2 5000 (by omega) hb2 (by omega) (by omega)) ?_)
              intro n155 hn155
              have hw2 := r8w_bd (cs := ds) (k := 2) (n := 5000) (by omega)
              rw [← hn155] at hw2
              refine ev_q rfl (q_int rfl rfl ?_)
              intro n156 hn156
              replace hn156 := in64 hn156 (by omega) (by omega)
              refine ev_q rfl (q_assign (by conv => lhs; whnf) ?_)
              refine ev_nil (hK154 _ ?_); clear hK154
              refine good_seq fun K157 hK157 => ?_
              refine good_region rfl ?_
              refine ev_q rfl (q_move (by conv => lhs; whnf) ?_)
              refine ev_q rfl (q_callI rfl rfl (rfl) (D_laws_r8Wide ds 4 5000 (by omega) hb2 (by omega) (by omega)) ?_)
              intro n158 hn158
              have hw4 := r8w_bd (cs := ds) (k := 4) (n := 5000) (by omega)
              rw [← hn158] at hw4
              refine ev_q rfl (q_int rfl rfl ?_)
              intro n159 hn159
              replace hn159 := in64 hn159 (by omega) (by omega)
              refine ev_q rfl (q_assign (by conv => lhs; whnf) ?_)
              refine ev_nil (hK157 _ ?_); clear hK157
              refine good_seq fun K160 hK160 => ?_
              refine good_region rfl ?_
              refine ev_q rfl (q_move (by conv => lhs; whnf) ?_)
              refine ev_q rfl (q_move (by conv => lhs; whnf) ?_)
              refine ev_q rfl (q_move (by conv => lhs; whnf) ?_)
              refine ev_q rfl (q_callI rfl rfl (rfl) (D_impl_Blend _ _ _ (by omega) (by omega)) ?_)
              intro n161 hn161
              have hbi := bl_in (y := n156) (z := n159) n153
              rw [← hn161] at hbi
              have hbl := bl_l (y := n156) (z := n159)
              have hbr := bl_r (y := n156) (z := n159)
              refine ev_q rfl (q_assign (by conv => lhs; whnf) ?_)
              refine ev_nil (hK160 _ ?_); clear hK160
              refine good_seq fun K162 hK162 => ?_
              refine good_seq fun K163 hK163 => ?_
              refine good_region rfl ?_
              refine ev_q rfl (q_move (by conv => lhs; whnf) ?_)
              refine ev_q rfl (q_move (by conv => lhs; whnf) ?_)
              refine ev_q rfl (q_move (by conv => lhs; whnf) ?_)
              refine ev_q rfl (q_min rfl rfl ?_)
              intro n164 hn164; simp only [mxI, mnI] at hn164
              refine ev_q rfl (q_int rfl rfl ?_)
              intro b165 hb165; cases b165
              · replace hb165 := dF hb165
                refine ev_q rfl (q_move (by conv => lhs; whnf) ?_)
                refine ev_q rfl (q_move (by conv => lhs; whnf) ?_)
                refine ev_q rfl (q_move (by conv => lhs; whnf) ?_)
                refine ev_q rfl (q_move (by conv => lhs; whnf) ?_)
                refine ev_q rfl (q_max rfl rfl ?_)
                intro n166 hn166; simp only [mxI, mnI] at hn166
                refine ev_q rfl (q_int rfl rfl ?_)
                intro b167 hb167; cases b167
                · replace hb167 := dF hb167
                  refine ev_q rfl (q_pickF rfl (by conv => lhs; whnf) ?_)
                  refine ev_q rfl (q_move (by conv => lhs; whnf) ?_)
                  refine ev_q rfl (q_move (by conv => lhs; whnf) ?_)
                  refine ev_q rfl (q_move (by conv => lhs; whnf) ?_)
                  refine ev_q rfl (q_callI rfl rfl (rfl) (D_impl_Blend _ _ _ (by omega) (by omega)) ?_)
                  intro n168 hn168
                  refine ev_q rfl (q_move (by conv => lhs; whnf) ?_)
                  refine ev_q rfl (q_int rfl rfl ?_)
                  intro b169 hb169; cases b169
                  · replace hb169 := neF hb169
                    refine ev_q rfl (q_pickF rfl (by conv => lhs; whnf) ?_)
                    refine ev_q rfl (q_move (by conv => lhs; whnf) ?_)
                    refine ev_q rfl (q_move (by conv => lhs; whnf) ?_)
                    refine ev_q rfl (q_move (by conv => lhs; whnf) ?_)
                    refine ev_q rfl (q_callI rfl rfl (rfl) (D_impl_Blend _ _ _ (by omega) (by omega)) ?_)
                    intro n170 hn170
                    refine ev_q rfl (q_move (by conv => lhs; whnf) ?_)
                    refine ev_q rfl (q_int rfl rfl ?_)
                    intro b171 hb171; cases b171
                    · replace hb171 := neF hb171
                      refine ev_q rfl (q_pickF rfl (by conv => lhs; whnf) ?_)
                      refine ev_nil (hK163 _ ?_); clear hK163
                      refine good_condF rfl ?_
                      refine good_skip (hK162 _ ?_); clear hK162
                      refine good_seq fun K172 hK172 => ?_
                      refine good_region rfl ?_
                      have hll := lt_rl (L := [n7, n8, n153, n156, n159]) (bas_in (by omega) (by omega) (by omega) (by omega) (by omega)) (by simp)
                      have hdd := rdN_eq (n := n7) (by omega)
                      refine ev_q rfl (q_move (by conv => lhs; whnf) ?_)
                      refine ev_q rfl (q_move (by conv => lhs; whnf) ?_)
                      refine ev_q rfl (q_move (by conv => lhs; whnf) ?_)
                      refine ev_q rfl (q_move (by conv => lhs; whnf) ?_)
                      refine ev_q rfl (q_move (by conv => lhs; whnf) ?_)
                      refine ev_k rfl (k_lit tE69 zA2 rfl rfl (by decide) (by decide) rfl rfl rfl ?_)
                      refine ev_q rfl (q_assign (by conv => lhs; whnf) ?_)
                      refine ev_nil (hK172 _ ?_); clear hK172
                      refine good_seq fun K173 hK173 => ?_
                      refine good_region rfl ?_
                      refine ev_q rfl (q_move (by conv => lhs; whnf) ?_)
                      refine ev_q rfl (q_call rfl rfl (rfl) (D_impl_ListText [n7, n8, n153, n156, n159] (by simp)) rfl ?_)
                      refine ev_q rfl (q_call rfl rfl (rfl) (D_impl_ReadList (lt [n7, n8, n153, n156, n159]) (by have := lt_size (xs := [n7, n8, n153, n156, n159]); omega)) rfl ?_)
                      refine ev_q rfl (q_move (by conv => lhs; whnf) ?_)
                      refine ev_q rfl (q_extract rfl rfl ?_)
                      refine ev_q rfl (q_extractB rfl rfl ?_)
                      intro b174 hb174; cases b174
                      · first | replace hb174 := dF hb174 | skip
                        refine ev_q rfl (q_assign (by conv => lhs; whnf) ?_)
                        refine ev_q rfl (q_assign (by conv => lhs; whnf) ?_)
                        refine ev_nil (hK173 _ ?_); clear hK173
                        refine good_seq fun K175 hK175 => ?_
                        refine good_region rfl ?_
                        refine ev_q rfl (q_move (by conv => lhs; whnf) ?_)
                        refine ev_q rfl (q_call rfl rfl (rfl) (D_impl_Decimal n7 ⟨by omega, by omega⟩) rfl ?_)
                        refine ev_q rfl (q_call rfl rfl (rfl) (D_impl_ReadDecimal (dec n7) (by have := dec_size (n := n7) (by omega) (by omega); omega)) rfl ?_)
                        refine ev_q rfl (q_move (by conv => lhs; whnf) ?_)
                        refine ev_q rfl (q_extractI rfl rfl ?_)
                        intro n176 hn176
                        refine ev_q rfl (q_extractB rfl rfl ?_)
                        intro b177 hb177; cases b177
                        · first | replace hb177 := dF hb177 | skip
                          refine ev_q rfl (q_assign (by conv => lhs; whnf) ?_)
                          refine ev_q rfl (q_assign (by conv => lhs; whnf) ?_)
                          refine ev_nil (hK175 _ ?_); clear hK175
                          refine good_seq fun K178 hK178 => ?_
                          refine good_region rfl ?_
                          refine ev_q rfl (q_move (by conv => lhs; whnf) ?_)
                          refine ev_q rfl (q_move (by conv => lhs; whnf) ?_)
                          refine ev_skip rfl ?_
                          refine ev_skip rfl ?_
                          refine ev_skip rfl ?_
                          refine ev_q rfl (q_pickF rfl (by conv => lhs; whnf) ?_)
                          refine ev_q rfl (q_move (by conv => lhs; whnf) ?_)
                          refine ev_skip rfl ?_
                          refine ev_q rfl (q_pickF rfl (by conv => lhs; whnf) ?_)
                          refine ev_q rfl (q_move (by conv => lhs; whnf) ?_)
                          refine ev_skip rfl ?_
                          refine ev_skip rfl ?_
                          refine ev_skip rfl ?_
                          refine ev_q rfl (q_pickF rfl (by conv => lhs; whnf) ?_)
                          refine ev_q rfl (q_assign (by conv => lhs; whnf) ?_)
                          refine ev_nil (hK178 _ ?_); clear hK178
                          refine good_ret ?_
                          repeat (first | refine thenQ_ret ?_ | refine blockQ_ret ?_)
                          refine ret_tmp (st := _) rfl (by conv => lhs; whnf) rfl ?_
                          first | rfl | (exfalso; first | omega | (exact absurd hll.1 (by assumption)) | (exact absurd hdd.1 (by assumption)) | contradiction)
                        · first | replace hb177 := dT hb177 | skip
                          refine ev_q rfl (q_assign (by conv => lhs; whnf) ?_)
                          refine ev_q rfl (q_assign (by conv => lhs; whnf) ?_)
                          refine ev_nil (hK175 _ ?_); clear hK175
                          refine good_seq fun K179 hK179 => ?_
                          refine good_region rfl ?_
                          refine ev_q rfl (q_move (by conv => lhs; whnf) ?_)
                          refine ev_q rfl (q_move (by conv => lhs; whnf) ?_)
                          refine ev_skip rfl ?_
                          refine ev_skip rfl ?_
                          refine ev_skip rfl ?_
                          refine ev_q rfl (q_pickF rfl (by conv => lhs; whnf) ?_)
                          refine ev_q rfl (q_move (by conv => lhs; whnf) ?_)
                          refine ev_skip rfl ?_
                          refine ev_q rfl (q_pickF rfl (by conv => lhs; whnf) ?_)
                          refine ev_q rfl (q_move (by conv => lhs; whnf) ?_)
                          refine ev_skip rfl ?_
                          refine ev_skip rfl ?_
                          refine ev_skip rfl ?_
                          refine ev_q rfl (q_pickF rfl (by conv => lhs; whnf) ?_)
                          refine ev_q rfl (q_assign (by conv => lhs; whnf) ?_)
                          refine ev_nil (hK179 _ ?_); clear hK179
                          refine good_ret ?_
                          repeat (first | refine thenQ_ret ?_ | refine blockQ_ret ?_)
                          refine ret_tmp (st := _) rfl (by conv => lhs; whnf) rfl ?_
                          first | rfl | (exfalso; first | omega | (exact absurd hll.1 (by assumption)) | (exact absurd hdd.1 (by assumption)) | contradiction)
                      · first | replace hb174 := dT hb174 | skip
                        refine ev_q rfl (q_assign (by conv => lhs; whnf) ?_)
                        refine ev_q rfl (q_assign (by conv => lhs; whnf) ?_)
                        refine ev_nil (hK173 _ ?_); clear hK173
                        refine good_seq fun K180 hK180 => ?_
                        refine good_region rfl ?_
                        refine ev_q rfl (q_move (by conv => lhs; whnf) ?_)
                        refine ev_q rfl (q_call rfl rfl (rfl) (D_impl_Decimal n7 ⟨by omega, by omega⟩) rfl ?_)
                        refine ev_q rfl (q_call rfl rfl (rfl) (D_impl_ReadDecimal (dec n7) (by have := dec_size (n := n7) (by omega) (by omega); omega)) rfl ?_)
                        refine ev_q rfl (q_move (by conv => lhs; whnf) ?_)
                        refine ev_q rfl (q_extractI rfl rfl ?_)
                        intro n181 hn181
                        refine ev_q rfl (q_extractB rfl rfl ?_)
                        intro b182 hb182; cases b182
                        · first | replace hb182 := dF hb182 | skip
                          refine ev_q rfl (q_assign (by conv => lhs; whnf) ?_)
                          refine ev_q rfl (q_assign (by conv => lhs; whnf) ?_)
                          refine ev_nil (hK180 _ ?_); clear hK180
                          refine good_seq fun K183 hK183 => ?_
                          refine good_region rfl ?_
                          refine ev_q rfl (q_move (by conv => lhs; whnf) ?_)
                          refine ev_q rfl (q_move (by conv => lhs; whnf) ?_)
                          refine ev_q rfl (q_move (by conv => lhs; whnf) ?_)
                          refine ev_q rfl (q_move (by conv => lhs; whnf) ?_)
                          refine ev_q rfl (q_callB rfl rfl (by change ([.lst 1 ((rlL (lt [n7, n8, n153, n156, n159])).map ci), .lst 1 ([n7, n8, n153, n156, n159].map ci)] : List AV) = _; rw [hll.2]) (D_laws_r8Same [n7, n8, n153, n156, n159] (by simp)) ?_)
                          intro b184 hb184; cases b184
                          · first | replace hb184 := dF hb184 | skip
                            refine ev_q rfl (q_pickT rfl (by conv => lhs; whnf) ?_)
                            refine ev_q rfl (q_move (by conv => lhs; whnf) ?_)
                            refine ev_skip rfl ?_
                            refine ev_q rfl (q_pickF rfl (by conv => lhs; whnf) ?_)
                            refine ev_q rfl (q_move (by conv => lhs; whnf) ?_)
                            refine ev_skip rfl ?_
                            refine ev_skip rfl ?_
                            refine ev_skip rfl ?_
                            refine ev_q rfl (q_pickF rfl (by conv => lhs; whnf) ?_)
                            refine ev_q rfl (q_assign (by conv => lhs; whnf) ?_)
                            refine ev_nil (hK183 _ ?_); clear hK183
                            refine good_ret ?_
                            repeat (first | refine thenQ_ret ?_ | refine blockQ_ret ?_)
                            refine ret_tmp (st := _) rfl (by conv => lhs; whnf) rfl ?_
                            first | rfl | (exfalso; first | omega | (exact absurd hll.1 (by assumption)) | (exact absurd hdd.1 (by assumption)) | contradiction)
                          · first | replace hb184 := dT hb184 | skip
                            refine ev_q rfl (q_pickT rfl (by conv => lhs; whnf) ?_)
                            refine ev_q rfl (q_move (by conv => lhs; whnf) ?_)
                            refine ev_q rfl (q_move (by conv => lhs; whnf) ?_)
                            refine ev_q rfl (q_pickT rfl (by conv => lhs; whnf) ?_)
                            refine ev_q rfl (q_move (by conv => lhs; whnf) ?_)
                            refine ev_skip rfl ?_
                            refine ev_skip rfl ?_
                            refine ev_skip rfl ?_
                            refine ev_q rfl (q_pickF rfl (by conv => lhs; whnf) ?_)
                            refine ev_q rfl (q_assign (by conv => lhs; whnf) ?_)
                            refine ev_nil (hK183 _ ?_); clear hK183
                            refine good_ret ?_
                            repeat (first | refine thenQ_ret ?_ | refine blockQ_ret ?_)
                            refine ret_tmp (st := _) rfl (by conv => lhs; whnf) rfl ?_
                            first | rfl | (exfalso; first | omega | (exact absurd hll.1 (by assumption)) | (exact absurd hdd.1 (by assumption)) | contradiction)
                        · first | replace hb182 := dT hb182 | skip
                          refine ev_q rfl (q_assign (by conv => lhs; whnf) ?_)
                          refine ev_q rfl (q_assign (by conv => lhs; whnf) ?_)
                          refine ev_nil (hK180 _ ?_); clear hK180
                          refine good_seq fun K185 hK185 => ?_
                          refine good_region rfl ?_
                          refine ev_q rfl (q_move (by conv => lhs; whnf) ?_)
                          refine ev_q rfl (q_move (by conv => lhs; whnf) ?_)
                          refine ev_q rfl (q_move (by conv => lhs; whnf) ?_)
                          refine ev_q rfl (q_move (by conv => lhs; whnf) ?_)
                          refine ev_q rfl (q_callB rfl rfl (by change ([.lst 1 ((rlL (lt [n7, n8, n153, n156, n159])).map ci), .lst 1 ([n7, n8, n153, n156, n159].map ci)] : List AV) = _; rw [hll.2]) (D_laws_r8Same [n7, n8, n153, n156, n159] (by simp)) ?_)
                          intro b186 hb186; cases b186
                          · first | replace hb186 := dF hb186 | skip
                            refine ev_q rfl (q_pickT rfl (by conv => lhs; whnf) ?_)
                            refine ev_q rfl (q_move (by conv => lhs; whnf) ?_)
                            refine ev_skip rfl ?_
                            refine ev_q rfl (q_pickF rfl (by conv => lhs; whnf) ?_)
                            refine ev_q rfl (q_move (by conv => lhs; whnf) ?_)
                            refine ev_skip rfl ?_
                            refine ev_skip rfl ?_
                            refine ev_skip rfl ?_
                            refine ev_q rfl (q_pickF rfl (by conv => lhs; whnf) ?_)
                            refine ev_q rfl (q_assign (by conv => lhs; whnf) ?_)
                            refine ev_nil (hK185 _ ?_); clear hK185
                            refine good_ret ?_
                            repeat (first | refine thenQ_ret ?_ | refine blockQ_ret ?_)
                            refine ret_tmp (st := _) rfl (by conv => lhs; whnf) rfl ?_
                            first | rfl | (exfalso; first | omega | (exact absurd hll.1 (by assumption)) | (exact absurd hdd.1 (by assumption)) | contradiction)
                          · first | replace hb186 := dT hb186 | skip
                            refine ev_q rfl (q_pickT rfl (by conv => lhs; whnf) ?_)
                            refine ev_q rfl (q_move (by conv => lhs; whnf) ?_)
                            refine ev_q rfl (q_move (by conv => lhs; whnf) ?_)
                            refine ev_q rfl (q_pickT rfl (by conv => lhs; whnf) ?_)
                            refine ev_q rfl (q_move (by conv => lhs; whnf) ?_)
                            refine ev_q rfl (q_move (by conv => lhs; whnf) ?_)
                            refine ev_q rfl (q_move (by conv => lhs; whnf) ?_)
                            refine ev_q rfl (q_int rfl rfl ?_)
                            intro b187 hb187; cases b187
                            · replace hb187 := eqF hb187
                              refine ev_q rfl (q_pickT rfl (by conv => lhs; whnf) ?_)
                              refine ev_q rfl (q_assign (by conv => lhs; whnf) ?_)
                              refine ev_nil (hK185 _ ?_); clear hK185
                              refine good_ret ?_
                              repeat (first | refine thenQ_ret ?_ | refine blockQ_ret ?_)
                              refine ret_tmp (st := _) rfl (by conv => lhs; whnf) rfl ?_
                              first | rfl | (exfalso; first | omega | (exact absurd hll.1 (by assumption)) | (exact absurd hdd.1 (by assumption)) | contradiction)
                            · replace hb187 := eqT hb187
                              refine ev_q rfl (q_pickT rfl (by conv => lhs; whnf) ?_)
                              refine ev_q rfl (q_assign (by conv => lhs; whnf) ?_)
                              refine ev_nil (hK185 _ ?_); clear hK185
                              refine good_ret ?_
                              repeat (first | refine thenQ_ret ?_ | refine blockQ_ret ?_)
                              refine ret_tmp (st := _) rfl (by conv => lhs; whnf) rfl ?_
                              first | rfl | (exfalso; first | omega | (exact absurd hll.1 (by assumption)) | (exact absurd hdd.1 (by assumption)) | contradiction)
                    · replace hb171 := neT hb171
                      refine ev_q rfl (q_pickF rfl (by conv => lhs; whnf) ?_)
                      refine ev_nil (hK163 _ ?_); clear hK163
                      refine good_condT rfl ?_
                      refine good_seq fun K188 hK188 => ?_
                      refine good_region rfl ?_
                      refine ev_q rfl (q_assign (by conv => lhs; whnf) ?_)
                      refine ev_nil (hK188 _ ?_); clear hK188
                      refine good_ret ?_
                      repeat (first | refine thenQ_ret ?_ | refine blockQ_ret ?_)
                      refine ret_tmp (st := _) rfl (by conv => lhs; whnf) rfl ?_
                      clear hK162
                      first | rfl | (exfalso; first | omega | (exact absurd hll.1 (by assumption)) | (exact absurd hdd.1 (by assumption)) | contradiction)
                  · replace hb169 := neT hb169
                    refine ev_q rfl (q_pickF rfl (by conv => lhs; whnf) ?_)
                    refine ev_q rfl (q_move (by conv => lhs; whnf) ?_)
                    refine ev_skip rfl ?_
                    refine ev_skip rfl ?_
                    refine ev_skip rfl ?_
                    refine ev_skip rfl ?_
                    refine ev_skip rfl ?_
                    refine ev_q rfl (q_pickT rfl (by conv => lhs; whnf) ?_)
                    refine ev_nil (hK163 _ ?_); clear hK163
                    refine good_condT rfl ?_
                    refine good_seq fun K189 hK189 => ?_
                    refine good_region rfl ?_
                    refine ev_q rfl (q_assign (by conv => lhs; whnf) ?_)
                    refine ev_nil (hK189 _ ?_); clear hK189
                    refine good_ret ?_
                    repeat (first | refine thenQ_ret ?_ | refine blockQ_ret ?_)
                    refine ret_tmp (st := _) rfl (by conv => lhs; whnf) rfl ?_
                    clear hK162
                    first | rfl | (exfalso; first | omega | (exact absurd hll.1 (by assumption)) | (exact absurd hdd.1 (by assumption)) | contradiction)
                · replace hb167 := dT hb167
                  refine ev_q rfl (q_pickF rfl (by conv => lhs; whnf) ?_)
                  refine ev_q rfl (q_move (by conv => lhs; whnf) ?_)
                  refine ev_skip rfl ?_
                  refine ev_skip rfl ?_
                  refine ev_skip rfl ?_
                  refine ev_skip rfl ?_
                  refine ev_skip rfl ?_
                  refine ev_q rfl (q_pickT rfl (by conv => lhs; whnf) ?_)
                  refine ev_q rfl (q_move (by conv => lhs; whnf) ?_)
                  refine ev_skip rfl ?_
                  refine ev_skip rfl ?_
                  refine ev_skip rfl ?_
                  refine ev_skip rfl ?_
                  refine ev_skip rfl ?_
                  refine ev_q rfl (q_pickT rfl (by conv => lhs; whnf) ?_)
                  refine ev_nil (hK163 _ ?_); clear hK163
                  refine good_condT rfl ?_
                  refine good_seq fun K190 hK190 => ?_
                  refine good_region rfl ?_
                  refine ev_q rfl (q_assign (by conv => lhs; whnf) ?_)
                  refine ev_nil (hK190 _ ?_); clear hK190
                  refine good_ret ?_
                  repeat (first | refine thenQ_ret ?_ | refine blockQ_ret ?_)
                  refine ret_tmp (st := _) rfl (by conv => lhs; whnf) rfl ?_
                  clear hK162
                  first | rfl | (exfalso; first | omega | (exact absurd hll.1 (by assumption)) | (exact absurd hdd.1 (by assumption)) | contradiction)
              · replace hb165 := dT hb165
                refine ev_q rfl (q_move (by conv => lhs; whnf) ?_)
                refine ev_skip rfl ?_
                refine ev_skip rfl ?_
                refine ev_skip rfl ?_
                refine ev_skip rfl ?_
                refine ev_skip rfl ?_
                refine ev_q rfl (q_pickT rfl (by conv => lhs; whnf) ?_)
                refine ev_q rfl (q_move (by conv => lhs; whnf) ?_)
                refine ev_skip rfl ?_
                refine ev_skip rfl ?_
                refine ev_skip rfl ?_
                refine ev_skip rfl ?_
                refine ev_skip rfl ?_
                refine ev_q rfl (q_pickT rfl (by conv => lhs; whnf) ?_)
                refine ev_q rfl (q_move (by conv => lhs; whnf) ?_)
                refine ev_skip rfl ?_
                refine ev_skip rfl ?_
                refine ev_skip rfl ?_
                refine ev_skip rfl ?_
                refine ev_skip rfl ?_
                refine ev_q rfl (q_pickT rfl (by conv => lhs; whnf) ?_)
                refine ev_nil (hK163 _ ?_); clear hK163
                refine good_condT rfl ?_
                refine good_seq fun K191 hK191 => ?_
                refine good_region rfl ?_
                refine ev_q rfl (q_assign (by conv => lhs; whnf) ?_)
                refine ev_nil (hK191 _ ?_); clear hK191
                refine good_ret ?_
                repeat (first | refine thenQ_ret ?_ | refine blockQ_ret ?_)
                refine ret_tmp (st := _) rfl (by conv => lhs; whnf) rfl ?_
                clear hK162
                first | rfl | (exfalso; first | omega | (exact absurd hll.1 (by assumption)) | (exact absurd hdd.1 (by assumption)) | contradiction)
            · replace hb151 := neT hb151
              refine ev_q rfl (q_pickF rfl (by conv => lhs; whnf) ?_)
              refine ev_nil (hK142 _ ?_); clear hK142
              refine good_condT rfl ?_
              refine good_seq fun K192 hK192 => ?_
              refine good_region rfl ?_
              refine ev_q rfl (q_assign (by conv => lhs; whnf) ?_)
              refine ev_nil (hK192 _ ?_); clear hK192
              refine good_ret ?_
              repeat (first | refine thenQ_ret ?_ | refine blockQ_ret ?_)
              refine ret_tmp (st := _) rfl (by conv => lhs; whnf) rfl ?_
              clear hK141
              first | rfl | (exfalso; first | omega | (exact absurd hll.1 (by assumption)) | (exact absurd hdd.1 (by assumption)) | contradiction)
          · replace hb147 := dT hb147
            refine ev_q rfl (q_move (by conv => lhs; whnf) ?_)
            refine ev_skip rfl ?_
            refine ev_skip rfl ?_
            refine ev_skip rfl ?_
            refine ev_skip rfl ?_
            refine ev_skip rfl ?_
            refine ev_skip rfl ?_
            refine ev_skip rfl ?_
            refine ev_q rfl (q_pickT rfl (by conv => lhs; whnf) ?_)
            refine ev_nil (hK142 _ ?_); clear hK142
            refine good_condT rfl ?_
            refine good_seq fun K193 hK193 => ?_
            refine good_region rfl ?_
            refine ev_q rfl (q_assign (by conv => lhs; whnf) ?_)
            refine ev_nil (hK193 _ ?_); clear hK193
            refine good_ret ?_
            repeat (first | refine thenQ_ret ?_ | refine blockQ_ret ?_)
            refine ret_tmp (st := _) rfl (by conv => lhs; whnf) rfl ?_
            clear hK141
            first | rfl | (exfalso; first | omega | (exact absurd hll.1 (by assumption)) | (exact absurd hdd.1 (by assumption)) | contradiction)
        · replace hb138 := dT hb138
          refine ev_q rfl (q_move (by conv => lhs; whnf) ?_)
          refine ev_q rfl (q_move (by conv => lhs; whnf) ?_)
          refine ev_q rfl (q_int rfl rfl ?_)
          intro b194 hb194; cases b194
          · replace hb194 := dF hb194
            refine ev_q rfl (q_move (by conv => lhs; whnf) ?_)
            refine ev_q rfl (q_move (by conv => lhs; whnf) ?_)
            refine ev_q rfl (q_int rfl rfl ?_)
            intro b195 hb195; cases b195
            · replace hb195 := dF hb195
              refine ev_q rfl (q_pickF rfl (by conv => lhs; whnf) ?_)
              refine ev_q rfl (q_move (by conv => lhs; whnf) ?_)
              refine ev_q rfl (q_move (by conv => lhs; whnf) ?_)
              refine ev_q rfl (q_move (by conv => lhs; whnf) ?_)
              refine ev_q rfl (q_int rfl rfl ?_)
              intro n196 hn196
              replace hn196 := in64 hn196 (by omega) (by omega)
              refine ev_q rfl (q_move (by conv => lhs; whnf) ?_)
              refine ev_q rfl (q_int rfl rfl ?_)
              intro b197 hb197; cases b197
              · replace hb197 := dF hb197
                refine ev_q rfl (q_pickF rfl (by conv => lhs; whnf) ?_)
                refine ev_q rfl (q_move (by conv => lhs; whnf) ?_)
                refine ev_q rfl (q_move (by conv => lhs; whnf) ?_)
                refine ev_q rfl (q_int rfl rfl ?_)
                intro n198 hn198
                replace hn198 := in64 hn198 (by omega) (by omega)
                refine ev_q rfl (q_move (by conv => lhs; whnf) ?_)
                refine ev_q rfl (q_int rfl rfl ?_)
                intro n199 hn199
                replace hn199 := in64 hn199 (by omega) (by omega)
                refine ev_q rfl (q_int rfl rfl ?_)
                intro n200 hn200
                rw [hn198, hn199] at hn200
                replace hn200 := in64 hn200 (by omega) (by omega)
                refine ev_q rfl (q_move (by conv => lhs; whnf) ?_)
                refine ev_q rfl (q_int rfl rfl ?_)
                intro b201 hb201; cases b201
                · replace hb201 := dF hb201
                  refine ev_q rfl (q_pickF rfl (by conv => lhs; whnf) ?_)
                  refine ev_q rfl (q_pickT rfl (by conv => lhs; whnf) ?_)
                  refine ev_q rfl (q_pickF rfl (by conv => lhs; whnf) ?_)
                  refine ev_nil (hK12 _ ?_); clear hK12
                  refine good_condF rfl ?_
                  refine good_skip (hK11 _ ?_); clear hK11
                  refine good_seq fun K202 hK202 => ?_
                  refine good_region rfl ?_
                  refine ev_q rfl (q_move (by conv => lhs; whnf) ?_)
                  refine ev_q rfl (q_move (by conv => lhs; whnf) ?_)
                  refine ev_q rfl (q_callI rfl rfl (rfl) (D_impl_DivRound _ _ (by omega) (by omega)) ?_)
                  intro n203 hn203
                  have hcl := dr_close (a := n7) (b := n8) (by omega)
                  have hng := dr_neg (a := n7) (b := n8) (by omega)
                  have hdb := dr_bound (a := n7) (b := n8) (by omega)
                  rw [← hn203] at hcl hng hdb
                  refine ev_q rfl (q_assign (by conv => lhs; whnf) ?_)
                  refine ev_nil (hK202 _ ?_); clear hK202
                  refine good_seq fun K204 hK204 => ?_
                  refine good_seq fun K205 hK205 => ?_
                  refine good_region rfl ?_
                  refine ev_q rfl (q_move (by conv => lhs; whnf) ?_)
                  refine ev_q rfl (q_move (by conv => lhs; whnf) ?_)
                  refine ev_q rfl (q_move (by conv => lhs; whnf) ?_)
                  refine ev_q rfl (q_int rfl rfl ?_)
                  intro n206 hn206
                  replace hn206 := in64 hn206 (by omega) (by omega)
                  refine ev_q rfl (q_int rfl rfl ?_)
                  intro n207 hn207
                  replace hn207 := in64 hn207 (by omega) (by omega)
                  refine ev_q rfl (q_callI rfl rfl (rfl) (D_laws_r8Abs _ (by omega)) ?_)
                  intro n208 hn208
                  refine ev_q rfl (q_int rfl rfl ?_)
                  intro n209 hn209
                  replace hn209 := in64 hn209 (by omega) (by omega)
                  refine ev_q rfl (q_move (by conv => lhs; whnf) ?_)
                  refine ev_q rfl (q_int rfl rfl ?_)
                  intro b210 hb210; cases b210
                  · replace hb210 := dF hb210
                    refine ev_q rfl (q_move (by conv => lhs; whnf) ?_)
                    refine ev_q rfl (q_move (by conv => lhs; whnf) ?_)
                    refine ev_q rfl (q_neg rfl ?_)
                    intro n211 hn211
                    replace hn211 := neg64 hn211 (by omega) (by omega)
                    refine ev_q rfl (q_move (by conv => lhs; whnf) ?_)
                    refine ev_q rfl (q_callI rfl rfl (rfl) (D_impl_DivRound _ _ (by omega) (by omega)) ?_)
                    intro n212 hn212
                    rw [hn211, hng] at hn212
                    refine ev_q rfl (q_move (by conv => lhs; whnf) ?_)
                    refine ev_q rfl (q_neg rfl ?_)
                    intro n213 hn213
                    replace hn213 := neg64 hn213 (by omega) (by omega)
                    refine ev_q rfl (q_int rfl rfl ?_)
                    intro b214 hb214; cases b214
                    · replace hb214 := neF hb214
                      refine ev_q rfl (q_pickF rfl (by conv => lhs; whnf) ?_)
                      refine ev_nil (hK205 _ ?_); clear hK205
                      refine good_condF rfl ?_
                      refine good_skip (hK204 _ ?_); clear hK204
                      refine good_seq fun K215 hK215 => ?_
                      refine good_region rfl ?_
                      refine ev_q rfl (q_move (by conv => lhs; whnf) ?_)
                      refine ev_q rfl (q_callI rfl rfl (rfl) (D_laws_r8Wide ds 0 1000 (by omega) hb2 (by omega) (by omega)) ?_)
                      intro n216 hn216
                      have hw0 := r8w_bd (cs := ds) (k := 0) (n := 1000) (by omega)
                      rw [← hn216] at hw0
                      refine ev_q rfl (q_assign (by conv => lhs; whnf) ?_)
                      refine ev_nil (hK215 _ ?_); clear hK215
                      refine good_seq fun K217 hK217 => ?_
                      refine good_region rfl ?_
                      refine ev_q rfl (q_move (by conv => lhs; whnf) ?_)
                      refine ev_q rfl (q_callI rfl rfl (rfl) (D_laws_r8Wide ds 2 5000 (by omega) hb2 (by omega) (by omega)) ?_)
                      intro n218 hn218
                      have hw2 := r8w_bd (cs := ds) (k := 2) (n := 5000) (by omega)
                      rw [← hn218] at hw2
                      refine ev_q rfl (q_int rfl rfl ?_)
                      intro n219 hn219
                      replace hn219 := in64 hn219 (by omega) (by omega)
                      refine ev_q rfl (q_assign (by conv => lhs; whnf) ?_)
                      refine ev_nil (hK217 _ ?_); clear hK217
                      refine good_seq fun K220 hK220 => ?_
                      refine good_region rfl ?_
                      refine ev_q rfl (q_move (by conv => lhs; whnf) ?_)
                      refine ev_q rfl (q_callI rfl rfl (rfl) (D_laws_r8Wide ds 4 5000 (by omega) hb2 (by omega) (by omega)) ?_)
                      intro n221 hn221
                      have hw4 := r8w_bd (cs := ds) (k := 4) (n := 5000) (by omega)
                      rw [← hn221] at hw4
                      refine ev_q rfl (q_int rfl rfl ?_)
                      intro n222 hn222
                      replace hn222 := in64 hn222 (by omega) (by omega)
                      refine ev_q rfl (q_assign (by conv => lhs; whnf) ?_)
                      refine ev_nil (hK220 _ ?_); clear hK220
                      refine good_seq fun K223 hK223 => ?_
                      refine good_region rfl ?_
                      refine ev_q rfl (q_move (by conv => lhs; whnf) ?_)
                      refine ev_q rfl (q_move (by conv => lhs; whnf) ?_)
                      refine ev_q rfl (q_move (by conv => lhs; whnf) ?_)
                      refine ev_q rfl (q_callI rfl rfl (rfl) (D_impl_Blend _ _ _ (by omega) (by omega)) ?_)
                      intro n224 hn224
                      have hbi := bl_in (y := n219) (z := n222) n216
                      rw [← hn224] at hbi
                      have hbl := bl_l (y := n219) (z := n222)
                      have hbr := bl_r (y := n219) (z := n222)
                      refine ev_q rfl (q_assign (by conv => lhs; whnf) ?_)
                      refine ev_nil (hK223 _ ?_); clear hK223
                      refine good_seq fun K225 hK225 => ?_
                      refine good_seq fun K226 hK226 => ?_
                      refine good_region rfl ?_
                      refine ev_q rfl (q_move (by conv => lhs; whnf) ?_)
                      refine ev_q rfl (q_move (by conv => lhs; whnf) ?_)
                      refine ev_q rfl (q_move (by conv => lhs; whnf) ?_)
                      refine ev_q rfl (q_min rfl rfl ?_)
                      intro n227 hn227; simp only [mxI, mnI] at hn227
                      refine ev_q rfl (q_int rfl rfl ?_)
                      intro b228 hb228; cases b228
                      · replace hb228 := dF hb228
                        refine ev_q rfl (q_move (by conv => lhs; whnf) ?_)
                        refine ev_q rfl (q_move (by conv => lhs; whnf) ?_)
                        refine ev_q rfl (q_move (by conv => lhs; whnf) ?_)
                        refine ev_q rfl (q_move (by conv => lhs; whnf) ?_)
                        refine ev_q rfl (q_max rfl rfl ?_)
                        intro n229 hn229; simp only [mxI, mnI] at hn229
                        refine ev_q rfl (q_int rfl rfl ?_)
                        intro b230 hb230; cases b230
                        · replace hb230 := dF hb230
                          refine ev_q rfl (q_pickF rfl (by conv => lhs; whnf) ?_)
                          refine ev_q rfl (q_move (by conv => lhs; whnf) ?_)
                          refine ev_q rfl (q_move (by conv => lhs; whnf) ?_)
                          refine ev_q rfl (q_move (by conv => lhs; whnf) ?_)
                          refine ev_q rfl (q_callI rfl rfl (rfl) (D_impl_Blend _ _ _ (by omega) (by omega)) ?_)
                          intro n231 hn231
                          refine ev_q rfl (q_move (by conv => lhs; whnf) ?_)
                          refine ev_q rfl (q_int rfl rfl ?_)
                          intro b232 hb232; cases b232
                          · replace hb232 := neF hb232
                            refine ev_q rfl (q_pickF rfl (by conv => lhs; whnf) ?_)
                            refine ev_q rfl (q_move (by conv => lhs; whnf) ?_)
                            refine ev_q rfl (q_move (by conv => lhs; whnf) ?_)
                            refine ev_q rfl (q_move (by conv => lhs; whnf) ?_)
                            refine ev_q rfl (q_callI rfl rfl (rfl) (D_impl_Blend _ _ _ (by omega) (by omega)) ?_)
                            intro n233 hn233
                            refine ev_q rfl (q_move (by conv => lhs; whnf) ?_)
                            refine ev_q rfl (q_int rfl rfl ?_)
                            intro b234 hb234; cases b234
                            · replace hb234 := neF hb234
                              refine ev_q rfl (q_pickF rfl (by conv => lhs; whnf) ?_)
                              refine ev_nil (hK226 _ ?_); clear hK226
                              refine good_condF rfl ?_
                              refine good_skip (hK225 _ ?_); clear hK225
                              refine good_seq fun K235 hK235 => ?_
                              refine good_region rfl ?_
                              have hll := lt_rl (L := [n7, n8, n216, n219, n222]) (bas_in (by omega) (by omega) (by omega) (by omega) (by omega)) (by simp)
                              have hdd := rdN_eq (n := n7) (by omega)
                              refine ev_q rfl (q_move (by conv => lhs; whnf) ?_)
                              refine ev_q rfl (q_move (by conv => lhs; whnf) ?_)
                              refine ev_q rfl (q_move (by conv => lhs; whnf) ?_)
                              refine ev_q rfl (q_move (by conv => lhs; whnf) ?_)
                              refine ev_q rfl (q_move (by conv => lhs; whnf) ?_)
                              refine ev_k rfl (k_lit tE69 zA2 rfl rfl (by decide) (by decide) rfl rfl rfl ?_)
                              refine ev_q rfl (q_assign (by conv => lhs; whnf) ?_)
                              refine ev_nil (hK235 _ ?_); clear hK235
                              refine good_seq fun K236 hK236 => ?_
                              refine good_region rfl ?_
                              refine ev_q rfl (q_move (by conv => lhs; whnf) ?_)
                              refine ev_q rfl (q_call rfl rfl (rfl) (D_impl_ListText [n7, n8, n216, n219, n222] (by simp)) rfl ?_)
                              refine ev_q rfl (q_call rfl rfl (rfl) (D_impl_ReadList (lt [n7, n8, n216, n219, n222]) (by have := lt_size (xs := [n7, n8, n216, n219, n222]); omega)) rfl ?_)
                              refine ev_q rfl (q_move (by conv => lhs; whnf) ?_)
                              refine ev_q rfl (q_extract rfl rfl ?_)
                              refine ev_q rfl (q_extractB rfl rfl ?_)
                              intro b237 hb237; cases b237
                              · first | replace hb237 := dF hb237 | skip
                                refine ev_q rfl (q_assign (by conv => lhs; whnf) ?_)
                                refine ev_q rfl (q_assign (by conv => lhs; whnf) ?_)
                                refine ev_nil (hK236 _ ?_); clear hK236
                                refine good_seq fun K238 hK238 => ?_
                                refine good_region rfl ?_
                                refine ev_q rfl (q_move (by conv => lhs; whnf) ?_)
                                refine ev_q rfl (q_call rfl rfl (rfl) (D_impl_Decimal n7 ⟨by omega, by omega⟩) rfl ?_)
                                refine ev_q rfl (q_call rfl rfl (rfl) (D_impl_ReadDecimal (dec n7) (by have := dec_size (n := n7) (by omega) (by omega); omega)) rfl ?_)
                                refine ev_q rfl (q_move (by conv => lhs; whnf) ?_)
                                refine ev_q rfl (q_extractI rfl rfl ?_)
                                intro n239 hn239
                                refine ev_q rfl (q_extractB rfl rfl ?_)
                                intro b240 hb240; cases b240
                                · first | replace hb240 := dF hb240 | skip
                                  refine ev_q rfl (q_assign (by conv => lhs; whnf) ?_)
                                  refine ev_q rfl (q_assign (by conv => lhs; whnf) ?_)
                                  refine ev_nil (hK238 _ ?_); clear hK238
                                  refine good_seq fun K241 hK241 => ?_
                                  refine good_region rfl ?_
                                  refine ev_q rfl (q_move (by conv => lhs; whnf) ?_)
                                  refine ev_q rfl (q_move (by conv => lhs; whnf) ?_)
                                  refine ev_skip rfl ?_
                                  refine ev_skip rfl ?_
                                  refine ev_skip rfl ?_
                                  refine ev_q rfl (q_pickF rfl (by conv => lhs; whnf) ?_)
                                  refine ev_q rfl (q_move (by conv => lhs; whnf) ?_)
                                  refine ev_skip rfl ?_
                                  refine ev_q rfl (q_pickF rfl (by conv => lhs; whnf) ?_)
                                  refine ev_q rfl (q_move (by conv => lhs; whnf) ?_)
                                  refine ev_skip rfl ?_
                                  refine ev_skip rfl ?_
                                  refine ev_skip rfl ?_
                                  refine ev_q rfl (q_pickF rfl (by conv => lhs; whnf) ?_)
                                  refine ev_q rfl (q_assign (by conv => lhs; whnf) ?_)
                                  refine ev_nil (hK241 _ ?_); clear hK241
                                  refine good_ret ?_
                                  repeat (first | refine thenQ_ret ?_ | refine blockQ_ret ?_)
                                  refine ret_tmp (st := _) rfl (by conv => lhs; whnf) rfl ?_
                                  first | rfl | (exfalso; first | omega | (exact absurd hll.1 (by assumption)) | (exact absurd hdd.1 (by assumption)) | contradiction)
                                · first | replace hb240 := dT hb240 | skip
                                  refine ev_q rfl (q_assign (by conv => lhs; whnf) ?_)
                                  refine ev_q rfl (q_assign (by conv => lhs; whnf) ?_)
                                  refine ev_nil (hK238 _ ?_); clear hK238
                                  refine good_seq fun K242 hK242 => ?_
                                  refine good_region rfl ?_
                                  refine ev_q rfl (q_move (by conv => lhs; whnf) ?_)
                                  refine ev_q rfl (q_move (by conv => lhs; whnf) ?_)
                                  refine ev_skip rfl ?_
                                  refine ev_skip rfl ?_
                                  refine ev_skip rfl ?_
                                  refine ev_q rfl (q_pickF rfl (by conv => lhs; whnf) ?_)
                                  refine ev_q rfl (q_move (by conv => lhs; whnf) ?_)
                                  refine ev_skip rfl ?_
                                  refine ev_q rfl (q_pickF rfl (by conv => lhs; whnf) ?_)
                                  refine ev_q rfl (q_move (by conv => lhs; whnf) ?_)
                                  refine ev_skip rfl ?_
                                  refine ev_skip rfl ?_
                                  refine ev_skip rfl ?_
                                  refine ev_q rfl (q_pickF rfl (by conv => lhs; whnf) ?_)
                                  refine ev_q rfl (q_assign (by conv => lhs; whnf) ?_)
                                  refine ev_nil (hK242 _ ?_); clear hK242
                                  refine good_ret ?_
                                  repeat (first | refine thenQ_ret ?_ | refine blockQ_ret ?_)
                                  refine ret_tmp (st := _) rfl (by conv => lhs; whnf) rfl ?_
                                  first | rfl | (exfalso; first | omega | (exact absurd hll.1 (by assumption)) | (exact absurd hdd.1 (by assumption)) | contradiction)
                              · first | replace hb237 := dT hb237 | skip
                                refine ev_q rfl (q_assign (by conv => lhs; whnf) ?_)
                                refine ev_q rfl (q_assign (by conv => lhs; whnf) ?_)
                                refine ev_nil (hK236 _ ?_); clear hK236
                                refine good_seq fun K243 hK243 => ?_
                                refine good_region rfl ?_
                                refine ev_q rfl (q_move (by conv => lhs; whnf) ?_)
                                refine ev_q rfl (q_call rfl rfl (rfl) (D_impl_Decimal n7 ⟨by omega, by omega⟩) rfl ?_)
                                refine ev_q rfl (q_call rfl rfl (rfl) (D_impl_ReadDecimal (dec n7) (by have := dec_size (n := n7) (by omega) (by omega); omega)) rfl ?_)
                                refine ev_q rfl (q_move (by conv => lhs; whnf) ?_)
                                refine ev_q rfl (q_extractI rfl rfl ?_)
                                intro n244 hn244
                                refine ev_q rfl (q_extractB rfl rfl ?_)
                                intro b245 hb245; cases b245
                                · first | replace hb245 := dF hb245 | skip
                                  refine ev_q rfl (q_assign (by conv => lhs; whnf) ?_)
                                  refine ev_q rfl (q_assign (by conv => lhs; whnf) ?_)
                                  refine ev_nil (hK243 _ ?_); clear hK243
                                  refine good_seq fun K246 hK246 => ?_
                                  refine good_region rfl ?_
                                  refine ev_q rfl (q_move (by conv => lhs; whnf) ?_)
                                  refine ev_q rfl (q_move (by conv => lhs; whnf) ?_)
                                  refine ev_q rfl (q_move (by conv => lhs; whnf) ?_)
                                  refine ev_q rfl (q_move (by conv => lhs; whnf) ?_)
                                  refine ev_q rfl (q_callB rfl rfl (by change ([.lst 1 ((rlL (lt [n7, n8, n216, n219, n222])).map ci), .lst 1 ([n7, n8, n216, n219, n222].map ci)] : List AV) = _; rw [hll.2]) (D_laws_r8Same [n7, n8, n216, n219, n222] (by simp)) ?_)
                                  intro b247 hb247; cases b247
                                  · first | replace hb247 := dF hb247 | skip
                                    refine ev_q rfl (q_pickT rfl (by conv => lhs; whnf) ?_)
                                    refine ev_q rfl (q_move (by conv => lhs; whnf) ?_)
                                    refine ev_skip rfl ?_
                                    refine ev_q rfl (q_pickF rfl (by conv => lhs; whnf) ?_)
                                    refine ev_q rfl (q_move (by conv => lhs; whnf) ?_)
                                    refine ev_skip rfl ?_
                                    refine ev_skip rfl ?_
                                    refine ev_skip rfl ?_
                                    refine ev_q rfl (q_pickF rfl (by conv => lhs; whnf) ?_)
                                    refine ev_q rfl (q_assign (by conv => lhs; whnf) ?_)
                                    refine ev_nil (hK246 _ ?_); clear hK246
                                    refine good_ret ?_
                                    repeat (first | refine thenQ_ret ?_ | refine blockQ_ret ?_)
                                    refine ret_tmp (st := _) rfl (by conv => lhs; whnf) rfl ?_
                                    first | rfl | (exfalso; first | omega | (exact absurd hll.1 (by assumption)) | (exact absurd hdd.1 (by assumption)) | contradiction)
                                  · first | replace hb247 := dT hb247 | skip
                                    refine ev_q rfl (q_pickT rfl (by conv => lhs; whnf) ?_)
                                    refine ev_q rfl (q_move (by conv => lhs; whnf) ?_)
                                    refine ev_q rfl (q_move (by conv => lhs; whnf) ?_)
                                    refine ev_q rfl (q_pickT rfl (by conv => lhs; whnf) ?_)
                                    refine ev_q rfl (q_move (by conv => lhs; whnf) ?_)
                                    refine ev_skip rfl ?_
                                    refine ev_skip rfl ?_
                                    refine ev_skip rfl ?_
                                    refine ev_q rfl (q_pickF rfl (by conv => lhs; whnf) ?_)
                                    refine ev_q rfl (q_assign (by conv => lhs; whnf) ?_)
                                    refine ev_nil (hK246 _ ?_); clear hK246
                                    refine good_ret ?_
                                    repeat (first | refine thenQ_ret ?_ | refine blockQ_ret ?_)
                                    refine ret_tmp (st := _) rfl (by conv => lhs; whnf) rfl ?_
                                    first | rfl | (exfalso; first | omega | (exact absurd hll.1 (by assumption)) | (exact absurd hdd.1 (by assumption)) | contradiction)
                                · first | replace hb245 := dT hb245 | skip
                                  refine ev_q rfl (q_assign (by conv => lhs; whnf) ?_)
                                  refine ev_q rfl (q_assign (by conv => lhs; whnf) ?_)
                                  refine ev_nil (hK243 _ ?_); clear hK243
                                  refine good_seq fun K248 hK248 => ?_
                                  refine good_region rfl ?_
                                  refine ev_q rfl (q_move (by conv => lhs; whnf) ?_)
                                  refine ev_q rfl (q_move (by conv => lhs; whnf) ?_)
                                  refine ev_q rfl (q_move (by conv => lhs; whnf) ?_)
                                  refine ev_q rfl (q_move (by conv => lhs; whnf) ?_)
                                  refine ev_q rfl (q_callB rfl rfl (by change ([.lst 1 ((rlL (lt [n7, n8, n216, n219, n222])).map ci), .lst 1 ([n7, n8, n216, n219, n222].map ci)] : List AV) = _; rw [hll.2]) (D_laws_r8Same [n7, n8, n216, n219, n222] (by simp)) ?_)
                                  intro b249 hb249; cases b249
                                  · first | replace hb249 := dF hb249 | skip
                                    refine ev_q rfl (q_pickT rfl (by conv => lhs; whnf) ?_)
                                    refine ev_q rfl (q_move (by conv => lhs; whnf) ?_)
                                    refine ev_skip rfl ?_
                                    refine ev_q rfl (q_pickF rfl (by conv => lhs; whnf) ?_)
                                    refine ev_q rfl (q_move (by conv => lhs; whnf) ?_)
                                    refine ev_skip rfl ?_
                                    refine ev_skip rfl ?_
                                    refine ev_skip rfl ?_
                                    refine ev_q rfl (q_pickF rfl (by conv => lhs; whnf) ?_)
                                    refine ev_q rfl (q_assign (by conv => lhs; whnf) ?_)
                                    refine ev_nil (hK248 _ ?_); clear hK248
                                    refine good_ret ?_
                                    repeat (first | refine thenQ_ret ?_ | refine blockQ_ret ?_)
                                    refine ret_tmp (st := _) rfl (by conv => lhs; whnf) rfl ?_
                                    first | rfl | (exfalso; first | omega | (exact absurd hll.1 (by assumption)) | (exact absurd hdd.1 (by assumption)) | contradiction)
                                  · first | replace hb249 := dT hb249 | skip
                                    refine ev_q rfl (q_pickT rfl (by conv => lhs; whnf) ?_)
                                    refine ev_q rfl (q_move (by conv => lhs; whnf) ?_)
                                    refine ev_q rfl (q_move (by conv => lhs; whnf) ?_)
                                    refine ev_q rfl (q_pickT rfl (by conv => lhs; whnf) ?_)
                                    refine ev_q rfl (q_move (by conv => lhs; whnf) ?_)
                                    refine ev_q rfl (q_move (by conv => lhs; whnf) ?_)
                                    refine ev_q rfl (q_move (by conv => lhs; whnf) ?_)
                                    refine ev_q rfl (q_int rfl rfl ?_)
                                    intro b250 hb250; cases b250
                                    · replace hb250 := eqF hb250
                                      refine ev_q rfl (q_pickT rfl (by conv => lhs; whnf) ?_)
                                      refine ev_q rfl (q_assign (by conv => lhs; whnf) ?_)
                                      refine ev_nil (hK248 _ ?_); clear hK248
                                      refine good_ret ?_
                                      repeat (first | refine thenQ_ret ?_ | refine blockQ_ret ?_)
                                      refine ret_tmp (st := _) rfl (by conv => lhs; whnf) rfl ?_
                                      first | rfl | (exfalso; first | omega | (exact absurd hll.1 (by assumption)) | (exact absurd hdd.1 (by assumption)) | contradiction)
                                    · replace hb250 := eqT hb250
                                      refine ev_q rfl (q_pickT rfl (by conv => lhs; whnf) ?_)
                                      refine ev_q rfl (q_assign (by conv => lhs; whnf) ?_)
                                      refine ev_nil (hK248 _ ?_); clear hK248
                                      refine good_ret ?_
                                      repeat (first | refine thenQ_ret ?_ | refine blockQ_ret ?_)
                                      refine ret_tmp (st := _) rfl (by conv => lhs; whnf) rfl ?_
                                      first | rfl | (exfalso; first | omega | (exact absurd hll.1 (by assumption)) | (exact absurd hdd.1 (by assumption)) | contradiction)
                            · replace hb234 := neT hb234
                              refine ev_q rfl (q_pickF rfl (by conv => lhs; whnf) ?_)
                              refine ev_nil (hK226 _ ?_); clear hK226
                              refine good_condT rfl ?_
                              refine good_seq fun K251 hK251 => ?_
                              refine good_region rfl ?_
                              refine ev_q rfl (q_assign (by conv => lhs; whnf) ?_)
                              refine ev_nil (hK251 _ ?_); clear hK251
                              refine good_ret ?_
                              repeat (first | refine thenQ_ret ?_ | refine blockQ_ret ?_)
                              refine ret_tmp (st := _) rfl (by conv => lhs; whnf) rfl ?_
                              clear hK225
                              first | rfl | (exfalso; first | omega | (exact absurd hll.1 (by assumption)) | (exact absurd hdd.1 (by assumption)) | contradiction)
                          · replace hb232 := neT hb232
                            refine ev_q rfl (q_pickF rfl (by conv => lhs; whnf) ?_)
                            refine ev_q rfl (q_move (by conv => lhs; whnf) ?_)
                            refine ev_skip rfl ?_
                            refine ev_skip rfl ?_
                            refine ev_skip rfl ?_
                            refine ev_skip rfl ?_
                            refine ev_skip rfl ?_
                            refine ev_q rfl (q_pickT rfl (by conv => lhs; whnf) ?_)
                            refine ev_nil (hK226 _ ?_); clear hK226
                            refine good_condT rfl ?_
                            refine good_seq fun K252 hK252 => ?_
                            refine good_region rfl ?_
                            refine ev_q rfl (q_assign (by conv => lhs; whnf) ?_)
                            refine ev_nil (hK252 _ ?_); clear hK252
                            refine good_ret ?_
                            repeat (first | refine thenQ_ret ?_ | refine blockQ_ret ?_)
                            refine ret_tmp (st := _) rfl (by conv => lhs; whnf) rfl ?_
                            clear hK225
                            first | rfl | (exfalso; first | omega | (exact absurd hll.1 (by assumption)) | (exact absurd hdd.1 (by assumption)) | contradiction)
                        · replace hb230 := dT hb230
                          refine ev_q rfl (q_pickF rfl (by conv => lhs; whnf) ?_)
                          refine ev_q rfl (q_move (by conv => lhs; whnf) ?_)
                          refine ev_skip rfl ?_
                          refine ev_skip rfl ?_
                          refine ev_skip rfl ?_
                          refine ev_skip rfl ?_
                          refine ev_skip rfl ?_
                          refine ev_q rfl (q_pickT rfl (by conv => lhs; whnf) ?_)
                          refine ev_q rfl (q_move (by conv => lhs; whnf) ?_)
                          refine ev_skip rfl ?_
                          refine ev_skip rfl ?_
                          refine ev_skip rfl ?_
                          refine ev_skip rfl ?_
                          refine ev_skip rfl ?_
                          refine ev_q rfl (q_pickT rfl (by conv => lhs; whnf) ?_)
                          refine ev_nil (hK226 _ ?_); clear hK226
                          refine good_condT rfl ?_
                          refine good_seq fun K253 hK253 => ?_
                          refine good_region rfl ?_
                          refine ev_q rfl (q_assign (by conv => lhs; whnf) ?_)
                          refine ev_nil (hK253 _ ?_); clear hK253
                          refine good_ret ?_
                          repeat (first | refine thenQ_ret ?_ | refine blockQ_ret ?_)
                          refine ret_tmp (st := _) rfl (by conv => lhs; whnf) rfl ?_
                          clear hK225
                          first | rfl | (exfalso; first | omega | (exact absurd hll.1 (by assumption)) | (exact absurd hdd.1 (by assumption)) | contradiction)
                      · replace hb228 := dT hb228
                        refine ev_q rfl (q_move (by conv => lhs; whnf) ?_)
                        refine ev_skip rfl ?_
                        refine ev_skip rfl ?_
                        refine ev_skip rfl ?_
                        refine ev_skip rfl ?_
                        refine ev_skip rfl ?_
                        refine ev_q rfl (q_pickT rfl (by conv => lhs; whnf) ?_)
                        refine ev_q rfl (q_move (by conv => lhs; whnf) ?_)
                        refine ev_skip rfl ?_
                        refine ev_skip rfl ?_
                        refine ev_skip rfl ?_
                        refine ev_skip rfl ?_
                        refine ev_skip rfl ?_
                        refine ev_q rfl (q_pickT rfl (by conv => lhs; whnf) ?_)
                        refine ev_q rfl (q_move (by conv => lhs; whnf) ?_)
                        refine ev_skip rfl ?_
                        refine ev_skip rfl ?_
                        refine ev_skip rfl ?_
                        refine ev_skip rfl ?_
                        refine ev_skip rfl ?_
                        refine ev_q rfl (q_pickT rfl (by conv => lhs; whnf) ?_)
                        refine ev_nil (hK226 _ ?_); clear hK226
                        refine good_condT rfl ?_
                        refine good_seq fun K254 hK254 => ?_
                        refine good_region rfl ?_
                        refine ev_q rfl (q_assign (by conv => lhs; whnf) ?_)
                        refine ev_nil (hK254 _ ?_); clear hK254
                        refine good_ret ?_
                        repeat (first | refine thenQ_ret ?_ | refine blockQ_ret ?_)
                        refine ret_tmp (st := _) rfl (by conv => lhs; whnf) rfl ?_
                        clear hK225
                        first | rfl | (exfalso; first | omega | (exact absurd hll.1 (by assumption)) | (exact absurd hdd.1 (by assumption)) | contradiction)
                    · replace hb214 := neT hb214
                      refine ev_q rfl (q_pickF rfl (by conv => lhs; whnf) ?_)
                      refine ev_nil (hK205 _ ?_); clear hK205
                      refine good_condT rfl ?_
                      refine good_seq fun K255 hK255 => ?_
                      refine good_region rfl ?_
                      refine ev_q rfl (q_assign (by conv => lhs; whnf) ?_)
                      refine ev_nil (hK255 _ ?_); clear hK255
                      refine good_ret ?_
                      repeat (first | refine thenQ_ret ?_ | refine blockQ_ret ?_)
                      refine ret_tmp (st := _) rfl (by conv => lhs; whnf) rfl ?_
                      clear hK204
                      first | rfl | (exfalso; first | omega | (exact absurd hll.1 (by assumption)) | (exact absurd hdd.1 (by assumption)) | contradiction)
                  · replace hb210 := dT hb210
                    refine ev_q rfl (q_move (by conv => lhs; whnf) ?_)
                    refine ev_skip rfl ?_
                    refine ev_skip rfl ?_
                    refine ev_skip rfl ?_
                    refine ev_skip rfl ?_
                    refine ev_skip rfl ?_
                    refine ev_skip rfl ?_
                    refine ev_skip rfl ?_
                    refine ev_q rfl (q_pickT rfl (by conv => lhs; whnf) ?_)
                    refine ev_nil (hK205 _ ?_); clear hK205
                    refine good_condT rfl ?_
                    refine good_seq fun K256 hK256 => ?_
                    refine good_region rfl ?_
                    refine ev_q rfl (q_assign (by conv => lhs; whnf) ?_)
                    refine ev_nil (hK256 _ ?_); clear hK256
                    refine good_ret ?_
                    repeat (first | refine thenQ_ret ?_ | refine blockQ_ret ?_)
                    refine ret_tmp (st := _) rfl (by conv => lhs; whnf) rfl ?_
                    clear hK204
                    first | rfl | (exfalso; first | omega | (exact absurd hll.1 (by assumption)) | (exact absurd hdd.1 (by assumption)) | contradiction)
                · replace hb201 := dT hb201
                  refine ev_q rfl (q_pickF rfl (by conv => lhs; whnf) ?_)
                  refine ev_q rfl (q_pickT rfl (by conv => lhs; whnf) ?_)
                  refine ev_q rfl (q_pickF rfl (by conv => lhs; whnf) ?_)
                  refine ev_nil (hK12 _ ?_); clear hK12
                  refine good_condT rfl ?_
                  refine good_seq fun K257 hK257 => ?_
                  refine good_region rfl ?_
                  refine ev_q rfl (q_assign (by conv => lhs; whnf) ?_)
                  refine ev_nil (hK257 _ ?_); clear hK257
                  refine good_ret ?_
                  repeat (first | refine thenQ_ret ?_ | refine blockQ_ret ?_)
                  refine ret_tmp (st := _) rfl (by conv => lhs; whnf) rfl ?_
                  clear hK11
                  first | rfl | (exfalso; first | omega | (exact absurd hll.1 (by assumption)) | (exact absurd hdd.1 (by assumption)) | contradiction)
              · replace hb197 := dT hb197
                refine ev_q rfl (q_pickF rfl (by conv => lhs; whnf) ?_)
                refine ev_q rfl (q_move (by conv => lhs; whnf) ?_)
                refine ev_skip rfl ?_
                refine ev_skip rfl ?_
                refine ev_skip rfl ?_
                refine ev_skip rfl ?_
                refine ev_skip rfl ?_
                refine ev_skip rfl ?_
                refine ev_skip rfl ?_
                refine ev_q rfl (q_pickT rfl (by conv => lhs; whnf) ?_)
                refine ev_q rfl (q_pickT rfl (by conv => lhs; whnf) ?_)
                refine ev_q rfl (q_pickF rfl (by conv => lhs; whnf) ?_)
                refine ev_nil (hK12 _ ?_); clear hK12
                refine good_condT rfl ?_
                refine good_seq fun K258 hK258 => ?_
                refine good_region rfl ?_
                refine ev_q rfl (q_assign (by conv => lhs; whnf) ?_)
                refine ev_nil (hK258 _ ?_); clear hK258
                refine good_ret ?_
                repeat (first | refine thenQ_ret ?_ | refine blockQ_ret ?_)
                refine ret_tmp (st := _) rfl (by conv => lhs; whnf) rfl ?_
                clear hK11
                first | rfl | (exfalso; first | omega | (exact absurd hll.1 (by assumption)) | (exact absurd hdd.1 (by assumption)) | contradiction)
            · replace hb195 := dT hb195
              refine ev_q rfl (q_pickF rfl (by conv => lhs; whnf) ?_)
              refine ev_q rfl (q_move (by conv => lhs; whnf) ?_)
              refine ev_skip rfl ?_
              refine ev_skip rfl ?_
              refine ev_skip rfl ?_
              refine ev_skip rfl ?_
              refine ev_skip rfl ?_
              refine ev_q rfl (q_pickT rfl (by conv => lhs; whnf) ?_)
              refine ev_q rfl (q_move (by conv => lhs; whnf) ?_)
              refine ev_skip rfl ?_
              refine ev_skip rfl ?_
              refine ev_skip rfl ?_
              refine ev_skip rfl ?_
              refine ev_skip rfl ?_
              refine ev_skip rfl ?_
              refine ev_skip rfl ?_
              refine ev_q rfl (q_pickT rfl (by conv => lhs; whnf) ?_)
              refine ev_q rfl (q_pickT rfl (by conv => lhs; whnf) ?_)
              refine ev_q rfl (q_pickF rfl (by conv => lhs; whnf) ?_)
              refine ev_nil (hK12 _ ?_); clear hK12
              refine good_condT rfl ?_
              refine good_seq fun K259 hK259 => ?_
              refine good_region rfl ?_
              refine ev_q rfl (q_assign (by conv => lhs; whnf) ?_)
              refine ev_nil (hK259 _ ?_); clear hK259
              refine good_ret ?_
              repeat (first | refine thenQ_ret ?_ | refine blockQ_ret ?_)
              refine ret_tmp (st := _) rfl (by conv => lhs; whnf) rfl ?_
              clear hK11
              first | rfl | (exfalso; first | omega | (exact absurd hll.1 (by assumption)) | (exact absurd hdd.1 (by assumption)) | contradiction)
          · replace hb194 := dT hb194
            refine ev_q rfl (q_move (by conv => lhs; whnf) ?_)
            refine ev_skip rfl ?_
            refine ev_skip rfl ?_
            refine ev_q rfl (q_pickT rfl (by conv => lhs; whnf) ?_)
            refine ev_q rfl (q_move (by conv => lhs; whnf) ?_)
            refine ev_skip rfl ?_
            refine ev_skip rfl ?_
            refine ev_skip rfl ?_
            refine ev_skip rfl ?_
            refine ev_skip rfl ?_
            refine ev_q rfl (q_pickT rfl (by conv => lhs; whnf) ?_)
            refine ev_q rfl (q_move (by conv => lhs; whnf) ?_)
            refine ev_skip rfl ?_
            refine ev_skip rfl ?_
            refine ev_skip rfl ?_
            refine ev_skip rfl ?_
            refine ev_skip rfl ?_
            refine ev_skip rfl ?_
            refine ev_skip rfl ?_
            refine ev_q rfl (q_pickT rfl (by conv => lhs; whnf) ?_)
            refine ev_q rfl (q_pickT rfl (by conv => lhs; whnf) ?_)
            refine ev_q rfl (q_pickF rfl (by conv => lhs; whnf) ?_)
            refine ev_nil (hK12 _ ?_); clear hK12
            refine good_condT rfl ?_
            refine good_seq fun K260 hK260 => ?_
            refine good_region rfl ?_
            refine ev_q rfl (q_assign (by conv => lhs; whnf) ?_)
            refine ev_nil (hK260 _ ?_); clear hK260
            refine good_ret ?_
            repeat (first | refine thenQ_ret ?_ | refine blockQ_ret ?_)
            refine ret_tmp (st := _) rfl (by conv => lhs; whnf) rfl ?_
            clear hK11
            first | rfl | (exfalso; first | omega | (exact absurd hll.1 (by assumption)) | (exact absurd hdd.1 (by assumption)) | contradiction)
      · replace hb137 := neT hb137
        refine ev_q rfl (q_pickT rfl (by conv => lhs; whnf) ?_)
        refine ev_q rfl (q_move (by conv => lhs; whnf) ?_)
        refine ev_skip rfl ?_
        refine ev_skip rfl ?_
        refine ev_skip rfl ?_
        refine ev_skip rfl ?_
        refine ev_skip rfl ?_
        refine ev_skip rfl ?_
        refine ev_skip rfl ?_
        refine ev_skip rfl ?_
        refine ev_skip rfl ?_
        refine ev_skip rfl ?_
        refine ev_skip rfl ?_
        refine ev_skip rfl ?_
        refine ev_skip rfl ?_
        refine ev_skip rfl ?_
        refine ev_skip rfl ?_
        refine ev_skip rfl ?_
        refine ev_skip rfl ?_
        refine ev_skip rfl ?_
        refine ev_skip rfl ?_
        refine ev_skip rfl ?_
        refine ev_skip rfl ?_
        refine ev_skip rfl ?_
        refine ev_skip rfl ?_
        refine ev_skip rfl ?_
        refine ev_skip rfl ?_
        refine ev_skip rfl ?_
        refine ev_q rfl (q_pickT rfl (by conv => lhs; whnf) ?_)
        refine ev_nil (hK12 _ ?_); clear hK12
        refine good_condT rfl ?_
        refine good_seq fun K261 hK261 => ?_
        refine good_region rfl ?_
        refine ev_q rfl (q_assign (by conv => lhs; whnf) ?_)
        refine ev_nil (hK261 _ ?_); clear hK261
        refine good_ret ?_
        repeat (first | refine thenQ_ret ?_ | refine blockQ_ret ?_)
        refine ret_tmp (st := _) rfl (by conv => lhs; whnf) rfl ?_
        clear hK11
        first | rfl | (exfalso; first | omega | (exact absurd hll.1 (by assumption)) | (exact absurd hdd.1 (by assumption)) | contradiction)
  · first | replace hb4 := dT hb4 | skip
    refine ev_nil (hK3 _ ?_); clear hK3
    refine good_condT rfl ?_
    refine good_seq fun K262 hK262 => ?_
    refine good_region rfl ?_
    refine ev_q rfl (q_assign (by conv => lhs; whnf) ?_)
    refine ev_nil (hK262 _ ?_); clear hK262
    refine good_ret ?_
    repeat (first | refine thenQ_ret ?_ | refine blockQ_ret ?_)
    refine ret_tmp (st := _) rfl (by conv => lhs; whnf) rfl ?_
    clear hK2
    first | rfl | (exfalso; first | omega | (exact absurd hll.1 (by assumption)) | (exact absurd hdd.1 (by assumption)) | contradiction)

end Go.Proofs.YtodghlkodiidaaaDoor.DFnBasics
