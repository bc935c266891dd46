/- Walks through the functions that FnReturns reaches: what each answers. -/
import Derived.Test.YtodghlkodiidaaaGreatDoorDFnReturnsb
set_option linter.unusedVariables false
set_option linter.unusedSimpArgs false
namespace Go.Proofs.YtodghlkodiidaaaGreatDoor.DFnReturns
open Go Go.RowKit Go.Proofs Go.Proofs.YtodghlkodiidaaaGreatDoor Go.Proofs.YtodghlkodiidaaaGreatDoor.Ev
-- spec.l12DrawPrimary
set_option maxRecDepth 20000 in
set_option maxHeartbeats 2000000 in
theorem D_spec_l12DrawPrimary (cs : List Int) (a s : Int) (hc : cs.length ≤ 17592186044416) (hb : byteL cs) (ha : 0 ≤ a ∧ a ≤ 3999999999999999996)  : DenXR Tryz.prog 36 [(1000000, .box 91 (src cs a s))] [.ptr 1000000 0] (τ := Int × Int × Int) (fun (v, a1, s1) => (-100000000000 ≤ v ∧ v ≤ 100000000000) ∧ (a ≤ a1 ∧ a1 ≤ a + 4)) (fun (v, a1, s1) => [(1000000, .box 91 (src cs a1 s1))]) (fun (v, a1, s1) => .s (.int .i64 v)) := by
  refine denXR_of_good Tryz.func36 (by decide) rfl (Nat.le_of_ble_eq_true rfl) (Nat.le_of_ble_eq_true rfl) rfl ?_
  refine good_seq fun K1 hK1 => ?_
  refine good_region rfl ?_
  refine ev_q rfl (q_assign (by conv => lhs; whnf) ?_)
  refine ev_nil (hK1 _ ?_); clear hK1
  refine good_seq fun K2 hK2 => ?_
  refine good_seq fun K3 hK3 => ?_
  refine good_region rfl ?_
  refine ev_q rfl (q_move (by conv => lhs; whnf) ?_)
  refine ev_k rfl (k_callR [(1000000, 1000000)] (D_spec_l00Src_one cs _ _ _ hc hb (by omega) (by omega)) rfl (rfl) (rfl) ⟨rfl, trivial⟩ rfl (by rintro ⟨v4, a4, s4⟩ ⟨hx4_0, hx4_1⟩; exact ⟨⟨rfl, rfl, trivial⟩, rfl⟩) rfl rfl ?_)
  rintro ⟨v4, a4, s4⟩ ⟨hx4_0, hx4_1⟩
  cases v4
  · refine ev_nil (hK3 _ ?_); clear hK3
    refine good_condF rfl ?_
    refine good_skip (hK2 _ ?_); clear hK2
    refine good_seq fun K5 hK5 => ?_
    refine good_region rfl ?_
    refine ev_q rfl (q_move (by conv => lhs; whnf) ?_)
    refine ev_k rfl (k_callR [(1000000, 1000000)] (D_spec_l00Src_pick cs _ _ _ hc hb (by omega) (by omega)) rfl (rfl) (rfl) ⟨rfl, trivial⟩ rfl (by rintro ⟨v6, a6, s6⟩ ⟨hx6_0, hx6_1⟩; exact ⟨⟨rfl, rfl, trivial⟩, rfl⟩) rfl rfl ?_)
    rintro ⟨v6, a6, s6⟩ ⟨hx6_0, hx6_1⟩
    refine ev_q rfl (q_int rfl rfl ?_)
    intro n7 hn7
    replace hn7 := in64 hn7 (by omega) (by omega)
    refine ev_q rfl (q_int rfl rfl ?_)
    intro n8 hn8
    replace hn8 := in64 hn8 (by omega) (by omega)
    refine ev_q rfl (q_assign (by conv => lhs; whnf) ?_)
    refine ev_nil (hK5 _ ?_); clear hK5
    refine good_ret ?_
    repeat (first | refine thenQ_ret ?_ | refine blockQ_ret ?_)
    apply ex_3
    case hF =>
      refine fx_tmp rfl (by conv => lhs; whnf) ?_
      exact ⟨_, conv_eq (by first | rfl | exact fI (by first | omega | grind) | (exfalso; first | omega | grind)), weakH_box (boxEq (by first | rfl | (rw [e]; done) | (rw [e]; rfl) | (simp_all; done))) rfl (weakH_none _), refsIn_ok rfl⟩
    case hR =>
      exact ⟨by omega, by omega⟩
  · refine ev_nil (hK3 _ ?_); clear hK3
    refine good_condT rfl ?_
    refine good_seq fun K9 hK9 => ?_
    refine good_region rfl ?_
    refine ev_q rfl (q_move (by conv => lhs; whnf) ?_)
    refine ev_k rfl (k_lit tE36 zA2 rfl rfl (by decide) (by decide) rfl rfl rfl ?_)
    refine ev_k rfl (k_callR [(1000000, 1000000), (1000001, 6)] (D_spec_l00Src_among cs _ _ [(-1), 0, 18000, 18001] hc hb (by omega) (by decide)) rfl (rfl) (rfl) ⟨rfl, ⟨rfl, trivial⟩⟩ rfl (by rintro ⟨v10, a10, s10⟩ ⟨hx10_0, hx10_1⟩; exact ⟨⟨rfl, rfl, ⟨rfl, ⟨rfl, rfl, by first | exact Nat.le_refl _ | (simp; done) | (simp; omega)⟩, trivial⟩⟩, rfl⟩) rfl rfl ?_)
    rintro ⟨v10, a10, s10⟩ ⟨hx10_0, hx10_1⟩
    simp only [List.mem_cons, List.not_mem_nil, or_false] at hx10_0
    refine ev_q rfl (q_assign (by conv => lhs; whnf) ?_)
    refine ev_nil (hK9 _ ?_); clear hK9
    refine good_ret ?_
    repeat (first | refine thenQ_ret ?_ | refine blockQ_ret ?_)
    clear hK2
    apply ex_3
    case hF =>
      refine fx_tmp rfl (by conv => lhs; whnf) ?_
      exact ⟨_, conv_eq (by first | rfl | exact fI (by first | omega | grind) | (exfalso; first | omega | grind)), weakH_box (boxEq (by first | rfl | (rw [e]; done) | (rw [e]; rfl) | (simp_all; done))) rfl (weakH_none _), refsIn_ok rfl⟩
    case hR =>
      exact ⟨by omega, by omega⟩

-- spec.l12DrawLoad
set_option maxRecDepth 20000 in
set_option maxHeartbeats 2000000 in
theorem D_spec_l12DrawLoad (cs : List Int) (a s : Int) (hc : cs.length ≤ 17592186044416) (hb : byteL cs) (ha : 0 ≤ a ∧ a ≤ 3999999999999999996)  : DenXR Tryz.prog 84 [(1000000, .box 91 (src cs a s))] [.ptr 1000000 0] (τ := Int × Int × Int) (fun (v, a1, s1) => (-100000000000 ≤ v ∧ v ≤ 100000000000) ∧ (a ≤ a1 ∧ a1 ≤ a + 4)) (fun (v, a1, s1) => [(1000000, .box 91 (src cs a1 s1))]) (fun (v, a1, s1) => .s (.int .i64 v)) := by
  refine denXR_of_good Tryz.func84 (by decide) rfl (Nat.le_of_ble_eq_true rfl) (Nat.le_of_ble_eq_true rfl) rfl ?_
  refine good_seq fun K1 hK1 => ?_
  refine good_region rfl ?_
  refine ev_q rfl (q_assign (by conv => lhs; whnf) ?_)
  refine ev_nil (hK1 _ ?_); clear hK1
  refine good_seq fun K2 hK2 => ?_
  refine good_seq fun K3 hK3 => ?_
  refine good_region rfl ?_
  refine ev_q rfl (q_move (by conv => lhs; whnf) ?_)
  refine ev_k rfl (k_callR [(1000000, 1000000)] (D_spec_l00Src_one cs _ _ _ hc hb (by omega) (by omega)) rfl (rfl) (rfl) ⟨rfl, trivial⟩ rfl (by rintro ⟨v4, a4, s4⟩ ⟨hx4_0, hx4_1⟩; exact ⟨⟨rfl, rfl, trivial⟩, rfl⟩) rfl rfl ?_)
  rintro ⟨v4, a4, s4⟩ ⟨hx4_0, hx4_1⟩
  cases v4
  · refine ev_nil (hK3 _ ?_); clear hK3
    refine good_condF rfl ?_
    refine good_skip (hK2 _ ?_); clear hK2
    refine good_seq fun K5 hK5 => ?_
    refine good_region rfl ?_
    refine ev_q rfl (q_move (by conv => lhs; whnf) ?_)
    refine ev_k rfl (k_callR [(1000000, 1000000)] (D_spec_l00Src_pick cs _ _ _ hc hb (by omega) (by omega)) rfl (rfl) (rfl) ⟨rfl, trivial⟩ rfl (by rintro ⟨v6, a6, s6⟩ ⟨hx6_0, hx6_1⟩; exact ⟨⟨rfl, rfl, trivial⟩, rfl⟩) rfl rfl ?_)
    rintro ⟨v6, a6, s6⟩ ⟨hx6_0, hx6_1⟩
    refine ev_q rfl (q_int rfl rfl ?_)
    intro n7 hn7
    replace hn7 := in64 hn7 (by omega) (by omega)
    refine ev_q rfl (q_assign (by conv => lhs; whnf) ?_)
    refine ev_nil (hK5 _ ?_); clear hK5
    refine good_ret ?_
    repeat (first | refine thenQ_ret ?_ | refine blockQ_ret ?_)
    apply ex_3
    case hF =>
      refine fx_tmp rfl (by conv => lhs; whnf) ?_
      exact ⟨_, conv_eq (by first | rfl | exact fI (by first | omega | grind) | (exfalso; first | omega | grind)), weakH_box (boxEq (by first | rfl | (rw [e]; done) | (rw [e]; rfl) | (simp_all; done))) rfl (weakH_none _), refsIn_ok rfl⟩
    case hR =>
      exact ⟨by omega, by omega⟩
  · refine ev_nil (hK3 _ ?_); clear hK3
    refine good_condT rfl ?_
    refine good_seq fun K8 hK8 => ?_
    refine good_region rfl ?_
    refine ev_q rfl (q_move (by conv => lhs; whnf) ?_)
    refine ev_k rfl (k_lit tE36 zA2 rfl rfl (by decide) (by decide) rfl rfl rfl ?_)
    refine ev_k rfl (k_callR [(1000000, 1000000), (1000001, 6)] (D_spec_l00Src_among cs _ _ [(-1), 0, 100000000, 100000001] hc hb (by omega) (by decide)) rfl (rfl) (rfl) ⟨rfl, ⟨rfl, trivial⟩⟩ rfl (by rintro ⟨v9, a9, s9⟩ ⟨hx9_0, hx9_1⟩; exact ⟨⟨rfl, rfl, ⟨rfl, ⟨rfl, rfl, by first | exact Nat.le_refl _ | (simp; done) | (simp; omega)⟩, trivial⟩⟩, rfl⟩) rfl rfl ?_)
    rintro ⟨v9, a9, s9⟩ ⟨hx9_0, hx9_1⟩
    simp only [List.mem_cons, List.not_mem_nil, or_false] at hx9_0
    refine ev_q rfl (q_assign (by conv => lhs; whnf) ?_)
    refine ev_nil (hK8 _ ?_); clear hK8
    refine good_ret ?_
    repeat (first | refine thenQ_ret ?_ | refine blockQ_ret ?_)
    clear hK2
    apply ex_3
    case hF =>
      refine fx_tmp rfl (by conv => lhs; whnf) ?_
      exact ⟨_, conv_eq (by first | rfl | exact fI (by first | omega | grind) | (exfalso; first | omega | grind)), weakH_box (boxEq (by first | rfl | (rw [e]; done) | (rw [e]; rfl) | (simp_all; done))) rfl (weakH_none _), refsIn_ok rfl⟩
    case hR =>
      exact ⟨by omega, by omega⟩

-- spec.l02DrawFlow
set_option maxRecDepth 20000 in
set_option maxHeartbeats 2000000 in
theorem D_spec_l02DrawFlow (cs : List Int) (a s : Int) (hc : cs.length ≤ 17592186044416) (hb : byteL cs) (ha : 0 ≤ a ∧ a ≤ 3999999999999999996)  : DenXR Tryz.prog 37 [(1000000, .box 91 (src cs a s))] [.ptr 1000000 0] (τ := Int × Int × Int) (fun (v, a1, s1) => (-100000000000 ≤ v ∧ v ≤ 100000000000) ∧ (a ≤ a1 ∧ a1 ≤ a + 4)) (fun (v, a1, s1) => [(1000000, .box 91 (src cs a1 s1))]) (fun (v, a1, s1) => .s (.int .i64 v)) := by
  refine denXR_of_good Tryz.func37 (by decide) rfl (Nat.le_of_ble_eq_true rfl) (Nat.le_of_ble_eq_true rfl) rfl ?_
  refine good_seq fun K1 hK1 => ?_
  refine good_region rfl ?_
  refine ev_q rfl (q_assign (by conv => lhs; whnf) ?_)
  refine ev_nil (hK1 _ ?_); clear hK1
  refine good_seq fun K2 hK2 => ?_
  refine good_seq fun K3 hK3 => ?_
  refine good_region rfl ?_
  refine ev_q rfl (q_move (by conv => lhs; whnf) ?_)
  refine ev_k rfl (k_callR [(1000000, 1000000)] (D_spec_l00Src_one cs _ _ _ hc hb (by omega) (by omega)) rfl (rfl) (rfl) ⟨rfl, trivial⟩ rfl (by rintro ⟨v4, a4, s4⟩ ⟨hx4_0, hx4_1⟩; exact ⟨⟨rfl, rfl, trivial⟩, rfl⟩) rfl rfl ?_)
  rintro ⟨v4, a4, s4⟩ ⟨hx4_0, hx4_1⟩
  cases v4
  · refine ev_nil (hK3 _ ?_); clear hK3
    refine good_condF rfl ?_
    refine good_skip (hK2 _ ?_); clear hK2
    refine good_seq fun K5 hK5 => ?_
    refine good_region rfl ?_
    refine ev_q rfl (q_move (by conv => lhs; whnf) ?_)
    refine ev_k rfl (k_callR [(1000000, 1000000)] (D_spec_l00Src_pick cs _ _ _ hc hb (by omega) (by omega)) rfl (rfl) (rfl) ⟨rfl, trivial⟩ rfl (by rintro ⟨v6, a6, s6⟩ ⟨hx6_0, hx6_1⟩; exact ⟨⟨rfl, rfl, trivial⟩, rfl⟩) rfl rfl ?_)
    rintro ⟨v6, a6, s6⟩ ⟨hx6_0, hx6_1⟩
    refine ev_q rfl (q_int rfl rfl ?_)
    intro n7 hn7
    replace hn7 := in64 hn7 (by omega) (by omega)
    refine ev_q rfl (q_assign (by conv => lhs; whnf) ?_)
    refine ev_nil (hK5 _ ?_); clear hK5
    refine good_ret ?_
    repeat (first | refine thenQ_ret ?_ | refine blockQ_ret ?_)
    apply ex_3
    case hF =>
      refine fx_tmp rfl (by conv => lhs; whnf) ?_
      exact ⟨_, conv_eq (by first | rfl | exact fI (by first | omega | grind) | (exfalso; first | omega | grind)), weakH_box (boxEq (by first | rfl | (rw [e]; done) | (rw [e]; rfl) | (simp_all; done))) rfl (weakH_none _), refsIn_ok rfl⟩
    case hR =>
      exact ⟨by omega, by omega⟩
  · refine ev_nil (hK3 _ ?_); clear hK3
    refine good_condT rfl ?_
    refine good_seq fun K8 hK8 => ?_
    refine good_region rfl ?_
    refine ev_q rfl (q_move (by conv => lhs; whnf) ?_)
    refine ev_k rfl (k_lit tE36 zA2 rfl rfl (by decide) (by decide) rfl rfl rfl ?_)
    refine ev_k rfl (k_callR [(1000000, 1000000), (1000001, 6)] (D_spec_l00Src_among cs _ _ [(-1), 0, 100000, 100001] hc hb (by omega) (by decide)) rfl (rfl) (rfl) ⟨rfl, ⟨rfl, trivial⟩⟩ rfl (by rintro ⟨v9, a9, s9⟩ ⟨hx9_0, hx9_1⟩; exact ⟨⟨rfl, rfl, ⟨rfl, ⟨rfl, rfl, by first | exact Nat.le_refl _ | (simp; done) | (simp; omega)⟩, trivial⟩⟩, rfl⟩) rfl rfl ?_)
    rintro ⟨v9, a9, s9⟩ ⟨hx9_0, hx9_1⟩
    simp only [List.mem_cons, List.not_mem_nil, or_false] at hx9_0
    refine ev_q rfl (q_assign (by conv => lhs; whnf) ?_)
    refine ev_nil (hK8 _ ?_); clear hK8
    refine good_ret ?_
    repeat (first | refine thenQ_ret ?_ | refine blockQ_ret ?_)
    clear hK2
    apply ex_3
    case hF =>
      refine fx_tmp rfl (by conv => lhs; whnf) ?_
      exact ⟨_, conv_eq (by first | rfl | exact fI (by first | omega | grind) | (exfalso; first | omega | grind)), weakH_box (boxEq (by first | rfl | (rw [e]; done) | (rw [e]; rfl) | (simp_all; done))) rfl (weakH_none _), refsIn_ok rfl⟩
    case hR =>
      exact ⟨by omega, by omega⟩

-- spec.l12Draw
set_option maxRecDepth 20000 in
set_option maxHeartbeats 2000000 in
theorem D_spec_l12Draw (cs : List Int) (a s : Int) (hc : cs.length ≤ 17592186044416) (hb : byteL cs) (ha : 0 ≤ a ∧ a ≤ 1000000000000000000) : DenXR Tryz.prog 83 [(1000000, .box 91 (src cs a s))] [.ptr 1000000 0] (τ := List Sb × Int × Int) (fun (xs, a1, s1) => (xs.length ≤ 13 ∧ ∀ x ∈ xs, x.id.size ≤ 100) ∧ (a ≤ a1 ∧ a1 ≤ a + 200)) (fun (xs, a1, s1) => [(1000000, .box 91 (src cs a1 s1)), (900001, .row 25 5 (xs.map sbA))]) (fun (xs, a1, s1) => .own 900001 xs.length) := by
  refine denXR_of_good Tryz.func83 (by decide) rfl (Nat.le_of_ble_eq_true rfl) (Nat.le_of_ble_eq_true rfl) rfl ?_
  refine good_seq fun K1 hK1 => ?_
  refine good_region rfl ?_
  refine ev_q rfl (q_assign (by conv => lhs; whnf) ?_)
  refine ev_nil (hK1 _ ?_); clear hK1
  refine good_seq fun K2 hK2 => ?_
  refine good_region rfl ?_
  refine ev_k rfl (k_lit tE80 zA9 rfl rfl (by decide) (by decide) rfl rfl rfl ?_)
  refine ev_q rfl (q_assign (by conv => lhs; whnf) ?_)
  refine ev_nil (hK2 _ ?_); clear hK2
  refine good_seq fun K3 hK3 => ?_
  refine good_region rfl ?_
  refine ev_k rfl (k_lit tE35 zA25 rfl rfl (by decide) (by decide) rfl rfl rfl ?_)
  refine ev_q rfl (q_assign (by conv => lhs; whnf) ?_)
  refine ev_nil (hK3 _ ?_); clear hK3
  refine good_seq fun K4 hK4 => ?_
  refine good_seq fun K5 hK5 => ?_
  refine good_region rfl ?_
  refine ev_q rfl (q_assign (by conv => lhs; whnf) ?_)
  refine ev_nil (hK5 _ ?_); clear hK5
  refine good_block ?_
  refine good_loop (α := List Sb × Nat × Int × Int) (fun (u, k, a1, s1) => { env := upd (upd (upd (upd ((fun _ => .junk)) 0 (.ptr 1000000 0)) 3 (.own 8 4)) 4 (.own 27 u.length)) 5 (.s (.int .i64 ((k : Int)))), H := upd (upd (upd ((fun _ => none)) 1000000 (some (.box 91 (src cs a1 s1)))) 27 (some (.row 25 5 (u.map sbA)))) 8 (some (.row 9 1 (nmL.map stA))) }) (fun (u, k, a1, s1) => (k ≤ 4 ∧ u.length ≤ k ∧ ∀ x ∈ u, x.id.size ≤ 100) ∧ (a ≤ a1 ∧ a1 ≤ a + 12 * k)) (fun (u, k, a1, s1) => 4 - k) ([], 0, a, s) ?_ ?_ ?_
  · exact ⟨⟨by omega, by simp, by simp⟩, by omega⟩
  · refine Sub.trans (sub_move 4 9 27 rfl rfl rfl (by decide)) ?_
    refine sub_weak ?_ ?_
    · exact weakH_row (rowEq (rfl)) (weakH_row (rowEq (rfl)) (weakH_box (boxEq (rfl)) rfl (weakH_none _)))
    · refine weakE_upd ?e5 ?r5 (weakE_upd ?e4 ?r4 (weakE_upd ?e3 ?r3 (weakE_upd ?e0 ?r0 (weakE_junk _ _))))
      case e0 => first | rfl | exact fI (by omega) | (simp_all)
      case r0 => intro h hh; simp [refs] at hh; subst hh; rfl
      case e3 => first | rfl | exact fI (by omega) | (simp_all)
      case r3 => intro h hh; simp [refs] at hh; subst hh; rfl
      case e4 => first | rfl | exact fI (by omega) | (first | rfl | exact ownEq (by simp))
      case r4 => intro h hh; simp [refs] at hh; subst hh; rfl
      case e5 => first | rfl | exact fI (by omega) | (simp_all)
      case r5 => intro h hh; cases hh
  · rintro ⟨u, k, a1, s1⟩ ⟨⟨hk, hu, hz⟩, hJ⟩
    refine good_seq fun K6 hK6 => ?_
    refine good_seq fun K7 hK7 => ?_
    refine good_region rfl ?_
    refine ev_q rfl (q_move (by conv => lhs; whnf) ?_)
    refine ev_q rfl (q_move (by conv => lhs; whnf) ?_)
    refine ev_q rfl (q_len tEs80 rfl ?_)
    intro n8 hn8
    try simp only [List.length_map] at hn8
    refine ev_q rfl (q_int rfl rfl ?_)
    intro b9 hb9; cases b9
    · replace hb9 := dF hb9
      refine ev_nil (hK7 _ ?_); clear hK7
      refine good_condF rfl ?_
      refine good_exit ?_
      repeat (first | refine thenQ_exit ?_ | refine blockQ_pass rfl ?_)
      refine blockQ_exit (hK4 _ ?_); clear hK4
      refine good_seq fun K10 hK10 => ?_
      refine good_seq fun K11 hK11 => ?_
      refine good_region rfl ?_
      refine ev_q rfl (q_move (by conv => lhs; whnf) ?_)
      refine ev_k rfl (k_callR [(1000000, 1000000)] (D_spec_l00Src_pick cs _ _ _ hc hb (by omega) (by omega)) rfl (rfl) (rfl) ⟨rfl, trivial⟩ rfl (by rintro ⟨v12, a12, s12⟩ ⟨hx12_0, hx12_1⟩; exact ⟨⟨rfl, rfl, trivial⟩, rfl⟩) rfl rfl ?_)
      rintro ⟨v12, a12, s12⟩ ⟨hx12_0, hx12_1⟩
      refine ev_nil (hK11 _ ?_); clear hK11
      refine good_block ?_
      refine good_seq fun K13 hK13 => ?_
      refine good_region rfl ?_
      refine ev_q rfl (q_int rfl rfl ?_)
      intro b14 hb14; cases b14
      · replace hb14 := eqF hb14
        refine ev_q rfl (q_assign (by conv => lhs; whnf) ?_)
        refine ev_nil (hK13 _ ?_); clear hK13
        refine good_condF rfl ?_
        refine good_seq fun K15 hK15 => ?_
        refine good_region rfl ?_
        refine ev_q rfl (q_int rfl rfl ?_)
        intro b16 hb16; cases b16
        · replace hb16 := eqF hb16
          refine ev_q rfl (q_assign (by conv => lhs; whnf) ?_)
          refine ev_nil (hK15 _ ?_); clear hK15
          refine good_condF rfl ?_
          refine good_skip (hK10 _ ?_); clear hK10
          refine good_seq fun K17 hK17 => ?_
          refine good_region rfl ?_
          refine ev_q rfl (q_move (by conv => lhs; whnf) ?_)
          refine ev_q rfl (q_assign (by conv => lhs; whnf) ?_)
          refine ev_nil (hK17 _ ?_); clear hK17
          refine good_weak (sub_move 2 27 900001 rfl rfl rfl (by decide)) ?_
          refine good_ret ?_
          repeat (first | refine thenQ_ret ?_ | refine blockQ_ret ?_)
          clear hK6
          refine ex_3 (v := u) (a := a12) (b := s12) ?hF ?hR
          case hF =>
            refine fx_tmp rfl (by conv => lhs; whnf) ?_
            exact ⟨_, conv_eq (by first | rfl | (rw [e]; done) | (rw [e]; rfl) | exact ownEq (by first | omega | simp_all)), weakH_box (boxEq (by first | rfl | (rw [e]; done) | (rw [e]; rfl) | (simp_all; done))) rfl (weakH_row (rowEq (by first | rfl | (rw [List.map_append]; rfl))) (weakH_none _)), refsIn_ok rfl⟩
          case hR =>
            exact ⟨⟨by first | omega | (simp; omega), by first | exact hz2 | exact hz | exact idz_app hz (by assumption)⟩, by omega⟩
        · replace hb16 := eqT hb16
          refine ev_q rfl (q_assign (by conv => lhs; whnf) ?_)
          refine ev_nil (hK15 _ ?_); clear hK15
          refine good_condT rfl ?_
          refine good_seq fun K18 hK18 => ?_
          refine good_region rfl ?_
          refine ev_q rfl (q_move (by conv => lhs; whnf) ?_)
          refine ev_k rfl (k_lit tE36 zA2 rfl rfl (by decide) (by decide) rfl rfl rfl ?_)
          refine ev_k rfl (k_callR [(1000000, 1000000), (1000001, 42)] (D_spec_l00Src_among cs _ _ [12, 13] hc hb (by omega) (by decide)) rfl (rfl) (rfl) ⟨rfl, ⟨rfl, trivial⟩⟩ rfl (by rintro ⟨v19, a19, s19⟩ ⟨hx19_0, hx19_1⟩; exact ⟨⟨rfl, rfl, ⟨rfl, ⟨rfl, rfl, by first | exact Nat.le_refl _ | (simp; done) | (simp; omega)⟩, trivial⟩⟩, rfl⟩) rfl rfl ?_)
          rintro ⟨v19, a19, s19⟩ ⟨hx19_0, hx19_1⟩
          simp only [List.mem_cons, List.not_mem_nil, or_false] at hx19_0
          refine ev_q rfl (q_assign (by conv => lhs; whnf) ?_)
          refine ev_nil (hK18 _ ?_); clear hK18
          refine good_seq fun K20 hK20 => ?_
          refine good_region rfl ?_
          refine ev_k rfl (k_lit tE35 zA25 rfl rfl (by decide) (by decide) rfl rfl rfl ?_)
          refine ev_q rfl (q_assign (by conv => lhs; whnf) ?_)
          refine ev_nil (hK20 _ ?_); clear hK20
          refine good_seq fun K21 hK21 => ?_
          refine good_region rfl ?_
          refine ev_q rfl (q_assign (by conv => lhs; whnf) ?_)
          refine ev_nil (hK21 _ ?_); clear hK21
          refine good_block ?_
          refine good_loop (α := List Sb × Nat × Int × Int) (fun (w, j, a2, s2) => { env := upd (upd (upd (upd ((fun _ => .junk)) 0 (.ptr 1000000 0)) 4 (.own 60 w.length)) 6 (.s (.int .i64 (v19)))) 7 (.s (.int .i64 ((j : Int)))), H := upd (upd ((fun _ => none)) 1000000 (some (.box 91 (src cs a2 s2)))) 60 (some (.row 25 5 (w.map sbA))) }) (fun (w, j, a2, s2) => (j ≤ 13 ∧ w.length = j ∧ ∀ x ∈ w, x.id.size ≤ 100) ∧ (a ≤ a2 ∧ a2 ≤ a + 60 + 8 * j)) (fun (w, j, a2, s2) => 13 - j) ([], 0, a19, s19) ?_ ?_ ?_
          · exact ⟨⟨by omega, by simp, by simp⟩, by omega⟩
          · refine Sub.trans (sub_move 4 44 60 rfl rfl rfl (by decide)) ?_
            refine sub_weak ?_ ?_
            · exact weakH_row (rowEq (rfl)) (weakH_box (boxEq (rfl)) rfl (weakH_none _))
            · refine weakE_upd ?e7 ?r7 (weakE_upd ?e6 ?r6 (weakE_upd ?e4 ?r4 (weakE_upd ?e0 ?r0 (weakE_junk _ _))))
              case e0 => first | rfl | exact fI (by omega) | (simp_all)
              case r0 => intro h hh; simp [refs] at hh; subst hh; rfl
              case e4 => first | rfl | exact fI (by omega) | (first | rfl | exact ownEq (by simp))
              case r4 => intro h hh; simp [refs] at hh; subst hh; rfl
              case e6 => first | rfl | exact fI (by omega) | (simp_all)
              case r6 => intro h hh; cases hh
              case e7 => first | rfl | exact fI (by omega) | (simp_all)
              case r7 => intro h hh; cases hh
          · rintro ⟨w, j, a2, s2⟩ ⟨⟨hj, hw, hz2⟩, hJ2⟩
            refine good_seq fun K22 hK22 => ?_
            refine good_seq fun K23 hK23 => ?_
            refine good_region rfl ?_
            refine ev_q rfl (q_move (by conv => lhs; whnf) ?_)
            refine ev_q rfl (q_move (by conv => lhs; whnf) ?_)
            refine ev_q rfl (q_int rfl rfl ?_)
            intro b24 hb24; cases b24
            · replace hb24 := dF hb24
              refine ev_nil (hK23 _ ?_); clear hK23
              refine good_condF rfl ?_
              refine good_exit ?_
              repeat (first | refine thenQ_exit ?_ | refine blockQ_pass rfl ?_)
              refine blockQ_exit (hK10 _ ?_); clear hK10
              refine good_seq fun K25 hK25 => ?_
              refine good_region rfl ?_
              refine ev_q rfl (q_move (by conv => lhs; whnf) ?_)
              refine ev_q rfl (q_assign (by conv => lhs; whnf) ?_)
              refine ev_nil (hK25 _ ?_); clear hK25
              refine good_weak (sub_move 2 60 900001 rfl rfl rfl (by decide)) ?_
              refine good_ret ?_
              repeat (first | refine thenQ_ret ?_ | refine blockQ_ret ?_)
              clear hK6 hK22
              refine ex_3 (v := w) (a := a2) (b := s2) ?hF ?hR
              case hF =>
                refine fx_tmp rfl (by conv => lhs; whnf) ?_
                exact ⟨_, conv_eq (by first | rfl | (rw [e]; done) | (rw [e]; rfl) | exact ownEq (by first | omega | simp_all)), weakH_box (boxEq (by first | rfl | (rw [e]; done) | (rw [e]; rfl) | (simp_all; done))) rfl (weakH_row (rowEq (by first | rfl | (rw [List.map_append]; rfl))) (weakH_none _)), refsIn_ok rfl⟩
              case hR =>
                exact ⟨⟨by first | omega | (simp; omega), by first | exact hz2 | exact hz | exact idz_app hz (by assumption)⟩, by omega⟩
            · replace hb24 := dT hb24
              refine ev_nil (hK23 _ ?_); clear hK23
              refine good_condT rfl ?_
              refine good_skip (hK22 _ ?_); clear hK22
              refine good_seq fun K26 hK26 => ?_
              refine good_block ?_
              refine good_region rfl ?_
              refine ev_q rfl (q_move (by conv => lhs; whnf) ?_)
              refine ev_q rfl (q_move (by conv => lhs; whnf) ?_)
              refine ev_q rfl (q_move (by conv => lhs; whnf) ?_)
              refine ev_q rfl (q_int rfl rfl ?_)
              intro n27 hn27
              replace hn27 := in64 hn27 (by omega) (by omega)
              refine ev_q rfl (q_conv tK2 tK5 rfl ?_)
              intro n28 hn28
              refine ev_k rfl (k_lit tE22 zA5 rfl rfl (by decide) (by decide) rfl rfl rfl ?_)
              refine ev_q rfl (q_txtO tByS22 tStr9 rfl rfl (by rfl) ?_)
              intro s29 hs29
              refine ev_q rfl (q_str rfl rfl ⟨by have := congrArg ByteArray.size hs29; rw [strOfNums_size] at this; simp at this; rw [l1_size]; omega, ?_⟩)
              intro s30 hs30
              have hz57 := sz_app hs30
              have hz56 := congrArg ByteArray.size hs29
              rw [strOfNums_size] at hz56
              simp at hz56
              rw [l1_size] at hz57
              refine ev_k rfl (k_callR [(1000000, 1000000)] (D_spec_l12DrawOne cs _ _ s30 hc hb (by omega)) rfl (rfl) (rfl) ⟨rfl, trivial⟩ rfl (by rintro ⟨v31, a31, s31⟩ ⟨hx31_0, hx31_1⟩; exact ⟨⟨rfl, rfl, trivial⟩, rfl⟩) rfl rfl ?_)
              rintro ⟨v31, a31, s31⟩ ⟨hx31_0, hx31_1⟩
              have hy58 := hx31_0
              have hz58 : v31.id.size ≤ 100 := by rw [hy58.1]; first | omega | decide
              refine ev_k rfl (k_lit tE35 zA25 rfl rfl (by decide) (by decide) rfl rfl rfl ?_)
              refine ev_k rfl (k_app tApp35 rfl rfl (by simp) rfl (.inr rfl) (by simp [maxLen]; omega) (by simp; omega) ?_)
              refine ev_q rfl (q_assign (by conv => lhs; whnf) ?_)
              refine ev_nil (hK26 _ ?_); clear hK26
              refine good_region rfl ?_
              refine ev_q rfl (q_move (by conv => lhs; whnf) ?_)
              refine ev_q rfl (q_int rfl rfl ?_)
              intro n32 hn32
              replace hn32 := in64 hn32 (by omega) (by omega)
              refine ev_q rfl (q_assign (by conv => lhs; whnf) ?_)
              refine ev_nil ?_
              clear hK6 hK10
              refine ⟨(w ++ [v31], j + 1, a31, s31), ?_, ?_, ?_⟩
              · exact ⟨⟨by omega, by simp; omega, idz_app hz2 hz58⟩, by first | omega | (dsimp only; omega)⟩
              · first | omega | (dsimp only; omega)
              · refine sub_weak ?_ ?_
                · exact weakH_row (rowEq (by first | rfl | (rw [List.map_append]; rfl))) (weakH_box (boxEq (rfl)) rfl (weakH_none _))
                · refine weakE_upd ?e7 ?r7 (weakE_upd ?e6 ?r6 (weakE_upd ?e4 ?r4 (weakE_upd ?e0 ?r0 (weakE_junk _ _))))
                  case e0 => first | rfl | exact fI (by omega) | (simp_all)
                  case r0 => intro h hh; simp [refs] at hh; subst hh; rfl
                  case e4 => first | rfl | exact fI (by omega) | (first | rfl | exact ownEq (by simp))
                  case r4 => intro h hh; simp [refs] at hh; subst hh; rfl
                  case e6 => first | rfl | exact fI (by omega) | (simp_all)
                  case r6 => intro h hh; cases hh
                  case e7 => first | rfl | exact fI (by omega) | (simp_all)
                  case r7 => intro h hh; cases hh
      · replace hb14 := eqT hb14
        refine ev_q rfl (q_assign (by conv => lhs; whnf) ?_)
        refine ev_nil (hK13 _ ?_); clear hK13
        refine good_condT rfl ?_
        refine good_region rfl ?_
        refine ev_q rfl (q_move (by conv => lhs; whnf) ?_)
        refine ev_q rfl (q_move (by conv => lhs; whnf) ?_)
        refine ev_q rfl (q_move (by conv => lhs; whnf) ?_)
        refine ev_k rfl (k_callR [(1000000, 1000000)] (D_spec_l12DrawOne cs _ _ _ hc hb (by omega)) rfl (rfl) (rfl) ⟨rfl, trivial⟩ rfl (by rintro ⟨v33, a33, s33⟩ ⟨hx33_0, hx33_1⟩; exact ⟨⟨rfl, rfl, trivial⟩, rfl⟩) rfl rfl ?_)
        rintro ⟨v33, a33, s33⟩ ⟨hx33_0, hx33_1⟩
        have hy35 := hx33_0
        have hz35 : v33.id.size ≤ 100 := by rw [hy35.1]; first | omega | decide
        refine ev_k rfl (k_callR [(1000000, 1000000)] (D_spec_l12Bend cs _ _ v33 hc hb (by omega) (by omega)) rfl (rfl) (rfl) ⟨rfl, trivial⟩ rfl (by rintro ⟨v34, a34, s34⟩ ⟨hx34_0, hx34_1⟩; exact ⟨⟨rfl, rfl, trivial⟩, rfl⟩) rfl rfl ?_)
        rintro ⟨v34, a34, s34⟩ ⟨hx34_0, hx34_1⟩
        have hz36 : v34.id.size ≤ 100 := by rw [hx34_0]; exact hz35
        refine ev_k rfl (k_lit tE35 zA25 rfl rfl (by decide) (by decide) rfl rfl rfl ?_)
        refine ev_k rfl (k_app tApp35 rfl rfl (by simp) rfl (.inl rfl) (by simp [maxLen]; omega) (by simp; omega) ?_)
        refine ev_q rfl (q_assign (by conv => lhs; whnf) ?_)
        refine ev_nil (hK10 _ ?_); clear hK10
        refine good_seq fun K35 hK35 => ?_
        refine good_region rfl ?_
        refine ev_q rfl (q_move (by conv => lhs; whnf) ?_)
        refine ev_q rfl (q_assign (by conv => lhs; whnf) ?_)
        refine ev_nil (hK35 _ ?_); clear hK35
        refine good_weak (sub_move 2 38 900001 rfl rfl rfl (by decide)) ?_
        refine good_ret ?_
        repeat (first | refine thenQ_ret ?_ | refine blockQ_ret ?_)
        clear hK6
        refine ex_3 (v := u ++ [v34]) (a := a34) (b := s34) ?hF ?hR
        case hF =>
          refine fx_tmp rfl (by conv => lhs; whnf) ?_
          exact ⟨_, conv_eq (by first | rfl | (rw [e]; done) | (rw [e]; rfl) | exact ownEq (by first | omega | simp_all)), weakH_box (boxEq (by first | rfl | (rw [e]; done) | (rw [e]; rfl) | (simp_all; done))) rfl (weakH_row (rowEq (by first | rfl | (rw [List.map_append]; rfl))) (weakH_none _)), refsIn_ok rfl⟩
        case hR =>
          exact ⟨⟨by first | omega | (simp; omega), by first | exact hz2 | exact hz | exact idz_app hz (by assumption)⟩, by omega⟩
    · replace hb9 := dT hb9
      refine ev_nil (hK7 _ ?_); clear hK7
      refine good_condT rfl ?_
      refine good_skip (hK6 _ ?_); clear hK6
      refine good_seq fun K36 hK36 => ?_
      refine good_block ?_
      refine good_seq fun K37 hK37 => ?_
      refine good_region rfl ?_
      refine ev_q rfl (q_move (by conv => lhs; whnf) ?_)
      refine ev_k rfl (k_callR [(1000000, 1000000)] (D_spec_l00Src_one cs _ _ _ hc hb (by omega) (by omega)) rfl (rfl) (rfl) ⟨rfl, trivial⟩ rfl (by rintro ⟨v38, a38, s38⟩ ⟨hx38_0, hx38_1⟩; exact ⟨⟨rfl, rfl, trivial⟩, rfl⟩) rfl rfl ?_)
      rintro ⟨v38, a38, s38⟩ ⟨hx38_0, hx38_1⟩
      cases v38
      · refine ev_q rfl (q_not rfl rfl ?_)
        refine ev_nil (hK37 _ ?_); clear hK37
        refine good_condT rfl ?_
        refine good_region rfl ?_
        refine ev_q rfl (q_move (by conv => lhs; whnf) ?_)
        refine ev_q rfl (q_move (by conv => lhs; whnf) ?_)
        refine ev_q rfl (q_move (by conv => lhs; whnf) ?_)
        refine ev_q rfl (q_move (by conv => lhs; whnf) ?_)
        obtain ⟨q, hq⟩ := getL (xs := nmL) (n := (k : Int)) (by omega) (by show (k : Int) < 4; omega)
        have hqz := nmL_sz (List.mem_of_getElem? hq)
        refine ev_q rfl (q_idxO tE80 rfl rfl rfl (by first | exact Int.natCast_nonneg _ | omega) (by omega) rfl ?_)
        refine ev_q rfl (q_loadE tA9 rfl rfl (by exact map_get hq) rfl ?_)
        refine ev_k rfl (k_callR [(1000000, 1000000)] (D_spec_l12DrawOne cs _ _ q hc hb (by omega)) rfl (rfl) (rfl) ⟨rfl, trivial⟩ rfl (by rintro ⟨v39, a39, s39⟩ ⟨hx39_0, hx39_1⟩; exact ⟨⟨rfl, rfl, trivial⟩, rfl⟩) rfl rfl ?_)
        rintro ⟨v39, a39, s39⟩ ⟨hx39_0, hx39_1⟩
        have hy25 := hx39_0
        have hz25 : v39.id.size ≤ 100 := by rw [hy25.1]; first | omega | decide
        refine ev_k rfl (k_lit tE35 zA25 rfl rfl (by decide) (by decide) rfl rfl rfl ?_)
        refine ev_k rfl (k_app tApp35 rfl rfl (by simp) rfl (.inr rfl) (by simp [maxLen]; omega) (by simp; omega) ?_)
        refine ev_q rfl (q_assign (by conv => lhs; whnf) ?_)
        refine ev_nil (hK36 _ ?_); clear hK36
        refine good_region rfl ?_
        refine ev_q rfl (q_move (by conv => lhs; whnf) ?_)
        refine ev_q rfl (q_int rfl rfl ?_)
        intro n40 hn40
        replace hn40 := in64 hn40 (by omega) (by omega)
        refine ev_q rfl (q_assign (by conv => lhs; whnf) ?_)
        refine ev_nil ?_
        clear hK4
        refine ⟨(u ++ [v39], k + 1, a39, s39), ?_, ?_, ?_⟩
        · exact ⟨⟨by omega, by simp; omega, idz_app hz hz25⟩, by first | omega | (dsimp only; omega)⟩
        · first | omega | (dsimp only; omega)
        · refine sub_weak ?_ ?_
          · exact weakH_row (rowEq (rfl)) (weakH_row (rowEq (by first | rfl | (rw [List.map_append]; rfl))) (weakH_box (boxEq (rfl)) rfl (weakH_none _)))
          · refine weakE_upd ?e5 ?r5 (weakE_upd ?e4 ?r4 (weakE_upd ?e3 ?r3 (weakE_upd ?e0 ?r0 (weakE_junk _ _))))
            case e0 => first | rfl | exact fI (by omega) | (simp_all)
            case r0 => intro h hh; simp [refs] at hh; subst hh; rfl
            case e3 => first | rfl | exact fI (by omega) | (simp_all)
            case r3 => intro h hh; simp [refs] at hh; subst hh; rfl
            case e4 => first | rfl | exact fI (by omega) | (first | rfl | exact ownEq (by simp))
            case r4 => intro h hh; simp [refs] at hh; subst hh; rfl
            case e5 => first | rfl | exact fI (by omega) | (simp_all)
            case r5 => intro h hh; cases hh
      · refine ev_q rfl (q_not rfl rfl ?_)
        refine ev_nil (hK37 _ ?_); clear hK37
        refine good_condF rfl ?_
        refine good_skip (hK36 _ ?_); clear hK36
        refine good_region rfl ?_
        refine ev_q rfl (q_move (by conv => lhs; whnf) ?_)
        refine ev_q rfl (q_int rfl rfl ?_)
        intro n41 hn41
        replace hn41 := in64 hn41 (by omega) (by omega)
        refine ev_q rfl (q_assign (by conv => lhs; whnf) ?_)
        refine ev_nil ?_
        clear hK4
        refine ⟨(u, k + 1, a38, s38), ?_, ?_, ?_⟩
        · exact ⟨⟨by omega, by first | omega | (dsimp only; omega), hz⟩, by first | omega | (dsimp only; omega)⟩
        · first | omega | (dsimp only; omega)
        · refine sub_weak ?_ ?_
          · exact weakH_row (rowEq (rfl)) (weakH_row (rowEq (by first | rfl | (rw [List.map_append]; rfl))) (weakH_box (boxEq (rfl)) rfl (weakH_none _)))
          · refine weakE_upd ?e5 ?r5 (weakE_upd ?e4 ?r4 (weakE_upd ?e3 ?r3 (weakE_upd ?e0 ?r0 (weakE_junk _ _))))
            case e0 => first | rfl | exact fI (by omega) | (simp_all)
            case r0 => intro h hh; simp [refs] at hh; subst hh; rfl
            case e3 => first | rfl | exact fI (by omega) | (simp_all)
            case r3 => intro h hh; simp [refs] at hh; subst hh; rfl
            case e4 => first | rfl | exact fI (by omega) | (first | rfl | exact ownEq (by simp))
            case r4 => intro h hh; simp [refs] at hh; subst hh; rfl
            case e5 => first | rfl | exact fI (by omega) | (simp_all)
            case r5 => intro h hh; cases hh

-- spec.l12DrawLoads
set_option maxRecDepth 20000 in
set_option maxHeartbeats 2000000 in
theorem D_spec_l12DrawLoads (cs : List Int) (a s : Int) (hc : cs.length ≤ 17592186044416) (hb : byteL cs) (ha : 0 ≤ a ∧ a ≤ 100000000000000000) : DenXR Tryz.prog 50 [(1000000, .box 91 (src cs a s))] [.ptr 1000000 0] (τ := List Sb × Int × List Int × Int × Int) (fun (xs, p, ds, a1, s1) => ((xs.length ≤ 13 ∧ ∀ x ∈ xs, x.id.size ≤ 100) ∧ ds.length ≤ 14) ∧ (a ≤ a1 ∧ a1 ≤ a + 300)) (fun (xs, p, ds, a1, s1) => [(1000000, .box 91 (src cs a1 s1)), (900001, .row 25 5 (xs.map sbA)), (900002, .row 2 1 (ds.map ci))]) (fun (xs, p, ds, a1, s1) => .tup [.own 900001 xs.length, .s (.int .i64 p), .own 900002 ds.length]) := by
  refine denXR_of_good Tryz.func50 (by decide) rfl (Nat.le_of_ble_eq_true rfl) (Nat.le_of_ble_eq_true rfl) rfl ?_
  refine good_seq fun K1 hK1 => ?_
  refine good_region rfl ?_
  refine ev_q rfl (q_assign (by conv => lhs; whnf) ?_)
  refine ev_q rfl (q_assign (by conv => lhs; whnf) ?_)
  refine ev_q rfl (q_assign (by conv => lhs; whnf) ?_)
  refine ev_nil (hK1 _ ?_); clear hK1
  refine good_seq fun K2 hK2 => ?_
  refine good_region rfl ?_
  refine ev_q rfl (q_move (by conv => lhs; whnf) ?_)
  refine ev_k rfl (k_callR [(1000000, 1000000), (900001, 900001)] (D_spec_l12Draw cs _ _ hc hb (by omega)) rfl (rfl) (rfl) ⟨rfl, trivial⟩ rfl (by rintro ⟨x3, a3, s3⟩ ⟨hx3_0, hx3_1⟩; exact ⟨⟨rfl, rfl, ⟨⟨rfl, show (900001 : Nat) < 1000000 by decide⟩, trivial⟩⟩, rfl⟩) rfl rfl ?_)
  rintro ⟨x3, a3, s3⟩ ⟨hx3_0, hx3_1⟩
  have hx10 := hx3_0
  refine ev_q rfl (q_assign (by conv => lhs; whnf) ?_)
  refine ev_nil (hK2 _ ?_); clear hK2
  refine good_seq fun K4 hK4 => ?_
  refine good_region rfl ?_
  refine ev_q rfl (q_move (by conv => lhs; whnf) ?_)
  refine ev_k rfl (k_callR [(1000000, 1000000)] (D_spec_l12DrawPrimary cs _ _  hc hb (by omega)) rfl (rfl) (rfl) ⟨rfl, trivial⟩ rfl (by rintro ⟨v5, a5, s5⟩ ⟨hx5_0, hx5_1⟩; exact ⟨⟨rfl, rfl, trivial⟩, rfl⟩) rfl rfl ?_)
  rintro ⟨v5, a5, s5⟩ ⟨hx5_0, hx5_1⟩
  refine ev_q rfl (q_assign (by conv => lhs; whnf) ?_)
  refine ev_nil (hK4 _ ?_); clear hK4
  refine good_seq fun K6 hK6 => ?_
  refine good_region rfl ?_
  refine ev_k rfl (k_lit tE36 zA2 rfl rfl (by decide) (by decide) rfl rfl rfl ?_)
  refine ev_q rfl (q_assign (by conv => lhs; whnf) ?_)
  refine ev_nil (hK6 _ ?_); clear hK6
  refine good_seq fun K7 hK7 => ?_
  refine good_seq fun K8 hK8 => ?_
  refine good_region rfl ?_
  refine ev_q rfl (q_assign (by conv => lhs; whnf) ?_)
  refine ev_nil (hK8 _ ?_); clear hK8
  refine good_block ?_
  refine good_loop (α := List Int × Nat × Int × Int) (fun (u, k, a1, s1) => { env := upd (upd (upd (upd (upd ((fun _ => .junk)) 0 (.ptr 1000000 0)) 5 (.own 900001 x3.length)) 6 (.s (.int .i64 (v5)))) 7 (.own 25 u.length)) 8 (.s (.int .i64 ((k : Int)))), H := upd (upd (upd ((fun _ => none)) 1000000 (some (.box 91 (src cs a1 s1)))) 25 (some (.row 2 1 (u.map ci)))) 900001 (some (.row 25 5 (x3.map sbA))) }) (fun (u, k, a1, s1) => (k ≤ x3.length ∧ u.length = k) ∧ (a ≤ a1 ∧ a1 ≤ a + 210 + 2 * k)) (fun (u, k, a1, s1) => x3.length - k) ([], 0, a5, s5) ?_ ?_ ?_
  · exact ⟨⟨by omega, by simp⟩, by omega⟩
  · refine Sub.trans (sub_move 7 13 25 rfl rfl rfl (by decide)) ?_
    refine sub_weak ?_ ?_
    · exact weakH_row (rowEq (rfl)) (weakH_row (rowEq (rfl)) (weakH_box (boxEq (rfl)) rfl (weakH_none _)))
    · refine weakE_upd ?e8 ?r8 (weakE_upd ?e7 ?r7 (weakE_upd ?e6 ?r6 (weakE_upd ?e5 ?r5 (weakE_upd ?e0 ?r0 (weakE_junk _ _)))))
      case e0 => first | rfl | exact fI (by omega) | (simp_all)
      case r0 => intro h hh; simp [refs] at hh; subst hh; rfl
      case e5 => first | rfl | exact fI (by omega) | (simp_all)
      case r5 => intro h hh; simp [refs] at hh; subst hh; rfl
      case e6 => first | rfl | exact fI (by omega) | (simp_all)
      case r6 => intro h hh; cases hh
      case e7 => first | rfl | exact fI (by omega) | (first | rfl | exact ownEq (by simp))
      case r7 => intro h hh; simp [refs] at hh; subst hh; rfl
      case e8 => first | rfl | exact fI (by omega) | (simp_all)
      case r8 => intro h hh; cases hh
  · rintro ⟨u, k, a1, s1⟩ ⟨⟨hk, hu⟩, hJ⟩
    refine good_seq fun K9 hK9 => ?_
    refine good_seq fun K10 hK10 => ?_
    refine good_region rfl ?_
    refine ev_q rfl (q_move (by conv => lhs; whnf) ?_)
    refine ev_q rfl (q_move (by conv => lhs; whnf) ?_)
    refine ev_q rfl (q_len tEs35 rfl ?_)
    intro n11 hn11
    try simp only [List.length_map] at hn11
    refine ev_q rfl (q_int rfl rfl ?_)
    intro b12 hb12; cases b12
    · replace hb12 := dF hb12
      refine ev_nil (hK10 _ ?_); clear hK10
      refine good_condF rfl ?_
      refine good_exit ?_
      repeat (first | refine thenQ_exit ?_ | refine blockQ_pass rfl ?_)
      refine blockQ_exit (hK7 _ ?_); clear hK7
      refine good_seq fun K13 hK13 => ?_
      refine good_seq fun K14 hK14 => ?_
      refine good_region rfl ?_
      refine ev_q rfl (q_move (by conv => lhs; whnf) ?_)
      refine ev_k rfl (k_callR [(1000000, 1000000)] (D_spec_l00Src_pick cs _ _ _ hc hb (by omega) (by omega)) rfl (rfl) (rfl) ⟨rfl, trivial⟩ rfl (by rintro ⟨v15, a15, s15⟩ ⟨hx15_0, hx15_1⟩; exact ⟨⟨rfl, rfl, trivial⟩, rfl⟩) rfl rfl ?_)
      rintro ⟨v15, a15, s15⟩ ⟨hx15_0, hx15_1⟩
      refine ev_nil (hK14 _ ?_); clear hK14
      refine good_block ?_
      refine good_seq fun K16 hK16 => ?_
      refine good_region rfl ?_
      refine ev_q rfl (q_int rfl rfl ?_)
      intro b17 hb17; cases b17
      · replace hb17 := eqF hb17
        refine ev_q rfl (q_assign (by conv => lhs; whnf) ?_)
        refine ev_nil (hK16 _ ?_); clear hK16
        refine good_condF rfl ?_
        refine good_seq fun K18 hK18 => ?_
        refine good_region rfl ?_
        refine ev_q rfl (q_int rfl rfl ?_)
        intro b19 hb19; cases b19
        · replace hb19 := eqF hb19
          refine ev_q rfl (q_assign (by conv => lhs; whnf) ?_)
          refine ev_nil (hK18 _ ?_); clear hK18
          refine good_condF rfl ?_
          refine good_skip (hK13 _ ?_); clear hK13
          refine good_seq fun K20 hK20 => ?_
          refine good_region rfl ?_
          refine ev_q rfl (q_move (by conv => lhs; whnf) ?_)
          refine ev_q rfl (q_move (by conv => lhs; whnf) ?_)
          refine ev_q rfl (q_move (by conv => lhs; whnf) ?_)
          refine ev_q rfl (q_assign (by conv => lhs; whnf) ?_)
          refine ev_q rfl (q_assign (by conv => lhs; whnf) ?_)
          refine ev_q rfl (q_assign (by conv => lhs; whnf) ?_)
          refine ev_nil (hK20 _ ?_); clear hK20
          refine good_weak (sub_move 4 25 900002 rfl rfl rfl (by decide)) ?_
          refine good_ret ?_
          repeat (first | refine thenQ_ret ?_ | refine blockQ_ret ?_)
          clear hK9
          refine ex_5 (v := x3) (a := v5) (b := u) (c := a15) (d := s15) ?hF ?hR
          case hF =>
            refine fx_many rfl ?_
            refine fxs_tmp (by conv => lhs; whnf) ?_
            refine fxs_tmp (by conv => lhs; whnf) ?_
            refine fxs_tmp (by conv => lhs; whnf) ?_
            refine fx_nil ?_
            exact ⟨_, .tup (.cons (conv_eq (by first | rfl | (rw [e]; done) | (rw [e]; rfl) | exact ownEq (by first | omega | simp_all))) (.cons (conv_eq (by first | rfl | exact fI (by first | omega | grind) | (exfalso; first | omega | grind))) (.cons (conv_eq (by first | rfl | (rw [e]; done) | (rw [e]; rfl) | exact ownEq (by first | omega | simp_all))) (.nil)))), weakH_box (boxEq (by first | rfl | (rw [e]; done) | (rw [e]; rfl) | (simp_all; done))) rfl (weakH_row (rowEq (by first | rfl | (rw [e]; done) | (rw [e]; rfl) | (simp_all; done))) (weakH_row (rowEq (by first | rfl | (rw [List.map_append]; rfl) | (rw [List.map_set]; rfl))) (weakH_none _))), refsIn_ok rfl⟩
          case hR =>
            exact ⟨⟨hx10, by first | omega | (simp; omega)⟩, by omega⟩
        · replace hb19 := eqT hb19
          refine ev_q rfl (q_assign (by conv => lhs; whnf) ?_)
          refine ev_nil (hK18 _ ?_); clear hK18
          refine good_condT rfl ?_
          refine good_seq fun K21 hK21 => ?_
          refine good_region rfl ?_
          refine ev_q rfl (q_move (by conv => lhs; whnf) ?_)
          refine ev_q rfl (q_len tEs36 rfl ?_)
          intro n22 hn22
          try simp only [List.length_map] at hn22
          refine ev_q rfl (q_int rfl rfl ?_)
          intro b23 hb23; cases b23
          · replace hb23 := dF hb23
            refine ev_nil (hK21 _ ?_); clear hK21
            refine good_condF rfl ?_
            refine good_skip (hK13 _ ?_); clear hK13
            refine good_seq fun K24 hK24 => ?_
            refine good_region rfl ?_
            refine ev_q rfl (q_move (by conv => lhs; whnf) ?_)
            refine ev_q rfl (q_move (by conv => lhs; whnf) ?_)
            refine ev_q rfl (q_move (by conv => lhs; whnf) ?_)
            refine ev_q rfl (q_assign (by conv => lhs; whnf) ?_)
            refine ev_q rfl (q_assign (by conv => lhs; whnf) ?_)
            refine ev_q rfl (q_assign (by conv => lhs; whnf) ?_)
            refine ev_nil (hK24 _ ?_); clear hK24
            refine good_weak (sub_move 4 25 900002 rfl rfl rfl (by decide)) ?_
            refine good_ret ?_
            repeat (first | refine thenQ_ret ?_ | refine blockQ_ret ?_)
            clear hK9
            refine ex_5 (v := x3) (a := v5) (b := u) (c := a15) (d := s15) ?hF ?hR
            case hF =>
              refine fx_many rfl ?_
              refine fxs_tmp (by conv => lhs; whnf) ?_
              refine fxs_tmp (by conv => lhs; whnf) ?_
              refine fxs_tmp (by conv => lhs; whnf) ?_
              refine fx_nil ?_
              exact ⟨_, .tup (.cons (conv_eq (by first | rfl | (rw [e]; done) | (rw [e]; rfl) | exact ownEq (by first | omega | simp_all))) (.cons (conv_eq (by first | rfl | exact fI (by first | omega | grind) | (exfalso; first | omega | grind))) (.cons (conv_eq (by first | rfl | (rw [e]; done) | (rw [e]; rfl) | exact ownEq (by first | omega | simp_all))) (.nil)))), weakH_box (boxEq (by first | rfl | (rw [e]; done) | (rw [e]; rfl) | (simp_all; done))) rfl (weakH_row (rowEq (by first | rfl | (rw [e]; done) | (rw [e]; rfl) | (simp_all; done))) (weakH_row (rowEq (by first | rfl | (rw [List.map_append]; rfl) | (rw [List.map_set]; rfl))) (weakH_none _))), refsIn_ok rfl⟩
            case hR =>
              exact ⟨⟨hx10, by first | omega | (simp; omega)⟩, by omega⟩
          · replace hb23 := dT hb23
            refine ev_nil (hK21 _ ?_); clear hK21
            refine good_condT rfl ?_
            refine good_region rfl ?_
            refine ev_q rfl (q_move (by conv => lhs; whnf) ?_)
            refine ev_q rfl (q_move (by conv => lhs; whnf) ?_)
            refine ev_k rfl (k_callR [(1000000, 1000000)] (D_spec_l12DrawLoad cs _ _  hc hb (by omega)) rfl (rfl) (rfl) ⟨rfl, trivial⟩ rfl (by rintro ⟨v25, a25, s25⟩ ⟨hx25_0, hx25_1⟩; exact ⟨⟨rfl, rfl, trivial⟩, rfl⟩) rfl rfl ?_)
            rintro ⟨v25, a25, s25⟩ ⟨hx25_0, hx25_1⟩
            obtain ⟨o, ho⟩ := getL (xs := u) (n := 0) (by omega) (by omega)
            refine ev_q rfl (q_idxO tE36 rfl rfl rfl (by decide) (by omega) rfl ?_)
            refine ev_k rfl (k_storeE sz2 rfl (by conv => lhs; whnf) rfl rfl rfl (Nat.le_of_ble_eq_true rfl) rfl (by exact map_get ho) (Nat.le_of_ble_eq_true rfl) rfl ?_)
            refine ev_nil (hK13 _ ?_); clear hK13
            refine good_seq fun K26 hK26 => ?_
            refine good_region rfl ?_
            refine ev_q rfl (q_move (by conv => lhs; whnf) ?_)
            refine ev_q rfl (q_move (by conv => lhs; whnf) ?_)
            refine ev_q rfl (q_move (by conv => lhs; whnf) ?_)
            refine ev_q rfl (q_assign (by conv => lhs; whnf) ?_)
            refine ev_q rfl (q_assign (by conv => lhs; whnf) ?_)
            refine ev_q rfl (q_assign (by conv => lhs; whnf) ?_)
            refine ev_nil (hK26 _ ?_); clear hK26
            refine good_weak (sub_move 4 25 900002 rfl rfl rfl (by decide)) ?_
            refine good_ret ?_
            repeat (first | refine thenQ_ret ?_ | refine blockQ_ret ?_)
            clear hK9
            refine ex_5 (v := x3) (a := v5) (b := u.set 0 v25) (c := a25) (d := s25) ?hF ?hR
            case hF =>
              refine fx_many rfl ?_
              refine fxs_tmp (by conv => lhs; whnf) ?_
              refine fxs_tmp (by conv => lhs; whnf) ?_
              refine fxs_tmp (by conv => lhs; whnf) ?_
              refine fx_nil ?_
              exact ⟨_, .tup (.cons (conv_eq (by first | rfl | (rw [e]; done) | (rw [e]; rfl) | exact ownEq (by first | omega | simp_all))) (.cons (conv_eq (by first | rfl | exact fI (by first | omega | grind) | (exfalso; first | omega | grind))) (.cons (conv_eq (by first | rfl | (rw [e]; done) | (rw [e]; rfl) | exact ownEq (by first | omega | simp_all))) (.nil)))), weakH_box (boxEq (by first | rfl | (rw [e]; done) | (rw [e]; rfl) | (simp_all; done))) rfl (weakH_row (rowEq (by first | rfl | (rw [e]; done) | (rw [e]; rfl) | (simp_all; done))) (weakH_row (rowEq (by first | rfl | (rw [List.map_append]; rfl) | (rw [List.map_set]; rfl))) (weakH_none _))), refsIn_ok rfl⟩
            case hR =>
              exact ⟨⟨hx10, by first | omega | (simp; omega)⟩, by omega⟩
      · replace hb17 := eqT hb17
        refine ev_q rfl (q_assign (by conv => lhs; whnf) ?_)
        refine ev_nil (hK16 _ ?_); clear hK16
        refine good_condT rfl ?_
        refine good_region rfl ?_
        refine ev_q rfl (q_move (by conv => lhs; whnf) ?_)
        refine ev_k rfl (k_lit tE36 zA2 rfl rfl (by decide) (by decide) rfl rfl rfl ?_)
        refine ev_k rfl (k_app tApp36 rfl rfl (by simp) rfl (.inl rfl) (by simp [maxLen]; omega) (by simp; omega) ?_)
        refine ev_q rfl (q_assign (by conv => lhs; whnf) ?_)
        refine ev_nil (hK13 _ ?_); clear hK13
        refine good_seq fun K27 hK27 => ?_
        refine good_region rfl ?_
        refine ev_q rfl (q_move (by conv => lhs; whnf) ?_)
        refine ev_q rfl (q_move (by conv => lhs; whnf) ?_)
        refine ev_q rfl (q_move (by conv => lhs; whnf) ?_)
        refine ev_q rfl (q_assign (by conv => lhs; whnf) ?_)
        refine ev_q rfl (q_assign (by conv => lhs; whnf) ?_)
        refine ev_q rfl (q_assign (by conv => lhs; whnf) ?_)
        refine ev_nil (hK27 _ ?_); clear hK27
        refine good_weak (sub_move 4 32 900002 rfl rfl rfl (by decide)) ?_
        refine good_ret ?_
        repeat (first | refine thenQ_ret ?_ | refine blockQ_ret ?_)
        clear hK9
        refine ex_5 (v := x3) (a := v5) (b := u ++ [0]) (c := a15) (d := s15) ?hF ?hR
        case hF =>
          refine fx_many rfl ?_
          refine fxs_tmp (by conv => lhs; whnf) ?_
          refine fxs_tmp (by conv => lhs; whnf) ?_
          refine fxs_tmp (by conv => lhs; whnf) ?_
          refine fx_nil ?_
          exact ⟨_, .tup (.cons (conv_eq (by first | rfl | (rw [e]; done) | (rw [e]; rfl) | exact ownEq (by first | omega | simp_all))) (.cons (conv_eq (by first | rfl | exact fI (by first | omega | grind) | (exfalso; first | omega | grind))) (.cons (conv_eq (by first | rfl | (rw [e]; done) | (rw [e]; rfl) | exact ownEq (by first | omega | simp_all))) (.nil)))), weakH_box (boxEq (by first | rfl | (rw [e]; done) | (rw [e]; rfl) | (simp_all; done))) rfl (weakH_row (rowEq (by first | rfl | (rw [e]; done) | (rw [e]; rfl) | (simp_all; done))) (weakH_row (rowEq (by first | rfl | (rw [List.map_append]; rfl) | (rw [List.map_set]; rfl))) (weakH_none _))), refsIn_ok rfl⟩
        case hR =>
          exact ⟨⟨hx10, by first | omega | (simp; omega)⟩, by omega⟩
    · replace hb12 := dT hb12
      refine ev_nil (hK10 _ ?_); clear hK10
      refine good_condT rfl ?_
      refine good_skip (hK9 _ ?_); clear hK9
      refine good_seq fun K28 hK28 => ?_
      refine good_block ?_
      refine good_region rfl ?_
      refine ev_q rfl (q_move (by conv => lhs; whnf) ?_)
      refine ev_q rfl (q_move (by conv => lhs; whnf) ?_)
      refine ev_k rfl (k_callR [(1000000, 1000000)] (D_spec_l00Src_pick cs _ _ _ hc hb (by omega) (by omega)) rfl (rfl) (rfl) ⟨rfl, trivial⟩ rfl (by rintro ⟨v29, a29, s29⟩ ⟨hx29_0, hx29_1⟩; exact ⟨⟨rfl, rfl, trivial⟩, rfl⟩) rfl rfl ?_)
      rintro ⟨v29, a29, s29⟩ ⟨hx29_0, hx29_1⟩
      refine ev_q rfl (q_int rfl rfl ?_)
      intro n30 hn30
      replace hn30 := in64 hn30 (by omega) (by omega)
      refine ev_k rfl (k_lit tE36 zA2 rfl rfl (by decide) (by decide) rfl rfl rfl ?_)
      refine ev_k rfl (k_app tApp36 rfl rfl (by simp) rfl (.inr rfl) (by simp [maxLen]; omega) (by simp; omega) ?_)
      refine ev_q rfl (q_assign (by conv => lhs; whnf) ?_)
      refine ev_nil (hK28 _ ?_); clear hK28
      refine good_region rfl ?_
      refine ev_q rfl (q_move (by conv => lhs; whnf) ?_)
      refine ev_q rfl (q_int rfl rfl ?_)
      intro n31 hn31
      replace hn31 := in64 hn31 (by omega) (by omega)
      refine ev_q rfl (q_assign (by conv => lhs; whnf) ?_)
      refine ev_nil ?_
      clear hK7
      refine ⟨(u ++ [n30], k + 1, a29, s29), ?_, ?_, ?_⟩
      · exact ⟨⟨by omega, by simp; omega⟩, by first | omega | (dsimp only; omega)⟩
      · first | omega | (dsimp only; omega)
      · refine sub_weak ?_ ?_
        · exact weakH_row (rowEq (rfl)) (weakH_row (rowEq (by rw [List.map_append]; rfl)) (weakH_box (boxEq (rfl)) rfl (weakH_none _)))
        · refine weakE_upd ?e8 ?r8 (weakE_upd ?e7 ?r7 (weakE_upd ?e6 ?r6 (weakE_upd ?e5 ?r5 (weakE_upd ?e0 ?r0 (weakE_junk _ _)))))
          case e0 => first | rfl | exact fI (by omega) | (simp_all)
          case r0 => intro h hh; simp [refs] at hh; subst hh; rfl
          case e5 => first | rfl | exact fI (by omega) | (simp_all)
          case r5 => intro h hh; simp [refs] at hh; subst hh; rfl
          case e6 => first | rfl | exact fI (by omega) | (simp_all)
          case r6 => intro h hh; cases hh
          case e7 => first | rfl | exact fI (by omega) | (first | rfl | exact ownEq (by simp))
          case r7 => intro h hh; simp [refs] at hh; subst hh; rfl
          case e8 => first | rfl | exact fI (by omega) | (simp_all)
          case r8 => intro h hh; cases hh

-- spec.DrawWeakSubstations
set_option maxRecDepth 20000 in
set_option maxHeartbeats 2000000 in
theorem D_spec_DrawWeakSubstations_X (cs : List Int) (hc : cs.length ≤ 17592186044416) (hb : byteL cs) : DenXR Tryz.prog 14 [] [.lst 1 (cs.map cb)] (τ := List Sb × Int × List Int) (fun (xs, p, ds) => (xs.length ≤ 13 ∧ ∀ x ∈ xs, x.id.size ≤ 100) ∧ ds.length ≤ 14) (fun (xs, p, ds) => [(900001, .row 25 5 (xs.map sbA)), (900002, .row 2 1 (ds.map ci))]) (fun (xs, p, ds) => .tup [.own 900001 xs.length, .s (.int .i64 p), .own 900002 ds.length]) := by
  refine denXR_of_good Tryz.func14 (by decide) rfl (Nat.le_of_ble_eq_true rfl) (Nat.le_of_ble_eq_true rfl) rfl ?_
  refine good_seq fun K1 hK1 => ?_
  refine good_region rfl ?_
  refine ev_q rfl (q_assign (by conv => lhs; whnf) ?_)
  refine ev_q rfl (q_assign (by conv => lhs; whnf) ?_)
  refine ev_q rfl (q_assign (by conv => lhs; whnf) ?_)
  refine ev_nil (hK1 _ ?_); clear hK1
  refine good_seq fun K2 hK2 => ?_
  refine good_region rfl ?_
  refine ev_q rfl (q_move (by conv => lhs; whnf) ?_)
  refine ev_k rfl (k_callX [(5, 900000)] (D_spec_l00From cs) rfl (rfl) (rfl) trivial ⟨⟨rfl, show (900000 : Nat) < 1000000 by decide⟩, trivial⟩ rfl rfl rfl ?_)
  refine ev_q rfl (q_assign (by conv => lhs; whnf) ?_)
  refine ev_nil (hK2 _ ?_); clear hK2
  refine good_seq fun K3 hK3 => ?_
  refine good_region rfl ?_
  refine ev_q rfl (q_move (by conv => lhs; whnf) ?_)
  refine ev_k rfl (k_callR [(1000000, 900000), (900001, 900001), (900002, 900002)] (D_spec_l12DrawLoads cs _ _ hc hb (by omega)) rfl (rfl) (rfl) ⟨rfl, trivial⟩ rfl (by rintro ⟨xs4, p4, ds4, a4, s4⟩ ⟨hx4_0, hx4_1⟩; exact ⟨⟨rfl, rfl, ⟨⟨rfl, show (900001 : Nat) < 1000000 by decide⟩, ⟨⟨rfl, show (900002 : Nat) < 1000000 by decide⟩, trivial⟩⟩⟩, rfl⟩) rfl rfl ?_)
  rintro ⟨xs4, p4, ds4, a4, s4⟩ ⟨hx4_0, hx4_1⟩
  have hi1 := hx4_0
  refine ev_q rfl (q_extract rfl rfl ?_)
  refine ev_q rfl (q_extractI rfl rfl ?_)
  intro n5 hn5
  refine ev_q rfl (q_extract rfl rfl ?_)
  refine ev_q rfl (q_assign (by conv => lhs; whnf) ?_)
  refine ev_q rfl (q_assign (by conv => lhs; whnf) ?_)
  refine ev_q rfl (q_assign (by conv => lhs; whnf) ?_)
  refine ev_nil (hK3 _ ?_); clear hK3
  refine good_ret ?_
  repeat (first | refine thenQ_ret ?_ | refine blockQ_ret ?_)
  refine ex_3 (v := xs4) (a := p4) (b := ds4) ?hF ?hR
  case hF =>
    refine fx_many rfl ?_
    refine fxs_tmp (by conv => lhs; whnf) ?_
    refine fxs_tmp (by conv => lhs; whnf) ?_
    refine fxs_tmp (by conv => lhs; whnf) ?_
    refine fx_nil ?_
    exact ⟨_, .tup (.cons (conv_eq (by first | rfl | (rw [e]; done) | (rw [e]; rfl) | exact ownEq (by first | omega | simp_all))) (.cons (conv_eq (by first | rfl | exact fI (by first | omega | grind) | (exfalso; first | omega | grind))) (.cons (conv_eq (by first | rfl | (rw [e]; done) | (rw [e]; rfl) | exact ownEq (by first | omega | simp_all))) (.nil)))), weakH_row (rowEq (by first | rfl | (rw [e]; done) | (rw [e]; rfl) | (simp_all; done))) (weakH_row (rowEq (by first | rfl | (rw [e]; done) | (rw [e]; rfl) | (simp_all; done))) (weakH_none _)), refsIn_ok rfl⟩
  case hR =>
    exact hi1
theorem D_spec_DrawWeakSubstations (cs : List Int) (hc : cs.length ≤ 17592186044416) (hb : byteL cs) : DenR Tryz.prog 14 [.lst 1 (cs.map cb)] (τ := List Sb × Int × List Int) (fun (xs, p, ds) => (xs.length ≤ 13 ∧ ∀ x ∈ xs, x.id.size ≤ 100) ∧ ds.length ≤ 14) (fun (xs, p, ds) => .tup [.lst 5 (xs.map sbA), .s (.int .i64 p), .lst 1 (ds.map ci)]) :=
  denR_of_denXR (D_spec_DrawWeakSubstations_X cs hc hb) (by rintro ⟨xs, p, ds⟩ _; change (some (.tup [.lst 5 (List.take xs.length (xs.map sbA)), .s (.int .i64 p), .lst 1 (List.take ds.length (ds.map ci))]) : Option AV) = some (.tup [.lst 5 (xs.map sbA), .s (.int .i64 p), .lst 1 (ds.map ci)]); simp only [takeMap])

-- spec.DrawReturnAt
set_option maxRecDepth 20000 in
set_option maxHeartbeats 2000000 in
theorem D_spec_DrawReturnAt (cs : List Int) (hc : cs.length ≤ 17592186044416) (hb : byteL cs) : DenXR Tryz.prog 6 [] [.lst 1 (cs.map cb)] (τ := Sb × Int × Int) (fun (v, p, l) => v.id.size ≤ 100) (fun (v, p, l) => []) (fun (v, p, l) => .tup [.agg [.s (.string v.id), .s (.int .i64 (v.nd)), .s (.int .i64 (v.tr)), .s (.int .i64 (v.su)), .s (.int .i64 (v.re))], .s (.int .i64 p), .s (.int .i64 l)]) := by
  refine denXR_of_good Tryz.func6 (by decide) rfl (Nat.le_of_ble_eq_true rfl) (Nat.le_of_ble_eq_true rfl) rfl ?_
  refine good_seq fun K1 hK1 => ?_
  refine good_region rfl ?_
  refine ev_k rfl (k_alloc zA25 rfl ?_)
  refine ev_q rfl (q_assign (by conv => lhs; whnf) ?_)
  refine ev_q rfl (q_assign (by conv => lhs; whnf) ?_)
  refine ev_nil (hK1 _ ?_); clear hK1
  refine good_seq fun K2 hK2 => ?_
  refine good_region rfl ?_
  refine ev_q rfl (q_move (by conv => lhs; whnf) ?_)
  refine ev_k rfl (k_callX [(5, 900000)] (D_spec_l00From cs) rfl (rfl) (rfl) trivial ⟨⟨rfl, show (900000 : Nat) < 1000000 by decide⟩, trivial⟩ rfl rfl rfl ?_)
  refine ev_q rfl (q_assign (by conv => lhs; whnf) ?_)
  refine ev_nil (hK2 _ ?_); clear hK2
  refine good_seq fun K3 hK3 => ?_
  refine good_region rfl ?_
  refine ev_q rfl (q_move (by conv => lhs; whnf) ?_)
  refine ev_q rfl (q_move (by conv => lhs; whnf) ?_)
  refine ev_k rfl (k_callR [(1000000, 900000)] (D_spec_l12DrawOne cs _ _ _ hc hb (by omega)) rfl (rfl) (rfl) ⟨rfl, trivial⟩ rfl (by rintro ⟨v4, a4, s4⟩ ⟨hx4_0, hx4_1⟩; exact ⟨⟨rfl, rfl, trivial⟩, rfl⟩) rfl rfl ?_)
  rintro ⟨v4, a4, s4⟩ ⟨hx4_0, hx4_1⟩
  have hi1 := hx4_0.1
  refine ev_k rfl (k_callR [(1000000, 900000)] (D_spec_l12Bend cs _ _ v4 hc hb (by omega) (by omega)) rfl (rfl) (rfl) ⟨rfl, trivial⟩ rfl (by rintro ⟨v5, a5, s5⟩ ⟨hx5_0, hx5_1⟩; exact ⟨⟨rfl, rfl, trivial⟩, rfl⟩) rfl rfl ?_)
  rintro ⟨v5, a5, s5⟩ ⟨hx5_0, hx5_1⟩
  have hi2 : v5.id.size ≤ 100 := by rw [hx5_0, hi1]; decide
  refine ev_k rfl (k_alloc zA25 rfl ?_)
  refine ev_k rfl (k_store sz25 rfl (by conv => lhs; whnf) rfl rfl rfl (Nat.le_of_ble_eq_true rfl) rfl ?_)
  refine ev_nil (hK3 _ ?_); clear hK3
  refine good_seq fun K6 hK6 => ?_
  refine good_region rfl ?_
  refine ev_q rfl (q_move (by conv => lhs; whnf) ?_)
  refine ev_k rfl (k_callR [(1000000, 900000)] (D_spec_l12DrawPrimary cs _ _  hc hb (by omega)) rfl (rfl) (rfl) ⟨rfl, trivial⟩ rfl (by rintro ⟨v7, a7, s7⟩ ⟨hx7_0, hx7_1⟩; exact ⟨⟨rfl, rfl, trivial⟩, rfl⟩) rfl rfl ?_)
  rintro ⟨v7, a7, s7⟩ ⟨hx7_0, hx7_1⟩
  refine ev_q rfl (q_assign (by conv => lhs; whnf) ?_)
  refine ev_nil (hK6 _ ?_); clear hK6
  refine good_seq fun K8 hK8 => ?_
  refine good_orders 7 (listed := #[false, false, false, false, false, false, false]) rfl rfl hmix rfl ?_
  refine an_step [0, 1, 2] (by kernel_rfl) rfl ?_
  refine ⟨?_, ?_, ?_, trivial⟩
  · refine an_q (listed' := #[true, false, false, false, false, false, false]) rfl rfl rfl (q_loadA tA25 rfl rfl rfl ?_)
    refine an_step [1, 2] (by kernel_rfl) rfl ?_
    refine ⟨?_, ?_, trivial⟩
    · refine an_q (listed' := #[true, true, false, false, false, false, false]) rfl rfl rfl (q_move (by conv => lhs; whnf) ?_)
      refine an_step [2] (by kernel_rfl) rfl ?_
      refine ⟨?_, trivial⟩
      · refine an_q (listed' := #[true, true, true, false, false, false, false]) rfl rfl rfl (q_move (by conv => lhs; whnf) ?_)
        refine an_step [3] (by kernel_rfl) rfl ?_
        refine ⟨?_, trivial⟩
        · refine an_k (listed' := #[true, true, true, true, false, false, false]) rfl rfl rfl (k_callR [(1000000, 900000)] (D_spec_l02DrawFlow cs _ _  hc hb (by omega)) rfl (rfl) (rfl) ⟨rfl, trivial⟩ rfl (by rintro ⟨v9, a9, s9⟩ ⟨hx9_0, hx9_1⟩; exact ⟨⟨rfl, rfl, trivial⟩, rfl⟩) rfl rfl ?_)
          rintro ⟨v9, a9, s9⟩ ⟨hx9_0, hx9_1⟩
          refine an_step [4] (by kernel_rfl) rfl ?_
          refine ⟨?_, trivial⟩
          · refine an_k (listed' := #[true, true, true, true, true, false, false]) rfl rfl rfl (k_store sz25 rfl (by conv => lhs; whnf) rfl rfl rfl (Nat.le_of_ble_eq_true rfl) rfl ?_)
            refine an_step [5] (by kernel_rfl) rfl ?_
            refine ⟨?_, trivial⟩
            · refine an_q (listed' := #[true, true, true, true, true, true, false]) rfl rfl rfl (q_assign (by conv => lhs; whnf) ?_)
              refine an_step [6] (by kernel_rfl) rfl ?_
              refine ⟨?_, trivial⟩
              · refine an_q (listed' := #[true, true, true, true, true, true, true]) rfl rfl rfl (q_assign (by conv => lhs; whnf) ?_)
                refine an_end (by kernel_rfl) (hK8 _ ?_); clear hK8
                refine good_ret ?_
                repeat (first | refine thenQ_ret ?_ | refine blockQ_ret ?_)
                refine ex_3 (v := v5) (a := v7) (b := v9) ?hF ?hR
                case hF =>
                  refine fx_many rfl ?_
                  refine fxs_cell tA25 rfl rfl rfl ?_
                  refine fxs_tmp (by conv => lhs; whnf) ?_
                  refine fxs_tmp (by conv => lhs; whnf) ?_
                  refine fx_nil ?_
                  exact ⟨_, .tup (.cons (conv_eq (by first | rfl | exact fAgg1 (by first | rfl | exact ownEq (by first | done | omega | (simp; done)) | (simp_all; done)) (fAgg1 (by first | rfl | exact fI (by first | omega | grind) | (exfalso; first | omega | grind)) (fAgg1 (by first | rfl | exact fI (by first | omega | grind) | (exfalso; first | omega | grind)) (fAgg1 (by first | rfl | exact fI (by first | omega | grind) | (exfalso; first | omega | grind)) (fAgg1 (by first | rfl | exact fI (by first | omega | grind) | (exfalso; first | omega | grind)) (rfl))))))) (.cons (conv_eq (by first | rfl | exact fI (by first | omega | grind) | (exfalso; first | omega | grind))) (.cons (conv_eq (by first | rfl | exact fI (by first | omega | grind) | (exfalso; first | omega | grind))) (.nil)))), weakH_none _, refsIn_ok rfl⟩
                case hR =>
                  exact hi2
    · refine an_q (listed' := #[true, false, true, false, false, false, false]) rfl rfl rfl (q_move (by conv => lhs; whnf) ?_)
      refine an_step [1, 3] (by kernel_rfl) rfl ?_
      refine ⟨?_, ?_, trivial⟩
      · refine an_q (listed' := #[true, true, true, false, false, false, false]) rfl rfl rfl (q_move (by conv => lhs; whnf) ?_)
        refine an_step [3] (by kernel_rfl) rfl ?_
        refine ⟨?_, trivial⟩
        · refine an_k (listed' := #[true, true, true, true, false, false, false]) rfl rfl rfl (k_callR [(1000000, 900000)] (D_spec_l02DrawFlow cs _ _  hc hb (by omega)) rfl (rfl) (rfl) ⟨rfl, trivial⟩ rfl (by rintro ⟨v10, a10, s10⟩ ⟨hx10_0, hx10_1⟩; exact ⟨⟨rfl, rfl, trivial⟩, rfl⟩) rfl rfl ?_)
          rintro ⟨v10, a10, s10⟩ ⟨hx10_0, hx10_1⟩
          refine an_step [4] (by kernel_rfl) rfl ?_
          refine ⟨?_, trivial⟩
          · refine an_k (listed' := #[true, true, true, true, true, false, false]) rfl rfl rfl (k_store sz25 rfl (by conv => lhs; whnf) rfl rfl rfl (Nat.le_of_ble_eq_true rfl) rfl ?_)
            refine an_step [5] (by kernel_rfl) rfl ?_
            refine ⟨?_, trivial⟩
            · refine an_q (listed' := #[true, true, true, true, true, true, false]) rfl rfl rfl (q_assign (by conv => lhs; whnf) ?_)
              refine an_step [6] (by kernel_rfl) rfl ?_
              refine ⟨?_, trivial⟩
              · refine an_q (listed' := #[true, true, true, true, true, true, true]) rfl rfl rfl (q_assign (by conv => lhs; whnf) ?_)
                refine an_end (by kernel_rfl) (hK8 _ ?_); clear hK8
                refine good_ret ?_
                repeat (first | refine thenQ_ret ?_ | refine blockQ_ret ?_)
                refine ex_3 (v := v5) (a := v7) (b := v10) ?hF ?hR
                case hF =>
                  refine fx_many rfl ?_
                  refine fxs_cell tA25 rfl rfl rfl ?_
                  refine fxs_tmp (by conv => lhs; whnf) ?_
                  refine fxs_tmp (by conv => lhs; whnf) ?_
                  refine fx_nil ?_
                  exact ⟨_, .tup (.cons (conv_eq (by first | rfl | exact fAgg1 (by first | rfl | exact ownEq (by first | done | omega | (simp; done)) | (simp_all; done)) (fAgg1 (by first | rfl | exact fI (by first | omega | grind) | (exfalso; first | omega | grind)) (fAgg1 (by first | rfl | exact fI (by first | omega | grind) | (exfalso; first | omega | grind)) (fAgg1 (by first | rfl | exact fI (by first | omega | grind) | (exfalso; first | omega | grind)) (fAgg1 (by first | rfl | exact fI (by first | omega | grind) | (exfalso; first | omega | grind)) (rfl))))))) (.cons (conv_eq (by first | rfl | exact fI (by first | omega | grind) | (exfalso; first | omega | grind))) (.cons (conv_eq (by first | rfl | exact fI (by first | omega | grind) | (exfalso; first | omega | grind))) (.nil)))), weakH_none _, refsIn_ok rfl⟩
                case hR =>
                  exact hi2
      · refine an_k (listed' := #[true, false, true, true, false, false, false]) rfl rfl rfl (k_callR [(1000000, 900000)] (D_spec_l02DrawFlow cs _ _  hc hb (by omega)) rfl (rfl) (rfl) ⟨rfl, trivial⟩ rfl (by rintro ⟨v11, a11, s11⟩ ⟨hx11_0, hx11_1⟩; exact ⟨⟨rfl, rfl, trivial⟩, rfl⟩) rfl rfl ?_)
        rintro ⟨v11, a11, s11⟩ ⟨hx11_0, hx11_1⟩
        refine an_step [1, 4] (by kernel_rfl) rfl ?_
        refine ⟨?_, ?_, trivial⟩
        · refine an_q (listed' := #[true, true, true, true, false, false, false]) rfl rfl rfl (q_move (by conv => lhs; whnf) ?_)
          refine an_step [4] (by kernel_rfl) rfl ?_
          refine ⟨?_, trivial⟩
          · refine an_k (listed' := #[true, true, true, true, true, false, false]) rfl rfl rfl (k_store sz25 rfl (by conv => lhs; whnf) rfl rfl rfl (Nat.le_of_ble_eq_true rfl) rfl ?_)
            refine an_step [5] (by kernel_rfl) rfl ?_
            refine ⟨?_, trivial⟩
            · refine an_q (listed' := #[true, true, true, true, true, true, false]) rfl rfl rfl (q_assign (by conv => lhs; whnf) ?_)
              refine an_step [6] (by kernel_rfl) rfl ?_
              refine ⟨?_, trivial⟩
              · refine an_q (listed' := #[true, true, true, true, true, true, true]) rfl rfl rfl (q_assign (by conv => lhs; whnf) ?_)
                refine an_end (by kernel_rfl) (hK8 _ ?_); clear hK8
                refine good_ret ?_
                repeat (first | refine thenQ_ret ?_ | refine blockQ_ret ?_)
                refine ex_3 (v := v5) (a := v7) (b := v11) ?hF ?hR
                case hF =>
                  refine fx_many rfl ?_
                  refine fxs_cell tA25 rfl rfl rfl ?_
                  refine fxs_tmp (by conv => lhs; whnf) ?_
                  refine fxs_tmp (by conv => lhs; whnf) ?_
                  refine fx_nil ?_
                  exact ⟨_, .tup (.cons (conv_eq (by first | rfl | exact fAgg1 (by first | rfl | exact ownEq (by first | done | omega | (simp; done)) | (simp_all; done)) (fAgg1 (by first | rfl | exact fI (by first | omega | grind) | (exfalso; first | omega | grind)) (fAgg1 (by first | rfl | exact fI (by first | omega | grind) | (exfalso; first | omega | grind)) (fAgg1 (by first | rfl | exact fI (by first | omega | grind) | (exfalso; first | omega | grind)) (fAgg1 (by first | rfl | exact fI (by first | omega | grind) | (exfalso; first | omega | grind)) (rfl))))))) (.cons (conv_eq (by first | rfl | exact fI (by first | omega | grind) | (exfalso; first | omega | grind))) (.cons (conv_eq (by first | rfl | exact fI (by first | omega | grind) | (exfalso; first | omega | grind))) (.nil)))), weakH_none _, refsIn_ok rfl⟩
                case hR =>
                  exact hi2
        · refine an_k (listed' := #[true, false, true, true, true, false, false]) rfl rfl rfl (k_store sz25 rfl (by conv => lhs; whnf) rfl rfl rfl (Nat.le_of_ble_eq_true rfl) rfl ?_)
          refine an_step [1] (by kernel_rfl) rfl ?_
          refine ⟨?_, trivial⟩
          · refine an_q (listed' := #[true, true, true, true, true, false, false]) rfl rfl rfl (q_move (by conv => lhs; whnf) ?_)
            refine an_step [5] (by kernel_rfl) rfl ?_
            refine ⟨?_, trivial⟩
            · refine an_q (listed' := #[true, true, true, true, true, true, false]) rfl rfl rfl (q_assign (by conv => lhs; whnf) ?_)
              refine an_step [6] (by kernel_rfl) rfl ?_
              refine ⟨?_, trivial⟩
              · refine an_q (listed' := #[true, true, true, true, true, true, true]) rfl rfl rfl (q_assign (by conv => lhs; whnf) ?_)
                refine an_end (by kernel_rfl) (hK8 _ ?_); clear hK8
                refine good_ret ?_
                repeat (first | refine thenQ_ret ?_ | refine blockQ_ret ?_)
                refine ex_3 (v := v5) (a := v7) (b := v11) ?hF ?hR
                case hF =>
                  refine fx_many rfl ?_
                  refine fxs_cell tA25 rfl rfl rfl ?_
                  refine fxs_tmp (by conv => lhs; whnf) ?_
                  refine fxs_tmp (by conv => lhs; whnf) ?_
                  refine fx_nil ?_
                  exact ⟨_, .tup (.cons (conv_eq (by first | rfl | exact fAgg1 (by first | rfl | exact ownEq (by first | done | omega | (simp; done)) | (simp_all; done)) (fAgg1 (by first | rfl | exact fI (by first | omega | grind) | (exfalso; first | omega | grind)) (fAgg1 (by first | rfl | exact fI (by first | omega | grind) | (exfalso; first | omega | grind)) (fAgg1 (by first | rfl | exact fI (by first | omega | grind) | (exfalso; first | omega | grind)) (fAgg1 (by first | rfl | exact fI (by first | omega | grind) | (exfalso; first | omega | grind)) (rfl))))))) (.cons (conv_eq (by first | rfl | exact fI (by first | omega | grind) | (exfalso; first | omega | grind))) (.cons (conv_eq (by first | rfl | exact fI (by first | omega | grind) | (exfalso; first | omega | grind))) (.nil)))), weakH_none _, refsIn_ok rfl⟩
                case hR =>
                  exact hi2
  · refine an_q (listed' := #[false, true, false, false, false, false, false]) rfl rfl rfl (q_move (by conv => lhs; whnf) ?_)
    refine an_step [0, 2] (by kernel_rfl) rfl ?_
    refine ⟨?_, ?_, trivial⟩
    · refine an_q (listed' := #[true, true, false, false, false, false, false]) rfl rfl rfl (q_loadA tA25 rfl rfl rfl ?_)
      refine an_step [2] (by kernel_rfl) rfl ?_
      refine ⟨?_, trivial⟩
      · refine an_q (listed' := #[true, true, true, false, false, false, false]) rfl rfl rfl (q_move (by conv => lhs; whnf) ?_)
        refine an_step [3] (by kernel_rfl) rfl ?_
        refine ⟨?_, trivial⟩
        · refine an_k (listed' := #[true, true, true, true, false, false, false]) rfl rfl rfl (k_callR [(1000000, 900000)] (D_spec_l02DrawFlow cs _ _  hc hb (by omega)) rfl (rfl) (rfl) ⟨rfl, trivial⟩ rfl (by rintro ⟨v12, a12, s12⟩ ⟨hx12_0, hx12_1⟩; exact ⟨⟨rfl, rfl, trivial⟩, rfl⟩) rfl rfl ?_)
          rintro ⟨v12, a12, s12⟩ ⟨hx12_0, hx12_1⟩
          refine an_step [4] (by kernel_rfl) rfl ?_
          refine ⟨?_, trivial⟩
          · refine an_k (listed' := #[true, true, true, true, true, false, false]) rfl rfl rfl (k_store sz25 rfl (by conv => lhs; whnf) rfl rfl rfl (Nat.le_of_ble_eq_true rfl) rfl ?_)
            refine an_step [5] (by kernel_rfl) rfl ?_
            refine ⟨?_, trivial⟩
            · refine an_q (listed' := #[true, true, true, true, true, true, false]) rfl rfl rfl (q_assign (by conv => lhs; whnf) ?_)
              refine an_step [6] (by kernel_rfl) rfl ?_
              refine ⟨?_, trivial⟩
              · refine an_q (listed' := #[true, true, true, true, true, true, true]) rfl rfl rfl (q_assign (by conv => lhs; whnf) ?_)
                refine an_end (by kernel_rfl) (hK8 _ ?_); clear hK8
                refine good_ret ?_
                repeat (first | refine thenQ_ret ?_ | refine blockQ_ret ?_)
                refine ex_3 (v := v5) (a := v7) (b := v12) ?hF ?hR
                case hF =>
                  refine fx_many rfl ?_
                  refine fxs_cell tA25 rfl rfl rfl ?_
                  refine fxs_tmp (by conv => lhs; whnf) ?_
                  refine fxs_tmp (by conv => lhs; whnf) ?_
                  refine fx_nil ?_
                  exact ⟨_, .tup (.cons (conv_eq (by first | rfl | exact fAgg1 (by first | rfl | exact ownEq (by first | done | omega | (simp; done)) | (simp_all; done)) (fAgg1 (by first | rfl | exact fI (by first | omega | grind) | (exfalso; first | omega | grind)) (fAgg1 (by first | rfl | exact fI (by first | omega | grind) | (exfalso; first | omega | grind)) (fAgg1 (by first | rfl | exact fI (by first | omega | grind) | (exfalso; first | omega | grind)) (fAgg1 (by first | rfl | exact fI (by first | omega | grind) | (exfalso; first | omega | grind)) (rfl))))))) (.cons (conv_eq (by first | rfl | exact fI (by first | omega | grind) | (exfalso; first | omega | grind))) (.cons (conv_eq (by first | rfl | exact fI (by first | omega | grind) | (exfalso; first | omega | grind))) (.nil)))), weakH_none _, refsIn_ok rfl⟩
                case hR =>
                  exact hi2
    · refine an_q (listed' := #[false, true, true, false, false, false, false]) rfl rfl rfl (q_move (by conv => lhs; whnf) ?_)
      refine an_step [0, 3] (by kernel_rfl) rfl ?_
      refine ⟨?_, ?_, trivial⟩
      · refine an_q (listed' := #[true, true, true, false, false, false, false]) rfl rfl rfl (q_loadA tA25 rfl rfl rfl ?_)
        refine an_step [3] (by kernel_rfl) rfl ?_
        refine ⟨?_, trivial⟩
        · refine an_k (listed' := #[true, true, true, true, false, false, false]) rfl rfl rfl (k_callR [(1000000, 900000)] (D_spec_l02DrawFlow cs _ _  hc hb (by omega)) rfl (rfl) (rfl) ⟨rfl, trivial⟩ rfl (by rintro ⟨v13, a13, s13⟩ ⟨hx13_0, hx13_1⟩; exact ⟨⟨rfl, rfl, trivial⟩, rfl⟩) rfl rfl ?_)
          rintro ⟨v13, a13, s13⟩ ⟨hx13_0, hx13_1⟩
          refine an_step [4] (by kernel_rfl) rfl ?_
          refine ⟨?_, trivial⟩
          · refine an_k (listed' := #[true, true, true, true, true, false, false]) rfl rfl rfl (k_store sz25 rfl (by conv => lhs; whnf) rfl rfl rfl (Nat.le_of_ble_eq_true rfl) rfl ?_)
            refine an_step [5] (by kernel_rfl) rfl ?_
            refine ⟨?_, trivial⟩
            · refine an_q (listed' := #[true, true, true, true, true, true, false]) rfl rfl rfl (q_assign (by conv => lhs; whnf) ?_)
              refine an_step [6] (by kernel_rfl) rfl ?_
              refine ⟨?_, trivial⟩
              · refine an_q (listed' := #[true, true, true, true, true, true, true]) rfl rfl rfl (q_assign (by conv => lhs; whnf) ?_)
                refine an_end (by kernel_rfl) (hK8 _ ?_); clear hK8
                refine good_ret ?_
                repeat (first | refine thenQ_ret ?_ | refine blockQ_ret ?_)
                refine ex_3 (v := v5) (a := v7) (b := v13) ?hF ?hR
                case hF =>
                  refine fx_many rfl ?_
                  refine fxs_cell tA25 rfl rfl rfl ?_
                  refine fxs_tmp (by conv => lhs; whnf) ?_
                  refine fxs_tmp (by conv => lhs; whnf) ?_
                  refine fx_nil ?_
                  exact ⟨_, .tup (.cons (conv_eq (by first | rfl | exact fAgg1 (by first | rfl | exact ownEq (by first | done | omega | (simp; done)) | (simp_all; done)) (fAgg1 (by first | rfl | exact fI (by first | omega | grind) | (exfalso; first | omega | grind)) (fAgg1 (by first | rfl | exact fI (by first | omega | grind) | (exfalso; first | omega | grind)) (fAgg1 (by first | rfl | exact fI (by first | omega | grind) | (exfalso; first | omega | grind)) (fAgg1 (by first | rfl | exact fI (by first | omega | grind) | (exfalso; first | omega | grind)) (rfl))))))) (.cons (conv_eq (by first | rfl | exact fI (by first | omega | grind) | (exfalso; first | omega | grind))) (.cons (conv_eq (by first | rfl | exact fI (by first | omega | grind) | (exfalso; first | omega | grind))) (.nil)))), weakH_none _, refsIn_ok rfl⟩
                case hR =>
                  exact hi2
      · refine an_k (listed' := #[false, true, true, true, false, false, false]) rfl rfl rfl (k_callR [(1000000, 900000)] (D_spec_l02DrawFlow cs _ _  hc hb (by omega)) rfl (rfl) (rfl) ⟨rfl, trivial⟩ rfl (by rintro ⟨v14, a14, s14⟩ ⟨hx14_0, hx14_1⟩; exact ⟨⟨rfl, rfl, trivial⟩, rfl⟩) rfl rfl ?_)
        rintro ⟨v14, a14, s14⟩ ⟨hx14_0, hx14_1⟩
        refine an_step [0] (by kernel_rfl) rfl ?_
        refine ⟨?_, trivial⟩
        · refine an_q (listed' := #[true, true, true, true, false, false, false]) rfl rfl rfl (q_loadA tA25 rfl rfl rfl ?_)
          refine an_step [4] (by kernel_rfl) rfl ?_
          refine ⟨?_, trivial⟩
          · refine an_k (listed' := #[true, true, true, true, true, false, false]) rfl rfl rfl (k_store sz25 rfl (by conv => lhs; whnf) rfl rfl rfl (Nat.le_of_ble_eq_true rfl) rfl ?_)
            refine an_step [5] (by kernel_rfl) rfl ?_
            refine ⟨?_, trivial⟩
            · refine an_q (listed' := #[true, true, true, true, true, true, false]) rfl rfl rfl (q_assign (by conv => lhs; whnf) ?_)
              refine an_step [6] (by kernel_rfl) rfl ?_
              refine ⟨?_, trivial⟩
              · refine an_q (listed' := #[true, true, true, true, true, true, true]) rfl rfl rfl (q_assign (by conv => lhs; whnf) ?_)
                refine an_end (by kernel_rfl) (hK8 _ ?_); clear hK8
                refine good_ret ?_
                repeat (first | refine thenQ_ret ?_ | refine blockQ_ret ?_)
                refine ex_3 (v := v5) (a := v7) (b := v14) ?hF ?hR
                case hF =>
                  refine fx_many rfl ?_
                  refine fxs_cell tA25 rfl rfl rfl ?_
                  refine fxs_tmp (by conv => lhs; whnf) ?_
                  refine fxs_tmp (by conv => lhs; whnf) ?_
                  refine fx_nil ?_
                  exact ⟨_, .tup (.cons (conv_eq (by first | rfl | exact fAgg1 (by first | rfl | exact ownEq (by first | done | omega | (simp; done)) | (simp_all; done)) (fAgg1 (by first | rfl | exact fI (by first | omega | grind) | (exfalso; first | omega | grind)) (fAgg1 (by first | rfl | exact fI (by first | omega | grind) | (exfalso; first | omega | grind)) (fAgg1 (by first | rfl | exact fI (by first | omega | grind) | (exfalso; first | omega | grind)) (fAgg1 (by first | rfl | exact fI (by first | omega | grind) | (exfalso; first | omega | grind)) (rfl))))))) (.cons (conv_eq (by first | rfl | exact fI (by first | omega | grind) | (exfalso; first | omega | grind))) (.cons (conv_eq (by first | rfl | exact fI (by first | omega | grind) | (exfalso; first | omega | grind))) (.nil)))), weakH_none _, refsIn_ok rfl⟩
                case hR =>
                  exact hi2
  · refine an_q (listed' := #[false, false, true, false, false, false, false]) rfl rfl rfl (q_move (by conv => lhs; whnf) ?_)
    refine an_step [0, 1, 3] (by kernel_rfl) rfl ?_
    refine ⟨?_, ?_, ?_, trivial⟩
    · refine an_q (listed' := #[true, false, true, false, false, false, false]) rfl rfl rfl (q_loadA tA25 rfl rfl rfl ?_)
      refine an_step [1, 3] (by kernel_rfl) rfl ?_
      refine ⟨?_, ?_, trivial⟩
      · refine an_q (listed' := #[true, true, true, false, false, false, false]) rfl rfl rfl (q_move (by conv => lhs; whnf) ?_)
        refine an_step [3] (by kernel_rfl) rfl ?_
        refine ⟨?_, trivial⟩
        · refine an_k (listed' := #[true, true, true, true, false, false, false]) rfl rfl rfl (k_callR [(1000000, 900000)] (D_spec_l02DrawFlow cs _ _  hc hb (by omega)) rfl (rfl) (rfl) ⟨rfl, trivial⟩ rfl (by rintro ⟨v15, a15, s15⟩ ⟨hx15_0, hx15_1⟩; exact ⟨⟨rfl, rfl, trivial⟩, rfl⟩) rfl rfl ?_)
          rintro ⟨v15, a15, s15⟩ ⟨hx15_0, hx15_1⟩
          refine an_step [4] (by kernel_rfl) rfl ?_
          refine ⟨?_, trivial⟩
          · refine an_k (listed' := #[true, true, true, true, true, false, false]) rfl rfl rfl (k_store sz25 rfl (by conv => lhs; whnf) rfl rfl rfl (Nat.le_of_ble_eq_true rfl) rfl ?_)
            refine an_step [5] (by kernel_rfl) rfl ?_
            refine ⟨?_, trivial⟩
            · refine an_q (listed' := #[true, true, true, true, true, true, false]) rfl rfl rfl (q_assign (by conv => lhs; whnf) ?_)
              refine an_step [6] (by kernel_rfl) rfl ?_
              refine ⟨?_, trivial⟩
              · refine an_q (listed' := #[true, true, true, true, true, true, true]) rfl rfl rfl (q_assign (by conv => lhs; whnf) ?_)
                refine an_end (by kernel_rfl) (hK8 _ ?_); clear hK8
                refine good_ret ?_
                repeat (first | refine thenQ_ret ?_ | refine blockQ_ret ?_)
                refine ex_3 (v := v5) (a := v7) (b := v15) ?hF ?hR
                case hF =>
                  refine fx_many rfl ?_
                  refine fxs_cell tA25 rfl rfl rfl ?_
                  refine fxs_tmp (by conv => lhs; whnf) ?_
                  refine fxs_tmp (by conv => lhs; whnf) ?_
                  refine fx_nil ?_
                  exact ⟨_, .tup (.cons (conv_eq (by first | rfl | exact fAgg1 (by first | rfl | exact ownEq (by first | done | omega | (simp; done)) | (simp_all; done)) (fAgg1 (by first | rfl | exact fI (by first | omega | grind) | (exfalso; first | omega | grind)) (fAgg1 (by first | rfl | exact fI (by first | omega | grind) | (exfalso; first | omega | grind)) (fAgg1 (by first | rfl | exact fI (by first | omega | grind) | (exfalso; first | omega | grind)) (fAgg1 (by first | rfl | exact fI (by first | omega | grind) | (exfalso; first | omega | grind)) (rfl))))))) (.cons (conv_eq (by first | rfl | exact fI (by first | omega | grind) | (exfalso; first | omega | grind))) (.cons (conv_eq (by first | rfl | exact fI (by first | omega | grind) | (exfalso; first | omega | grind))) (.nil)))), weakH_none _, refsIn_ok rfl⟩
                case hR =>
                  exact hi2
      · refine an_k (listed' := #[true, false, true, true, false, false, false]) rfl rfl rfl (k_callR [(1000000, 900000)] (D_spec_l02DrawFlow cs _ _  hc hb (by omega)) rfl (rfl) (rfl) ⟨rfl, trivial⟩ rfl (by rintro ⟨v16, a16, s16⟩ ⟨hx16_0, hx16_1⟩; exact ⟨⟨rfl, rfl, trivial⟩, rfl⟩) rfl rfl ?_)
        rintro ⟨v16, a16, s16⟩ ⟨hx16_0, hx16_1⟩
        refine an_step [1, 4] (by kernel_rfl) rfl ?_
        refine ⟨?_, ?_, trivial⟩
        · refine an_q (listed' := #[true, true, true, true, false, false, false]) rfl rfl rfl (q_move (by conv => lhs; whnf) ?_)
          refine an_step [4] (by kernel_rfl) rfl ?_
          refine ⟨?_, trivial⟩
          · refine an_k (listed' := #[true, true, true, true, true, false, false]) rfl rfl rfl (k_store sz25 rfl (by conv => lhs; whnf) rfl rfl rfl (Nat.le_of_ble_eq_true rfl) rfl ?_)
            refine an_step [5] (by kernel_rfl) rfl ?_
            refine ⟨?_, trivial⟩
            · refine an_q (listed' := #[true, true, true, true, true, true, false]) rfl rfl rfl (q_assign (by conv => lhs; whnf) ?_)
              refine an_step [6] (by kernel_rfl) rfl ?_
              refine ⟨?_, trivial⟩
              · refine an_q (listed' := #[true, true, true, true, true, true, true]) rfl rfl rfl (q_assign (by conv => lhs; whnf) ?_)
                refine an_end (by kernel_rfl) (hK8 _ ?_); clear hK8
                refine good_ret ?_
                repeat (first | refine thenQ_ret ?_ | refine blockQ_ret ?_)
                refine ex_3 (v := v5) (a := v7) (b := v16) ?hF ?hR
                case hF =>
                  refine fx_many rfl ?_
                  refine fxs_cell tA25 rfl rfl rfl ?_
                  refine fxs_tmp (by conv => lhs; whnf) ?_
                  refine fxs_tmp (by conv => lhs; whnf) ?_
                  refine fx_nil ?_
                  exact ⟨_, .tup (.cons (conv_eq (by first | rfl | exact fAgg1 (by first | rfl | exact ownEq (by first | done | omega | (simp; done)) | (simp_all; done)) (fAgg1 (by first | rfl | exact fI (by first | omega | grind) | (exfalso; first | omega | grind)) (fAgg1 (by first | rfl | exact fI (by first | omega | grind) | (exfalso; first | omega | grind)) (fAgg1 (by first | rfl | exact fI (by first | omega | grind) | (exfalso; first | omega | grind)) (fAgg1 (by first | rfl | exact fI (by first | omega | grind) | (exfalso; first | omega | grind)) (rfl))))))) (.cons (conv_eq (by first | rfl | exact fI (by first | omega | grind) | (exfalso; first | omega | grind))) (.cons (conv_eq (by first | rfl | exact fI (by first | omega | grind) | (exfalso; first | omega | grind))) (.nil)))), weakH_none _, refsIn_ok rfl⟩
                case hR =>
                  exact hi2
        · refine an_k (listed' := #[true, false, true, true, true, false, false]) rfl rfl rfl (k_store sz25 rfl (by conv => lhs; whnf) rfl rfl rfl (Nat.le_of_ble_eq_true rfl) rfl ?_)
          refine an_step [1] (by kernel_rfl) rfl ?_
          refine ⟨?_, trivial⟩
          · refine an_q (listed' := #[true, true, true, true, true, false, false]) rfl rfl rfl (q_move (by conv => lhs; whnf) ?_)
            refine an_step [5] (by kernel_rfl) rfl ?_
            refine ⟨?_, trivial⟩
            · refine an_q (listed' := #[true, true, true, true, true, true, false]) rfl rfl rfl (q_assign (by conv => lhs; whnf) ?_)
              refine an_step [6] (by kernel_rfl) rfl ?_
              refine ⟨?_, trivial⟩
              · refine an_q (listed' := #[true, true, true, true, true, true, true]) rfl rfl rfl (q_assign (by conv => lhs; whnf) ?_)
                refine an_end (by kernel_rfl) (hK8 _ ?_); clear hK8
                refine good_ret ?_
                repeat (first | refine thenQ_ret ?_ | refine blockQ_ret ?_)
                refine ex_3 (v := v5) (a := v7) (b := v16) ?hF ?hR
                case hF =>
                  refine fx_many rfl ?_
                  refine fxs_cell tA25 rfl rfl rfl ?_
                  refine fxs_tmp (by conv => lhs; whnf) ?_
                  refine fxs_tmp (by conv => lhs; whnf) ?_
                  refine fx_nil ?_
                  exact ⟨_, .tup (.cons (conv_eq (by first | rfl | exact fAgg1 (by first | rfl | exact ownEq (by first | done | omega | (simp; done)) | (simp_all; done)) (fAgg1 (by first | rfl | exact fI (by first | omega | grind) | (exfalso; first | omega | grind)) (fAgg1 (by first | rfl | exact fI (by first | omega | grind) | (exfalso; first | omega | grind)) (fAgg1 (by first | rfl | exact fI (by first | omega | grind) | (exfalso; first | omega | grind)) (fAgg1 (by first | rfl | exact fI (by first | omega | grind) | (exfalso; first | omega | grind)) (rfl))))))) (.cons (conv_eq (by first | rfl | exact fI (by first | omega | grind) | (exfalso; first | omega | grind))) (.cons (conv_eq (by first | rfl | exact fI (by first | omega | grind) | (exfalso; first | omega | grind))) (.nil)))), weakH_none _, refsIn_ok rfl⟩
                case hR =>
                  exact hi2
    · refine an_q (listed' := #[false, true, true, false, false, false, false]) rfl rfl rfl (q_move (by conv => lhs; whnf) ?_)
      refine an_step [0, 3] (by kernel_rfl) rfl ?_
      refine ⟨?_, ?_, trivial⟩
      · refine an_q (listed' := #[true, true, true, false, false, false, false]) rfl rfl rfl (q_loadA tA25 rfl rfl rfl ?_)
        refine an_step [3] (by kernel_rfl) rfl ?_
        refine ⟨?_, trivial⟩
        · refine an_k (listed' := #[true, true, true, true, false, false, false]) rfl rfl rfl (k_callR [(1000000, 900000)] (D_spec_l02DrawFlow cs _ _  hc hb (by omega)) rfl (rfl) (rfl) ⟨rfl, trivial⟩ rfl (by rintro ⟨v17, a17, s17⟩ ⟨hx17_0, hx17_1⟩; exact ⟨⟨rfl, rfl, trivial⟩, rfl⟩) rfl rfl ?_)
          rintro ⟨v17, a17, s17⟩ ⟨hx17_0, hx17_1⟩
          refine an_step [4] (by kernel_rfl) rfl ?_
          refine ⟨?_, trivial⟩
          · refine an_k (listed' := #[true, true, true, true, true, false, false]) rfl rfl rfl (k_store sz25 rfl (by conv => lhs; whnf) rfl rfl rfl (Nat.le_of_ble_eq_true rfl) rfl ?_)
            refine an_step [5] (by kernel_rfl) rfl ?_
            refine ⟨?_, trivial⟩
            · refine an_q (listed' := #[true, true, true, true, true, true, false]) rfl rfl rfl (q_assign (by conv => lhs; whnf) ?_)
              refine an_step [6] (by kernel_rfl) rfl ?_
              refine ⟨?_, trivial⟩
              · refine an_q (listed' := #[true, true, true, true, true, true, true]) rfl rfl rfl (q_assign (by conv => lhs; whnf) ?_)
                refine an_end (by kernel_rfl) (hK8 _ ?_); clear hK8
                refine good_ret ?_
                repeat (first | refine thenQ_ret ?_ | refine blockQ_ret ?_)
                refine ex_3 (v := v5) (a := v7) (b := v17) ?hF ?hR
                case hF =>
                  refine fx_many rfl ?_
                  refine fxs_cell tA25 rfl rfl rfl ?_
                  refine fxs_tmp (by conv => lhs; whnf) ?_
                  refine fxs_tmp (by conv => lhs; whnf) ?_
                  refine fx_nil ?_
                  exact ⟨_, .tup (.cons (conv_eq (by first | rfl | exact fAgg1 (by first | rfl | exact ownEq (by first | done | omega | (simp; done)) | (simp_all; done)) (fAgg1 (by first | rfl | exact fI (by first | omega | grind) | (exfalso; first | omega | grind)) (fAgg1 (by first | rfl | exact fI (by first | omega | grind) | (exfalso; first | omega | grind)) (fAgg1 (by first | rfl | exact fI (by first | omega | grind) | (exfalso; first | omega | grind)) (fAgg1 (by first | rfl | exact fI (by first | omega | grind) | (exfalso; first | omega | grind)) (rfl))))))) (.cons (conv_eq (by first | rfl | exact fI (by first | omega | grind) | (exfalso; first | omega | grind))) (.cons (conv_eq (by first | rfl | exact fI (by first | omega | grind) | (exfalso; first | omega | grind))) (.nil)))), weakH_none _, refsIn_ok rfl⟩
                case hR =>
                  exact hi2
      · refine an_k (listed' := #[false, true, true, true, false, false, false]) rfl rfl rfl (k_callR [(1000000, 900000)] (D_spec_l02DrawFlow cs _ _  hc hb (by omega)) rfl (rfl) (rfl) ⟨rfl, trivial⟩ rfl (by rintro ⟨v18, a18, s18⟩ ⟨hx18_0, hx18_1⟩; exact ⟨⟨rfl, rfl, trivial⟩, rfl⟩) rfl rfl ?_)
        rintro ⟨v18, a18, s18⟩ ⟨hx18_0, hx18_1⟩
        refine an_step [0] (by kernel_rfl) rfl ?_
        refine ⟨?_, trivial⟩
        · refine an_q (listed' := #[true, true, true, true, false, false, false]) rfl rfl rfl (q_loadA tA25 rfl rfl rfl ?_)
          refine an_step [4] (by kernel_rfl) rfl ?_
          refine ⟨?_, trivial⟩
          · refine an_k (listed' := #[true, true, true, true, true, false, false]) rfl rfl rfl (k_store sz25 rfl (by conv => lhs; whnf) rfl rfl rfl (Nat.le_of_ble_eq_true rfl) rfl ?_)
            refine an_step [5] (by kernel_rfl) rfl ?_
            refine ⟨?_, trivial⟩
            · refine an_q (listed' := #[true, true, true, true, true, true, false]) rfl rfl rfl (q_assign (by conv => lhs; whnf) ?_)
              refine an_step [6] (by kernel_rfl) rfl ?_
              refine ⟨?_, trivial⟩
              · refine an_q (listed' := #[true, true, true, true, true, true, true]) rfl rfl rfl (q_assign (by conv => lhs; whnf) ?_)
                refine an_end (by kernel_rfl) (hK8 _ ?_); clear hK8
                refine good_ret ?_
                repeat (first | refine thenQ_ret ?_ | refine blockQ_ret ?_)
                refine ex_3 (v := v5) (a := v7) (b := v18) ?hF ?hR
                case hF =>
                  refine fx_many rfl ?_
                  refine fxs_cell tA25 rfl rfl rfl ?_
                  refine fxs_tmp (by conv => lhs; whnf) ?_
                  refine fxs_tmp (by conv => lhs; whnf) ?_
                  refine fx_nil ?_
                  exact ⟨_, .tup (.cons (conv_eq (by first | rfl | exact fAgg1 (by first | rfl | exact ownEq (by first | done | omega | (simp; done)) | (simp_all; done)) (fAgg1 (by first | rfl | exact fI (by first | omega | grind) | (exfalso; first | omega | grind)) (fAgg1 (by first | rfl | exact fI (by first | omega | grind) | (exfalso; first | omega | grind)) (fAgg1 (by first | rfl | exact fI (by first | omega | grind) | (exfalso; first | omega | grind)) (fAgg1 (by first | rfl | exact fI (by first | omega | grind) | (exfalso; first | omega | grind)) (rfl))))))) (.cons (conv_eq (by first | rfl | exact fI (by first | omega | grind) | (exfalso; first | omega | grind))) (.cons (conv_eq (by first | rfl | exact fI (by first | omega | grind) | (exfalso; first | omega | grind))) (.nil)))), weakH_none _, refsIn_ok rfl⟩
                case hR =>
                  exact hi2
    · refine an_k (listed' := #[false, false, true, true, false, false, false]) rfl rfl rfl (k_callR [(1000000, 900000)] (D_spec_l02DrawFlow cs _ _  hc hb (by omega)) rfl (rfl) (rfl) ⟨rfl, trivial⟩ rfl (by rintro ⟨v19, a19, s19⟩ ⟨hx19_0, hx19_1⟩; exact ⟨⟨rfl, rfl, trivial⟩, rfl⟩) rfl rfl ?_)
      rintro ⟨v19, a19, s19⟩ ⟨hx19_0, hx19_1⟩
      refine an_step [0, 1] (by kernel_rfl) rfl ?_
      refine ⟨?_, ?_, trivial⟩
      · refine an_q (listed' := #[true, false, true, true, false, false, false]) rfl rfl rfl (q_loadA tA25 rfl rfl rfl ?_)
        refine an_step [1, 4] (by kernel_rfl) rfl ?_
        refine ⟨?_, ?_, trivial⟩
        · refine an_q (listed' := #[true, true, true, true, false, false, false]) rfl rfl rfl (q_move (by conv => lhs; whnf) ?_)
          refine an_step [4] (by kernel_rfl) rfl ?_
          refine ⟨?_, trivial⟩
          · refine an_k (listed' := #[true, true, true, true, true, false, false]) rfl rfl rfl (k_store sz25 rfl (by conv => lhs; whnf) rfl rfl rfl (Nat.le_of_ble_eq_true rfl) rfl ?_)
            refine an_step [5] (by kernel_rfl) rfl ?_
            refine ⟨?_, trivial⟩
            · refine an_q (listed' := #[true, true, true, true, true, true, false]) rfl rfl rfl (q_assign (by conv => lhs; whnf) ?_)
              refine an_step [6] (by kernel_rfl) rfl ?_
              refine ⟨?_, trivial⟩
              · refine an_q (listed' := #[true, true, true, true, true, true, true]) rfl rfl rfl (q_assign (by conv => lhs; whnf) ?_)
                refine an_end (by kernel_rfl) (hK8 _ ?_); clear hK8
                refine good_ret ?_
                repeat (first | refine thenQ_ret ?_ | refine blockQ_ret ?_)
                refine ex_3 (v := v5) (a := v7) (b := v19) ?hF ?hR
                case hF =>
                  refine fx_many rfl ?_
                  refine fxs_cell tA25 rfl rfl rfl ?_
                  refine fxs_tmp (by conv => lhs; whnf) ?_
                  refine fxs_tmp (by conv => lhs; whnf) ?_
                  refine fx_nil ?_
                  exact ⟨_, .tup (.cons (conv_eq (by first | rfl | exact fAgg1 (by first | rfl | exact ownEq (by first | done | omega | (simp; done)) | (simp_all; done)) (fAgg1 (by first | rfl | exact fI (by first | omega | grind) | (exfalso; first | omega | grind)) (fAgg1 (by first | rfl | exact fI (by first | omega | grind) | (exfalso; first | omega | grind)) (fAgg1 (by first | rfl | exact fI (by first | omega | grind) | (exfalso; first | omega | grind)) (fAgg1 (by first | rfl | exact fI (by first | omega | grind) | (exfalso; first | omega | grind)) (rfl))))))) (.cons (conv_eq (by first | rfl | exact fI (by first | omega | grind) | (exfalso; first | omega | grind))) (.cons (conv_eq (by first | rfl | exact fI (by first | omega | grind) | (exfalso; first | omega | grind))) (.nil)))), weakH_none _, refsIn_ok rfl⟩
                case hR =>
                  exact hi2
        · refine an_k (listed' := #[true, false, true, true, true, false, false]) rfl rfl rfl (k_store sz25 rfl (by conv => lhs; whnf) rfl rfl rfl (Nat.le_of_ble_eq_true rfl) rfl ?_)
          refine an_step [1] (by kernel_rfl) rfl ?_
          refine ⟨?_, trivial⟩
          · refine an_q (listed' := #[true, true, true, true, true, false, false]) rfl rfl rfl (q_move (by conv => lhs; whnf) ?_)
            refine an_step [5] (by kernel_rfl) rfl ?_
            refine ⟨?_, trivial⟩
            · refine an_q (listed' := #[true, true, true, true, true, true, false]) rfl rfl rfl (q_assign (by conv => lhs; whnf) ?_)
              refine an_step [6] (by kernel_rfl) rfl ?_
              refine ⟨?_, trivial⟩
              · refine an_q (listed' := #[true, true, true, true, true, true, true]) rfl rfl rfl (q_assign (by conv => lhs; whnf) ?_)
                refine an_end (by kernel_rfl) (hK8 _ ?_); clear hK8
                refine good_ret ?_
                repeat (first | refine thenQ_ret ?_ | refine blockQ_ret ?_)
                refine ex_3 (v := v5) (a := v7) (b := v19) ?hF ?hR
                case hF =>
                  refine fx_many rfl ?_
                  refine fxs_cell tA25 rfl rfl rfl ?_
                  refine fxs_tmp (by conv => lhs; whnf) ?_
                  refine fxs_tmp (by conv => lhs; whnf) ?_
                  refine fx_nil ?_
                  exact ⟨_, .tup (.cons (conv_eq (by first | rfl | exact fAgg1 (by first | rfl | exact ownEq (by first | done | omega | (simp; done)) | (simp_all; done)) (fAgg1 (by first | rfl | exact fI (by first | omega | grind) | (exfalso; first | omega | grind)) (fAgg1 (by first | rfl | exact fI (by first | omega | grind) | (exfalso; first | omega | grind)) (fAgg1 (by first | rfl | exact fI (by first | omega | grind) | (exfalso; first | omega | grind)) (fAgg1 (by first | rfl | exact fI (by first | omega | grind) | (exfalso; first | omega | grind)) (rfl))))))) (.cons (conv_eq (by first | rfl | exact fI (by first | omega | grind) | (exfalso; first | omega | grind))) (.cons (conv_eq (by first | rfl | exact fI (by first | omega | grind) | (exfalso; first | omega | grind))) (.nil)))), weakH_none _, refsIn_ok rfl⟩
                case hR =>
                  exact hi2
      · refine an_q (listed' := #[false, true, true, true, false, false, false]) rfl rfl rfl (q_move (by conv => lhs; whnf) ?_)
        refine an_step [0] (by kernel_rfl) rfl ?_
        refine ⟨?_, trivial⟩
        · refine an_q (listed' := #[true, true, true, true, false, false, false]) rfl rfl rfl (q_loadA tA25 rfl rfl rfl ?_)
          refine an_step [4] (by kernel_rfl) rfl ?_
          refine ⟨?_, trivial⟩
          · refine an_k (listed' := #[true, true, true, true, true, false, false]) rfl rfl rfl (k_store sz25 rfl (by conv => lhs; whnf) rfl rfl rfl (Nat.le_of_ble_eq_true rfl) rfl ?_)
            refine an_step [5] (by kernel_rfl) rfl ?_
            refine ⟨?_, trivial⟩
            · refine an_q (listed' := #[true, true, true, true, true, true, false]) rfl rfl rfl (q_assign (by conv => lhs; whnf) ?_)
              refine an_step [6] (by kernel_rfl) rfl ?_
              refine ⟨?_, trivial⟩
              · refine an_q (listed' := #[true, true, true, true, true, true, true]) rfl rfl rfl (q_assign (by conv => lhs; whnf) ?_)
                refine an_end (by kernel_rfl) (hK8 _ ?_); clear hK8
                refine good_ret ?_
                repeat (first | refine thenQ_ret ?_ | refine blockQ_ret ?_)
                refine ex_3 (v := v5) (a := v7) (b := v19) ?hF ?hR
                case hF =>
                  refine fx_many rfl ?_
                  refine fxs_cell tA25 rfl rfl rfl ?_
                  refine fxs_tmp (by conv => lhs; whnf) ?_
                  refine fxs_tmp (by conv => lhs; whnf) ?_
                  refine fx_nil ?_
                  exact ⟨_, .tup (.cons (conv_eq (by first | rfl | exact fAgg1 (by first | rfl | exact ownEq (by first | done | omega | (simp; done)) | (simp_all; done)) (fAgg1 (by first | rfl | exact fI (by first | omega | grind) | (exfalso; first | omega | grind)) (fAgg1 (by first | rfl | exact fI (by first | omega | grind) | (exfalso; first | omega | grind)) (fAgg1 (by first | rfl | exact fI (by first | omega | grind) | (exfalso; first | omega | grind)) (fAgg1 (by first | rfl | exact fI (by first | omega | grind) | (exfalso; first | omega | grind)) (rfl))))))) (.cons (conv_eq (by first | rfl | exact fI (by first | omega | grind) | (exfalso; first | omega | grind))) (.cons (conv_eq (by first | rfl | exact fI (by first | omega | grind) | (exfalso; first | omega | grind))) (.nil)))), weakH_none _, refsIn_ok rfl⟩
                case hR =>
                  exact hi2

-- laws.b10Long
set_option maxRecDepth 20000 in
set_option maxHeartbeats 2000000 in
theorem D_laws_b10Long (cs : List Int)  : Den Tryz.prog 5 [.lst 1 (cs.map cb)] (.s (.bool (decide ((cs.length : Int) > 1048576)))) := by
  refine den_of_good Tryz.func5 (by decide) rfl (Nat.le_of_ble_eq_true rfl) (Nat.le_of_ble_eq_true rfl) ?_
  refine good_seq fun K1 hK1 => ?_
  refine good_region rfl ?_
  refine ev_q rfl (q_assign (by conv => lhs; whnf) ?_)
  refine ev_nil (hK1 _ ?_); clear hK1
  refine good_seq fun K2 hK2 => ?_
  refine good_region rfl ?_
  refine ev_q rfl (q_move (by conv => lhs; whnf) ?_)
  refine ev_q rfl (q_len tEs22 rfl ?_)
  intro n3 hn3
  try simp only [List.length_map] at hn3
  refine ev_q rfl (q_int rfl rfl ?_)
  intro b4 hb4; cases b4
  · replace hb4 := dF hb4
    refine ev_q rfl (q_assign (by conv => lhs; whnf) ?_)
    refine ev_nil (hK2 _ ?_); clear hK2
    refine good_ret ?_
    repeat (first | refine thenQ_ret ?_ | refine blockQ_ret ?_)
    refine ret_tmp (st := _) rfl (by conv => lhs; whnf) rfl ?_
    first | exact fT (by omega) | exact fF (by omega)
  · replace hb4 := dT hb4
    refine ev_q rfl (q_assign (by conv => lhs; whnf) ?_)
    refine ev_nil (hK2 _ ?_); clear hK2
    refine good_ret ?_
    repeat (first | refine thenQ_ret ?_ | refine blockQ_ret ?_)
    refine ret_tmp (st := _) rfl (by conv => lhs; whnf) rfl ?_
    first | exact fT (by omega) | exact fF (by omega)

-- laws.b10Div
set_option maxRecDepth 20000 in
set_option maxHeartbeats 2000000 in
theorem D_laws_b10Div (a : Int) (ha : 0 ≤ a ∧ a ≤ 4000000000) : Den Tryz.prog 11 [.s (.int .i64 a), .s (.int .i64 100)] (.s (.int .i64 (dr a 100))) := by
  refine den_of_good Tryz.func11 (by decide) rfl (Nat.le_of_ble_eq_true rfl) (Nat.le_of_ble_eq_true rfl) ?_
  refine good_seq fun K1 hK1 => ?_
  refine good_region rfl ?_
  refine ev_q rfl (q_assign (by conv => lhs; whnf) ?_)
  refine ev_nil (hK1 _ ?_); clear hK1
  refine good_seq fun K2 hK2 => ?_
  refine good_seq fun K3 hK3 => ?_
  refine good_region rfl ?_
  refine ev_q rfl (q_move (by conv => lhs; whnf) ?_)
  refine ev_q rfl (q_int rfl rfl ?_)
  intro b4 hb4; cases b4
  · replace hb4 := dF hb4
    refine ev_nil (hK3 _ ?_); clear hK3
    refine good_condF rfl ?_
    refine good_skip (hK2 _ ?_); clear hK2
    refine good_seq fun K5 hK5 => ?_
    refine good_region rfl ?_
    refine ev_q rfl (q_move (by conv => lhs; whnf) ?_)
    refine ev_q rfl (q_int rfl rfl ?_)
    intro n6 hn6
    replace hn6 := in64 hn6 (by omega) (by omega)
    refine ev_q rfl (q_move (by conv => lhs; whnf) ?_)
    refine ev_q rfl (q_int rfl rfl ?_)
    intro n7 hn7
    replace hn7 := in64 hn7 (by omega) (by omega)
    refine ev_q rfl (q_move (by conv => lhs; whnf) ?_)
    refine ev_q rfl (q_int rfl rfl ?_)
    intro n8 hn8
    replace hn8 := in64 hn8 (by omega) (by omega)
    refine ev_q rfl (q_int rfl rfl ⟨by omega, ?_⟩)
    intro n9 hn9
    replace hn9 := quoE hn9 (by omega) (by omega)
    have e17 : n8 = 200 := by omega
    rw [e17] at hn9
    refine ev_q rfl (q_assign (by conv => lhs; whnf) ?_)
    refine ev_nil (hK5 _ ?_); clear hK5
    refine good_ret ?_
    repeat (first | refine thenQ_ret ?_ | refine blockQ_ret ?_)
    refine ret_tmp (st := _) rfl (by conv => lhs; whnf) rfl ?_
    first | exact fI (by rw [dr_nnP ha.1]; first | (done) | omega) | (exfalso; omega)
  · replace hb4 := dT hb4
    refine ev_nil (hK3 _ ?_); clear hK3
    refine good_condT rfl ?_
    refine good_seq fun K10 hK10 => ?_
    refine good_region rfl ?_
    refine ev_q rfl (q_move (by conv => lhs; whnf) ?_)
    refine ev_q rfl (q_neg rfl ?_)
    intro n11 hn11
    replace hn11 := neg64 hn11 (by omega) (by omega)
    refine ev_q rfl (q_move (by conv => lhs; whnf) ?_)
    refine ev_q rfl (q_callI rfl rfl (rfl) (show Den _ _ [.s (.int .i64 n11), .s (.int .i64 100)] (.s (.int .i64 0)) from False.elim (by omega)) ?_)
    intro n12 hn12
    refine ev_q rfl (q_neg rfl ?_)
    intro n13 hn13
    replace hn13 := neg64 hn13 (by omega) (by omega)
    refine ev_q rfl (q_assign (by conv => lhs; whnf) ?_)
    refine ev_nil (hK10 _ ?_); clear hK10
    refine good_ret ?_
    repeat (first | refine thenQ_ret ?_ | refine blockQ_ret ?_)
    refine ret_tmp (st := _) rfl (by conv => lhs; whnf) rfl ?_
    clear hK2
    first | exact fI (by rw [dr_nnP ha.1]; first | (done) | omega) | (exfalso; omega)

-- laws.b10Has
set_option maxRecDepth 20000 in
set_option maxHeartbeats 2000000 in
theorem D_laws_b10Has (xs : List Int) (x : Int) (hx : xs.length ≤ 17592186044416) : Den Tryz.prog 18 [.lst 1 (xs.map ci), .s (.int .i64 x)] (.s (.bool (decide (x ∈ xs)))) := by
  refine den_of_good Tryz.func18 (by decide) rfl (Nat.le_of_ble_eq_true rfl) (Nat.le_of_ble_eq_true rfl) ?_
  refine good_seq fun K1 hK1 => ?_
  refine good_region rfl ?_
  refine ev_q rfl (q_assign (by conv => lhs; whnf) ?_)
  refine ev_nil (hK1 _ ?_); clear hK1
  refine good_seq fun K2 hK2 => ?_
  refine good_seq fun K3 hK3 => ?_
  refine good_region rfl ?_
  refine ev_q rfl (q_assign (by conv => lhs; whnf) ?_)
  refine ev_nil (hK3 _ ?_); clear hK3
  refine good_block ?_
  refine good_loop (α := Nat) (fun i => { env := upd (upd (upd ((fun _ => .junk)) 0 (.lst 1 (xs.map ci))) 1 (.s (.int .i64 x))) 5 (.s (.int .i64 i)), H := fun _ => none }) (fun i => i ≤ xs.length ∧ ∀ j q, j < i → xs[j]? = some q → ¬ q = x) (fun i => xs.length - i) 0 ?_ ?_ ?_
  · exact ⟨by omega, fun j u hj => by omega⟩
  · refine sub_weak ?_ ?_
    · exact weakH_none _
    · refine weakE_upd ?e5 ?r5 (weakE_upd ?e1 ?r1 (weakE_upd ?e0 ?r0 (weakE_junk _ _)))
      case e0 => first | rfl | exact fI (by omega) | (simp_all)
      case r0 => intro h hh; cases hh
      case e1 => first | rfl | exact fI (by omega) | (simp_all)
      case r1 => intro h hh; cases hh
      case e5 => first | rfl | exact fI (by omega) | (simp_all)
      case r5 => intro h hh; cases hh
  · rintro i ⟨hI, hJ⟩
    refine good_seq fun K4 hK4 => ?_
    refine good_seq fun K5 hK5 => ?_
    refine good_region rfl ?_
    refine ev_q rfl (q_move (by conv => lhs; whnf) ?_)
    refine ev_q rfl (q_move (by conv => lhs; whnf) ?_)
    refine ev_q rfl (q_len tEs36 rfl ?_)
    intro n6 hn6
    try simp only [List.length_map] at hn6
    refine ev_q rfl (q_int rfl rfl ?_)
    intro b7 hb7; cases b7
    · replace hb7 := dF hb7
      refine ev_nil (hK5 _ ?_); clear hK5
      refine good_condF rfl ?_
      refine good_exit ?_
      repeat (first | refine thenQ_exit ?_ | refine blockQ_pass rfl ?_)
      refine blockQ_exit (hK2 _ ?_); clear hK2
      refine good_seq fun K8 hK8 => ?_
      refine good_region rfl ?_
      refine ev_q rfl (q_assign (by conv => lhs; whnf) ?_)
      refine ev_nil (hK8 _ ?_); clear hK8
      refine good_ret ?_
      repeat (first | refine thenQ_ret ?_ | refine blockQ_ret ?_)
      refine ret_tmp (st := _) rfl (by conv => lhs; whnf) rfl ?_
      clear hK4
      first | exact fT (by have e : p = x := (by omega); subst e; exact List.mem_of_getElem? hp) | exact fF (fun hm => by obtain ⟨j, hj⟩ := List.getElem?_of_mem hm; exact hJ j _ (by have := (List.getElem?_eq_some_iff.1 hj).1; omega) hj rfl)
    · replace hb7 := dT hb7
      obtain ⟨p, hp⟩ := getL (xs := xs) (n := (i : Int)) (by omega) (by omega)
      replace hp : xs[i]? = some p := hp
      refine ev_nil (hK5 _ ?_); clear hK5
      refine good_condT rfl ?_
      refine good_skip (hK4 _ ?_); clear hK4
      refine good_seq fun K9 hK9 => ?_
      refine good_block ?_
      refine good_seq fun K10 hK10 => ?_
      refine good_region rfl ?_
      refine ev_q rfl (q_move (by conv => lhs; whnf) ?_)
      refine ev_q rfl (q_move (by conv => lhs; whnf) ?_)
      refine ev_q rfl (q_idx tE36 rfl rfl (by exact Int.natCast_nonneg _) (by exact map_get hp) rfl ?_)
      refine ev_q rfl (q_load tA2 rfl ?_)
      refine ev_q rfl (q_move (by conv => lhs; whnf) ?_)
      refine ev_q rfl (q_int rfl rfl ?_)
      intro b11 hb11; cases b11
      · replace hb11 := eqF hb11
        refine ev_nil (hK10 _ ?_); clear hK10
        refine good_condF rfl ?_
        refine good_skip (hK9 _ ?_); clear hK9
        refine good_region rfl ?_
        refine ev_q rfl (q_move (by conv => lhs; whnf) ?_)
        refine ev_q rfl (q_int rfl rfl ?_)
        intro n12 hn12
        replace hn12 := in64 hn12 (by omega) (by omega)
        refine ev_q rfl (q_assign (by conv => lhs; whnf) ?_)
        refine ev_nil ?_
        clear hK2
        refine ⟨i + 1, ?_, ?_, ?_⟩
        · exact ⟨by omega, all_extI (Q := fun _ q => ¬ q = x) hJ hp (by omega)⟩
        · first | omega | (simp only []; omega) | (dsimp only; omega)
        · refine sub_weak ?_ ?_
          · exact weakH_none _
          · refine weakE_upd ?e5 ?r5 (weakE_upd ?e1 ?r1 (weakE_upd ?e0 ?r0 (weakE_junk _ _)))
            case e0 => first | rfl | exact fI (by omega) | (simp_all)
            case r0 => intro h hh; cases hh
            case e1 => first | rfl | exact fI (by omega) | (simp_all)
            case r1 => intro h hh; cases hh
            case e5 => first | rfl | exact fI (by omega) | (simp_all)
            case r5 => intro h hh; cases hh
      · replace hb11 := eqT hb11
        refine ev_nil (hK10 _ ?_); clear hK10
        refine good_condT rfl ?_
        refine good_seq fun K13 hK13 => ?_
        refine good_region rfl ?_
        refine ev_q rfl (q_assign (by conv => lhs; whnf) ?_)
        refine ev_nil (hK13 _ ?_); clear hK13
        refine good_ret ?_
        repeat (first | refine thenQ_ret ?_ | refine blockQ_ret ?_)
        refine ret_tmp (st := _) rfl (by conv => lhs; whnf) rfl ?_
        clear hK2 hK9
        first | exact fT (by have e : p = x := (by omega); subst e; exact List.mem_of_getElem? hp) | exact fF (fun hm => by obtain ⟨j, hj⟩ := List.getElem?_of_mem hm; exact hJ j _ (by have := (List.getElem?_eq_some_iff.1 hj).1; omega) hj rfl)

theorem W_rs {s : ByteArray} {nd tr su re : Int} (h : isName s = true ∧ (0 ≤ nd ∧ nd ≤ 15) ∧ (1 ≤ tr ∧ tr ≤ 100000) ∧ (0 ≤ su ∧ su ≤ 18000) ∧ (0 ≤ re ∧ re ≤ su - 1)) : Den Tryz.prog 12 [.s (.string (sbT s nd tr su re))] (.tup [.agg [.s (.string s), .s (.int .i64 nd), .s (.int .i64 tr), .s (.int .i64 su), .s (.int .i64 re)], .s (.bool true)]) := by
  have hd := D_impl_ReadSubstation (sbT s nd tr su re) (by have := sbT_sz h; omega)
  obtain ⟨e0, e1, e2, e3, e4, e5⟩ := rs_back h
  rw [e1, e2, e3, e4, e5, decide_eq_true e0] at hd; exact hd

-- laws.FnReturns
set_option maxRecDepth 20000 in
set_option maxHeartbeats 4000000 in
theorem D_laws_FnReturns (cs ds : List Int) (hb : byteL cs) (hb2 : byteL ds) : Den Tryz.prog 3 [.lst 1 (cs.map cb), .lst 1 (ds.map cb)] (.s (.bool true)) := by
  refine den_of_good Tryz.func3 (by decide) rfl (Nat.le_of_ble_eq_true rfl) (Nat.le_of_ble_eq_true rfl) ?_
  refine good_seq fun K1 hK1 => ?_
  refine good_region rfl ?_
  refine ev_q rfl (q_assign (by conv => lhs; whnf) ?_)
  refine ev_nil (hK1 _ ?_); clear hK1
  refine good_seq fun K2 hK2 => ?_
  refine good_seq fun K3 hK3 => ?_
  refine good_region rfl ?_
  refine ev_q rfl (q_move (by conv => lhs; whnf) ?_)
  refine ev_q rfl (q_callB rfl rfl (rfl) (D_laws_b10Long cs) ?_)
  intro b4 hb4; cases b4
  · first | replace hb4 := dF hb4 | skip
    refine ev_q rfl (q_move (by conv => lhs; whnf) ?_)
    refine ev_q rfl (q_move (by conv => lhs; whnf) ?_)
    refine ev_q rfl (q_callB rfl rfl (rfl) (D_laws_b10Long ds) ?_)
    intro b5 hb5; cases b5
    · first | replace hb5 := dF hb5 | skip
      refine ev_q rfl (q_pickF rfl (by conv => lhs; whnf) ?_)
      refine ev_nil (hK3 _ ?_); clear hK3
      refine good_condF rfl ?_
      refine good_skip (hK2 _ ?_); clear hK2
      refine good_seq fun K6 hK6 => ?_
      refine good_region rfl ?_
      refine ev_q rfl (q_move (by conv => lhs; whnf) ?_)
      refine ev_k rfl (k_callR [] (D_spec_DrawReturnAt cs (by omega) hb) rfl (rfl) (rfl) trivial rfl (by rintro ⟨v7, p7, l7⟩ hx7_0; exact ⟨trivial, rfl⟩) rfl rfl ?_)
      rintro ⟨v7, p7, l7⟩ hx7_0
      have hz1 := hx7_0
      refine ev_q rfl (q_move (by conv => lhs; whnf) ?_)
      refine ev_q rfl (q_extract rfl rfl ?_)
      refine ev_q rfl (q_extractI rfl rfl ?_)
      intro n8 hn8
      refine ev_q rfl (q_extractI rfl rfl ?_)
      intro n9 hn9
      refine ev_k rfl (k_alloc zA25 rfl ?_)
      refine ev_k rfl (k_store sz25 rfl (by conv => lhs; whnf) rfl rfl rfl (Nat.le_of_ble_eq_true rfl) rfl ?_)
      refine ev_q rfl (q_assign (by conv => lhs; whnf) ?_)
      refine ev_q rfl (q_assign (by conv => lhs; whnf) ?_)
      refine ev_nil (hK6 _ ?_); clear hK6
      refine good_seq fun K10 hK10 => ?_
      refine good_region rfl ?_
      refine ev_q rfl (q_loadA tA25 rfl rfl rfl ?_)
      refine ev_q rfl (q_move (by conv => lhs; whnf) ?_)
      refine ev_q rfl (q_move (by conv => lhs; whnf) ?_)
      refine ev_q rfl (q_call rfl rfl (rfl) (D_impl_ReturnAt _ _ _ _ _ _ _ (show _ ≤ _ by omega)) rfl ?_)
      refine ev_q rfl (q_move (by conv => lhs; whnf) ?_)
      refine ev_q rfl (q_extractI rfl rfl ?_)
      intro n11 hn11
      refine ev_q rfl (q_extractI rfl rfl ?_)
      intro n12 hn12
      refine ev_q rfl (q_assign (by conv => lhs; whnf) ?_)
      refine ev_q rfl (q_assign (by conv => lhs; whnf) ?_)
      refine ev_nil (hK10 _ ?_); clear hK10
      refine good_join { env := upd (upd ((fun _ => .junk)) 0 (.lst 1 (cs.map cb))) 1 (.lst 1 (ds.map cb)), H := (fun _ => none) } ?_ fun K13 hK13 => ?_
      · refine good_seq fun K14 hK14 => ?_
        refine good_region rfl ?_
        refine ev_q rfl (q_move (by conv => lhs; whnf) ?_)
        refine ev_k rfl (k_callR [] (D_spec_DrawWeakSubstations ds (by omega) hb2) rfl (rfl) (rfl) trivial rfl (by rintro ⟨xs15, p15, ds15⟩ ⟨hx15_0, hx15_1⟩; exact ⟨trivial, rfl⟩) rfl rfl ?_)
        rintro ⟨xs15, p15, ds15⟩ ⟨hx15_0, hx15_1⟩
        have hzx := hx15_0
        have hzz := hzx.2
        refine ev_q rfl (q_move (by conv => lhs; whnf) ?_)
        refine ev_q rfl (q_extract rfl rfl ?_)
        refine ev_q rfl (q_extractI rfl rfl ?_)
        intro n16 hn16
        refine ev_q rfl (q_extract rfl rfl ?_)
        refine ev_q rfl (q_assign (by conv => lhs; whnf) ?_)
        refine ev_q rfl (q_assign (by conv => lhs; whnf) ?_)
        refine ev_q rfl (q_assign (by conv => lhs; whnf) ?_)
        refine ev_nil (hK14 _ ?_); clear hK14
        refine good_seq fun K17 hK17 => ?_
        refine good_region rfl ?_
        refine ev_q rfl (q_move (by conv => lhs; whnf) ?_)
        refine ev_q rfl (q_move (by conv => lhs; whnf) ?_)
        refine ev_q rfl (q_move (by conv => lhs; whnf) ?_)
        refine ev_q rfl (q_call rfl rfl (rfl) (D_impl_WeakSubstations xs15 ds15 n16 (by omega) (fun j x h => by have := hzz x (List.mem_of_getElem? h); omega) (by omega)) rfl ?_)
        refine ev_q rfl (q_move (by conv => lhs; whnf) ?_)
        refine ev_q rfl (q_extract rfl rfl ?_)
        refine ev_q rfl (q_extractI rfl rfl ?_)
        intro n18 hn18
        refine ev_q rfl (q_assign (by conv => lhs; whnf) ?_)
        refine ev_q rfl (q_assign (by conv => lhs; whnf) ?_)
        refine ev_nil (hK17 _ ?_); clear hK17
        refine good_seq fun K19 hK19 => ?_
        refine good_region rfl ?_
        refine ev_q rfl (q_move (by conv => lhs; whnf) ?_)
        refine ev_q rfl (q_move (by conv => lhs; whnf) ?_)
        refine ev_q rfl (q_move (by conv => lhs; whnf) ?_)
        refine ev_q rfl (q_call rfl rfl (rfl) (D_impl_ReturnMix xs15 ds15 n16 (by omega) (fun j x h => by have := hzz x (List.mem_of_getElem? h); omega) (by omega)) rfl ?_)
        refine ev_q rfl (q_move (by conv => lhs; whnf) ?_)
        refine ev_q rfl (q_extractI rfl rfl ?_)
        intro n20 hn20
        refine ev_q rfl (q_extractI rfl rfl ?_)
        intro n21 hn21
        have hwk := wk_law (xs := xs15) (ds := ds15) (pr := n16)
        have hmx := mix_bd (xs := xs15) (ds := ds15) (pr := n16)
        rw [← hn18, ← hn21] at hwk
        rw [← hn21] at hmx
        have hmv := hn20
        rw [← hn21] at hmv
        refine ev_q rfl (q_assign (by conv => lhs; whnf) ?_)
        refine ev_q rfl (q_assign (by conv => lhs; whnf) ?_)
        refine ev_nil (hK19 _ ?_); clear hK19
        refine good_seq fun K22 hK22 => ?_
        refine good_seq fun K23 hK23 => ?_
        refine good_region rfl ?_
        refine ev_q rfl (q_move (by conv => lhs; whnf) ?_)
        refine ev_q rfl (q_int rfl rfl ?_)
        intro b24 hb24; cases b24
        · replace hb24 := neF hb24
          refine ev_nil (hK23 _ ?_); clear hK23
          refine good_condF rfl ?_
          refine good_skip (hK22 _ ?_); clear hK22
          refine good_seq fun K25 hK25 => ?_
          refine good_seq fun K26 hK26 => ?_
          refine good_region rfl ?_
          refine ev_q rfl (q_move (by conv => lhs; whnf) ?_)
          refine ev_q rfl (q_len tEs36 rfl ?_)
          intro n27 hn27
          try simp only [List.length_map] at hn27
          refine ev_q rfl (q_int rfl rfl ?_)
          intro b28 hb28; cases b28
          · replace hb28 := dF hb28
            refine ev_q rfl (q_move (by conv => lhs; whnf) ?_)
            refine ev_skip rfl ?_
            refine ev_skip rfl ?_
            refine ev_q rfl (q_pickF rfl (by conv => lhs; whnf) ?_)
            refine ev_q rfl (q_move (by conv => lhs; whnf) ?_)
            refine ev_q rfl (q_move (by conv => lhs; whnf) ?_)
            refine ev_q rfl (q_int rfl rfl ?_)
            intro b29 hb29; cases b29
            · replace hb29 := eqF hb29
              refine ev_q rfl (q_move (by conv => lhs; whnf) ?_)
              refine ev_skip rfl ?_
              refine ev_skip rfl ?_
              refine ev_skip rfl ?_
              refine ev_skip rfl ?_
              refine ev_skip rfl ?_
              refine ev_skip rfl ?_
              refine ev_skip rfl ?_
              refine ev_q rfl (q_pickF rfl (by conv => lhs; whnf) ?_)
              refine ev_q rfl (q_pickF rfl (by conv => lhs; whnf) ?_)
              refine ev_nil (hK26 _ ?_); clear hK26
              refine good_condF rfl ?_
              refine good_skip (hK25 _ ?_); clear hK25
              refine good_seq fun K30 hK30 => ?_
              refine good_seq fun K31 hK31 => ?_
              refine good_region rfl ?_
              refine ev_q rfl (q_assign (by conv => lhs; whnf) ?_)
              refine ev_nil (hK31 _ ?_); clear hK31
              refine good_block ?_
              refine good_loop (α := Nat) (fun i => { env := upd (upd (upd (upd (upd ((fun _ => .junk)) 18 (.lst 5 (xs15.map sbA))) 19 (.s (.int .i64 (n16)))) 20 (.lst 1 (ds15.map ci))) 21 (.lst 1 ((wkL xs15 ds15 n16).map ci))) 25 (.s (.int .i64 ((i : Int)))), H := fun _ => none }) (fun i => i ≤ xs15.length) (fun i => xs15.length - i) 0 ?_ ?_ ?_
              · exact Nat.zero_le _
              · refine sub_weak ?_ ?_
                · exact weakH_none _
                · refine weakE_upd ?e25 ?r25 (weakE_upd ?e21 ?r21 (weakE_upd ?e20 ?r20 (weakE_upd ?e19 ?r19 (weakE_upd ?e18 ?r18 (weakE_junk _ _)))))
                  case e18 => first | rfl | exact fI (by omega) | (simp_all)
                  case r18 => intro h hh; cases hh
                  case e19 => first | rfl | exact fI (by omega) | (simp_all)
                  case r19 => intro h hh; cases hh
                  case e20 => first | rfl | exact fI (by omega) | (simp_all)
                  case r20 => intro h hh; cases hh
                  case e21 => first | rfl | exact fI (by omega) | (simp_all)
                  case r21 => intro h hh; cases hh
                  case e25 => first | rfl | exact fI (by omega) | (simp_all)
                  case r25 => intro h hh; cases hh
              · rintro i hI
                refine good_seq fun K32 hK32 => ?_
                refine good_seq fun K33 hK33 => ?_
                refine good_region rfl ?_
                refine ev_q rfl (q_move (by conv => lhs; whnf) ?_)
                refine ev_q rfl (q_move (by conv => lhs; whnf) ?_)
                refine ev_q rfl (q_len tEs35 rfl ?_)
                intro n34 hn34
                try simp only [List.length_map] at hn34
                refine ev_q rfl (q_int rfl rfl ?_)
                intro b35 hb35; cases b35
                · replace hb35 := dF hb35
                  refine ev_nil (hK33 _ ?_); clear hK33
                  refine good_condF rfl ?_
                  refine good_exit ?_
                  repeat (first | refine thenQ_exit ?_ | refine blockQ_pass rfl ?_)
                  refine blockQ_exit (hK30 _ ?_); clear hK30
                  refine good_seq fun K36 hK36 => ?_
                  refine good_region rfl ?_
                  refine ev_q rfl (q_assign (by conv => lhs; whnf) ?_)
                  refine ev_nil (hK36 _ ?_); clear hK36
                  refine good_ret ?_
                  repeat (first | refine thenQ_ret ?_ | refine blockQ_ret ?_)
                  refine ret_tmp (st := _) rfl (by conv => lhs; whnf) rfl ?_
                  clear hK32
                  first | rfl | (exfalso; first | omega | exact hE | contradiction | exact absurd (hmem.1 (by assumption)) (by assumption) | exact absurd (hmem.2 (by assumption)) (by assumption) | (simp_all; done))
                · replace hb35 := dT hb35
                  obtain ⟨x, hx⟩ := getL (xs := xs15) (n := (i : Int)) (by omega) (by omega)
                  replace hx : xs15[i]? = some x := hx
                  have hzp := hzz x (List.mem_of_getElem? hx)
                  have hok := sbC_ok (show sbC xs15 ds15 n16 = 0 by omega)
                  obtain ⟨l, hl⟩ := getL (xs := ds15) (n := (i : Int)) (by omega) (by have := hok.2.2.1; omega)
                  replace hl : ds15[i]? = some l := hl
                  have hlb := hok.2.2.2 _ _ hl
                  have hmem := wk_mem (show sbC xs15 ds15 n16 = 0 by omega) hx hl
                  have hxo : isName x.id = true ∧ (0 ≤ x.nd ∧ x.nd ≤ 15) ∧ (1 ≤ x.tr ∧ x.tr ≤ 100000) ∧ (0 ≤ x.su ∧ x.su ≤ 18000) ∧ (0 ≤ x.re ∧ x.re ≤ x.su - 1) := (hok.1.2 i x hx).1
                  refine ev_nil (hK33 _ ?_); clear hK33
                  refine good_condT rfl ?_
                  refine good_skip (hK32 _ ?_); clear hK32
                  refine good_seq fun K37 hK37 => ?_
                  refine good_block ?_
                  refine good_seq fun K38 hK38 => ?_
                  refine good_draw 15 hmix (by kernel_rfl) rfl ?_
                  refine qo_q rfl (q_move (by conv => lhs; whnf) ?_)
                  refine qo_q rfl (q_move (by conv => lhs; whnf) ?_)
                  refine qo_q rfl (q_idx tE35 rfl rfl (by exact Int.natCast_nonneg _) (by exact map_get hx) rfl ?_)
                  refine qo_q rfl (q_loadA tA25 rfl rfl rfl ?_)
                  refine qo_q rfl (q_move (by conv => lhs; whnf) ?_)
                  refine qo_q rfl (q_move (by conv => lhs; whnf) ?_)
                  refine qo_q rfl (q_move (by conv => lhs; whnf) ?_)
                  refine qo_q rfl (q_idx tE36 rfl rfl (by exact Int.natCast_nonneg _) (by exact map_get hl) rfl ?_)
                  refine qo_q rfl (q_load tA2 rfl ?_)
                  refine qo_q rfl (q_call rfl rfl (rfl) (D_impl_PrimaryFlow _ _ _ _ _ _ _ (show _ ≤ _ by omega)) rfl ?_)
                  refine qo_q rfl (q_move (by conv => lhs; whnf) ?_)
                  refine qo_q rfl (q_extractI rfl rfl ?_)
                  intro n39 hn39
                  refine qo_q rfl (q_extractI rfl rfl ?_)
                  intro n40 hn40
                  rw [if_pos hxo, if_pos ⟨hok.2.1, hlb⟩] at hn40
                  have h96 : n40 = 6 ↔ 100000 < pfP x.tr x.su x.re n16 l := by rw [hn40]; split <;> omega
                  rw [← h96] at hmem
                  refine qo_q rfl (q_assign (by conv => lhs; whnf) ?_)
                  refine qo_q rfl (q_assign (by conv => lhs; whnf) ?_)
                  refine qo_nil ?_
                  refine ev_nil (hK38 _ ?_); clear hK38
                  refine good_seq fun K41 hK41 => ?_
                  refine good_region rfl ?_
                  refine ev_q rfl (q_move (by conv => lhs; whnf) ?_)
                  refine ev_q rfl (q_move (by conv => lhs; whnf) ?_)
                  refine ev_q rfl (q_callB rfl rfl (rfl) (D_laws_b10Has _ _ (by have := wkL_len (xs := xs15) (ds := ds15) (pr := n16); omega)) ?_)
                  intro b42 hb42; cases b42
                  · first | replace hb42 := dF hb42 | skip
                    refine ev_q rfl (q_move (by conv => lhs; whnf) ?_)
                    refine ev_q rfl (q_int rfl rfl ?_)
                    intro b43 hb43; cases b43
                    · replace hb43 := eqF hb43
                      refine ev_q rfl (q_bne tB4 rfl rfl ?_)
                      intro b44 hb44; replace hb44 : b44 = false := hb44; subst hb44
                      refine ev_nil (hK41 _ ?_); clear hK41
                      refine good_condF rfl ?_
                      refine good_skip (hK37 _ ?_); clear hK37
                      refine good_region rfl ?_
                      refine ev_q rfl (q_move (by conv => lhs; whnf) ?_)
                      refine ev_q rfl (q_int rfl rfl ?_)
                      intro n45 hn45
                      replace hn45 := in64 hn45 (by omega) (by omega)
                      refine ev_q rfl (q_assign (by conv => lhs; whnf) ?_)
                      refine ev_nil ?_
                      clear hK30
                      refine ⟨i + 1, ?_, ?_, ?_⟩
                      · show _ ≤ _; omega
                      · first | omega | (simp only []; omega) | (dsimp only; omega)
                      · refine sub_weak ?_ ?_
                        · exact weakH_none _
                        · refine weakE_upd ?e25 ?r25 (weakE_upd ?e21 ?r21 (weakE_upd ?e20 ?r20 (weakE_upd ?e19 ?r19 (weakE_upd ?e18 ?r18 (weakE_junk _ _)))))
                          case e18 => first | rfl | exact fI (by omega) | (simp_all)
                          case r18 => intro h hh; cases hh
                          case e19 => first | rfl | exact fI (by omega) | (simp_all)
                          case r19 => intro h hh; cases hh
                          case e20 => first | rfl | exact fI (by omega) | (simp_all)
                          case r20 => intro h hh; cases hh
                          case e21 => first | rfl | exact fI (by omega) | (simp_all)
                          case r21 => intro h hh; cases hh
                          case e25 => first | rfl | exact fI (by omega) | (simp_all)
                          case r25 => intro h hh; cases hh
                    · replace hb43 := eqT hb43
                      refine ev_q rfl (q_bne tB4 rfl rfl ?_)
                      intro b46 hb46; replace hb46 : b46 = true := hb46; subst hb46
                      refine ev_nil (hK41 _ ?_); clear hK41
                      refine good_condT rfl ?_
                      refine good_seq fun K47 hK47 => ?_
                      refine good_region rfl ?_
                      refine ev_q rfl (q_assign (by conv => lhs; whnf) ?_)
                      refine ev_nil (hK47 _ ?_); clear hK47
                      refine good_ret ?_
                      repeat (first | refine thenQ_ret ?_ | refine blockQ_ret ?_)
                      refine ret_tmp (st := _) rfl (by conv => lhs; whnf) rfl ?_
                      clear hK30 hK37
                      first | rfl | (exfalso; first | omega | exact hE | contradiction | exact absurd (hmem.1 (by assumption)) (by assumption) | exact absurd (hmem.2 (by assumption)) (by assumption) | (simp_all; done))
                  · first | replace hb42 := dT hb42 | skip
                    refine ev_q rfl (q_move (by conv => lhs; whnf) ?_)
                    refine ev_q rfl (q_int rfl rfl ?_)
                    intro b48 hb48; cases b48
                    · replace hb48 := eqF hb48
                      refine ev_q rfl (q_bne tB4 rfl rfl ?_)
                      intro b49 hb49; replace hb49 : b49 = true := hb49; subst hb49
                      refine ev_nil (hK41 _ ?_); clear hK41
                      refine good_condT rfl ?_
                      refine good_seq fun K50 hK50 => ?_
                      refine good_region rfl ?_
                      refine ev_q rfl (q_assign (by conv => lhs; whnf) ?_)
                      refine ev_nil (hK50 _ ?_); clear hK50
                      refine good_ret ?_
                      repeat (first | refine thenQ_ret ?_ | refine blockQ_ret ?_)
                      refine ret_tmp (st := _) rfl (by conv => lhs; whnf) rfl ?_
                      clear hK30 hK37
                      first | rfl | (exfalso; first | omega | exact hE | contradiction | exact absurd (hmem.1 (by assumption)) (by assumption) | exact absurd (hmem.2 (by assumption)) (by assumption) | (simp_all; done))
                    · replace hb48 := eqT hb48
                      refine ev_q rfl (q_bne tB4 rfl rfl ?_)
                      intro b51 hb51; replace hb51 : b51 = false := hb51; subst hb51
                      refine ev_nil (hK41 _ ?_); clear hK41
                      refine good_condF rfl ?_
                      refine good_skip (hK37 _ ?_); clear hK37
                      refine good_region rfl ?_
                      refine ev_q rfl (q_move (by conv => lhs; whnf) ?_)
                      refine ev_q rfl (q_int rfl rfl ?_)
                      intro n52 hn52
                      replace hn52 := in64 hn52 (by omega) (by omega)
                      refine ev_q rfl (q_assign (by conv => lhs; whnf) ?_)
                      refine ev_nil ?_
                      clear hK30
                      refine ⟨i + 1, ?_, ?_, ?_⟩
                      · show _ ≤ _; omega
                      · first | omega | (simp only []; omega) | (dsimp only; omega)
                      · refine sub_weak ?_ ?_
                        · exact weakH_none _
                        · refine weakE_upd ?e25 ?r25 (weakE_upd ?e21 ?r21 (weakE_upd ?e20 ?r20 (weakE_upd ?e19 ?r19 (weakE_upd ?e18 ?r18 (weakE_junk _ _)))))
                          case e18 => first | rfl | exact fI (by omega) | (simp_all)
                          case r18 => intro h hh; cases hh
                          case e19 => first | rfl | exact fI (by omega) | (simp_all)
                          case r19 => intro h hh; cases hh
                          case e20 => first | rfl | exact fI (by omega) | (simp_all)
                          case r20 => intro h hh; cases hh
                          case e21 => first | rfl | exact fI (by omega) | (simp_all)
                          case r21 => intro h hh; cases hh
                          case e25 => first | rfl | exact fI (by omega) | (simp_all)
                          case r25 => intro h hh; cases hh
            · replace hb29 := eqT hb29
              refine ev_q rfl (q_move (by conv => lhs; whnf) ?_)
              refine ev_q rfl (q_move (by conv => lhs; whnf) ?_)
              refine ev_q rfl (q_int rfl rfl ?_)
              intro b53 hb53; cases b53
              · replace hb53 := dF hb53
                refine ev_q rfl (q_move (by conv => lhs; whnf) ?_)
                refine ev_q rfl (q_move (by conv => lhs; whnf) ?_)
                refine ev_q rfl (q_move (by conv => lhs; whnf) ?_)
                refine ev_q rfl (q_int rfl rfl ?_)
                intro b54 hb54; cases b54
                · replace hb54 := dF hb54
                  refine ev_q rfl (q_pickF rfl (by conv => lhs; whnf) ?_)
                  refine ev_q rfl (q_pickT rfl (by conv => lhs; whnf) ?_)
                  refine ev_q rfl (q_pickF rfl (by conv => lhs; whnf) ?_)
                  refine ev_nil (hK26 _ ?_); clear hK26
                  refine good_condF rfl ?_
                  refine good_skip (hK25 _ ?_); clear hK25
                  refine good_seq fun K55 hK55 => ?_
                  refine good_seq fun K56 hK56 => ?_
                  refine good_region rfl ?_
                  refine ev_q rfl (q_assign (by conv => lhs; whnf) ?_)
                  refine ev_nil (hK56 _ ?_); clear hK56
                  refine good_block ?_
                  refine good_loop (α := Nat) (fun i => { env := upd (upd (upd (upd (upd ((fun _ => .junk)) 18 (.lst 5 (xs15.map sbA))) 19 (.s (.int .i64 (n16)))) 20 (.lst 1 (ds15.map ci))) 21 (.lst 1 ((wkL xs15 ds15 n16).map ci))) 25 (.s (.int .i64 ((i : Int)))), H := fun _ => none }) (fun i => i ≤ xs15.length) (fun i => xs15.length - i) 0 ?_ ?_ ?_
                  · exact Nat.zero_le _
                  · refine sub_weak ?_ ?_
                    · exact weakH_none _
                    · refine weakE_upd ?e25 ?r25 (weakE_upd ?e21 ?r21 (weakE_upd ?e20 ?r20 (weakE_upd ?e19 ?r19 (weakE_upd ?e18 ?r18 (weakE_junk _ _)))))
                      case e18 => first | rfl | exact fI (by omega) | (simp_all)
                      case r18 => intro h hh; cases hh
                      case e19 => first | rfl | exact fI (by omega) | (simp_all)
                      case r19 => intro h hh; cases hh
                      case e20 => first | rfl | exact fI (by omega) | (simp_all)
                      case r20 => intro h hh; cases hh
                      case e21 => first | rfl | exact fI (by omega) | (simp_all)
                      case r21 => intro h hh; cases hh
                      case e25 => first | rfl | exact fI (by omega) | (simp_all)
                      case r25 => intro h hh; cases hh
                  · rintro i hI
                    refine good_seq fun K57 hK57 => ?_
                    refine good_seq fun K58 hK58 => ?_
                    refine good_region rfl ?_
                    refine ev_q rfl (q_move (by conv => lhs; whnf) ?_)
                    refine ev_q rfl (q_move (by conv => lhs; whnf) ?_)
                    refine ev_q rfl (q_len tEs35 rfl ?_)
                    intro n59 hn59
                    try simp only [List.length_map] at hn59
                    refine ev_q rfl (q_int rfl rfl ?_)
                    intro b60 hb60; cases b60
                    · replace hb60 := dF hb60
                      refine ev_nil (hK58 _ ?_); clear hK58
                      refine good_condF rfl ?_
                      refine good_exit ?_
                      repeat (first | refine thenQ_exit ?_ | refine blockQ_pass rfl ?_)
                      refine blockQ_exit (hK55 _ ?_); clear hK55
                      refine good_seq fun K61 hK61 => ?_
                      refine good_region rfl ?_
                      refine ev_q rfl (q_assign (by conv => lhs; whnf) ?_)
                      refine ev_nil (hK61 _ ?_); clear hK61
                      refine good_ret ?_
                      repeat (first | refine thenQ_ret ?_ | refine blockQ_ret ?_)
                      refine ret_tmp (st := _) rfl (by conv => lhs; whnf) rfl ?_
                      clear hK57
                      first | rfl | (exfalso; first | omega | exact hE | contradiction | exact absurd (hmem.1 (by assumption)) (by assumption) | exact absurd (hmem.2 (by assumption)) (by assumption) | (simp_all; done))
                    · replace hb60 := dT hb60
                      obtain ⟨x, hx⟩ := getL (xs := xs15) (n := (i : Int)) (by omega) (by omega)
                      replace hx : xs15[i]? = some x := hx
                      have hzp := hzz x (List.mem_of_getElem? hx)
                      have hok := sbC_ok (show sbC xs15 ds15 n16 = 0 by omega)
                      obtain ⟨l, hl⟩ := getL (xs := ds15) (n := (i : Int)) (by omega) (by have := hok.2.2.1; omega)
                      replace hl : ds15[i]? = some l := hl
                      have hlb := hok.2.2.2 _ _ hl
                      have hmem := wk_mem (show sbC xs15 ds15 n16 = 0 by omega) hx hl
                      have hxo : isName x.id = true ∧ (0 ≤ x.nd ∧ x.nd ≤ 15) ∧ (1 ≤ x.tr ∧ x.tr ≤ 100000) ∧ (0 ≤ x.su ∧ x.su ≤ 18000) ∧ (0 ≤ x.re ∧ x.re ≤ x.su - 1) := (hok.1.2 i x hx).1
                      refine ev_nil (hK58 _ ?_); clear hK58
                      refine good_condT rfl ?_
                      refine good_skip (hK57 _ ?_); clear hK57
                      refine good_seq fun K62 hK62 => ?_
                      refine good_block ?_
                      refine good_seq fun K63 hK63 => ?_
                      refine good_draw 15 hmix (by kernel_rfl) rfl ?_
                      refine qo_q rfl (q_move (by conv => lhs; whnf) ?_)
                      refine qo_q rfl (q_move (by conv => lhs; whnf) ?_)
                      refine qo_q rfl (q_idx tE35 rfl rfl (by exact Int.natCast_nonneg _) (by exact map_get hx) rfl ?_)
                      refine qo_q rfl (q_loadA tA25 rfl rfl rfl ?_)
                      refine qo_q rfl (q_move (by conv => lhs; whnf) ?_)
                      refine qo_q rfl (q_move (by conv => lhs; whnf) ?_)
                      refine qo_q rfl (q_move (by conv => lhs; whnf) ?_)
                      refine qo_q rfl (q_idx tE36 rfl rfl (by exact Int.natCast_nonneg _) (by exact map_get hl) rfl ?_)
                      refine qo_q rfl (q_load tA2 rfl ?_)
                      refine qo_q rfl (q_call rfl rfl (rfl) (D_impl_PrimaryFlow _ _ _ _ _ _ _ (show _ ≤ _ by omega)) rfl ?_)
                      refine qo_q rfl (q_move (by conv => lhs; whnf) ?_)
                      refine qo_q rfl (q_extractI rfl rfl ?_)
                      intro n64 hn64
                      refine qo_q rfl (q_extractI rfl rfl ?_)
                      intro n65 hn65
                      rw [if_pos hxo, if_pos ⟨hok.2.1, hlb⟩] at hn65
                      have h96 : n65 = 6 ↔ 100000 < pfP x.tr x.su x.re n16 l := by rw [hn65]; split <;> omega
                      rw [← h96] at hmem
                      refine qo_q rfl (q_assign (by conv => lhs; whnf) ?_)
                      refine qo_q rfl (q_assign (by conv => lhs; whnf) ?_)
                      refine qo_nil ?_
                      refine ev_nil (hK63 _ ?_); clear hK63
                      refine good_seq fun K66 hK66 => ?_
                      refine good_region rfl ?_
                      refine ev_q rfl (q_move (by conv => lhs; whnf) ?_)
                      refine ev_q rfl (q_move (by conv => lhs; whnf) ?_)
                      refine ev_q rfl (q_callB rfl rfl (rfl) (D_laws_b10Has _ _ (by have := wkL_len (xs := xs15) (ds := ds15) (pr := n16); omega)) ?_)
                      intro b67 hb67; cases b67
                      · first | replace hb67 := dF hb67 | skip
                        refine ev_q rfl (q_move (by conv => lhs; whnf) ?_)
                        refine ev_q rfl (q_int rfl rfl ?_)
                        intro b68 hb68; cases b68
                        · replace hb68 := eqF hb68
                          refine ev_q rfl (q_bne tB4 rfl rfl ?_)
                          intro b69 hb69; replace hb69 : b69 = false := hb69; subst hb69
                          refine ev_nil (hK66 _ ?_); clear hK66
                          refine good_condF rfl ?_
                          refine good_skip (hK62 _ ?_); clear hK62
                          refine good_region rfl ?_
                          refine ev_q rfl (q_move (by conv => lhs; whnf) ?_)
                          refine ev_q rfl (q_int rfl rfl ?_)
                          intro n70 hn70
                          replace hn70 := in64 hn70 (by omega) (by omega)
                          refine ev_q rfl (q_assign (by conv => lhs; whnf) ?_)
                          refine ev_nil ?_
                          clear hK55
                          refine ⟨i + 1, ?_, ?_, ?_⟩
                          · show _ ≤ _; omega
                          · first | omega | (simp only []; omega) | (dsimp only; omega)
                          · refine sub_weak ?_ ?_
                            · exact weakH_none _
                            · refine weakE_upd ?e25 ?r25 (weakE_upd ?e21 ?r21 (weakE_upd ?e20 ?r20 (weakE_upd ?e19 ?r19 (weakE_upd ?e18 ?r18 (weakE_junk _ _)))))
                              case e18 => first | rfl | exact fI (by omega) | (simp_all)
                              case r18 => intro h hh; cases hh
                              case e19 => first | rfl | exact fI (by omega) | (simp_all)
                              case r19 => intro h hh; cases hh
                              case e20 => first | rfl | exact fI (by omega) | (simp_all)
                              case r20 => intro h hh; cases hh
                              case e21 => first | rfl | exact fI (by omega) | (simp_all)
                              case r21 => intro h hh; cases hh
                              case e25 => first | rfl | exact fI (by omega) | (simp_all)
                              case r25 => intro h hh; cases hh
                        · replace hb68 := eqT hb68
                          refine ev_q rfl (q_bne tB4 rfl rfl ?_)
                          intro b71 hb71; replace hb71 : b71 = true := hb71; subst hb71
                          refine ev_nil (hK66 _ ?_); clear hK66
                          refine good_condT rfl ?_
                          refine good_seq fun K72 hK72 => ?_
                          refine good_region rfl ?_
                          refine ev_q rfl (q_assign (by conv => lhs; whnf) ?_)
                          refine ev_nil (hK72 _ ?_); clear hK72
                          refine good_ret ?_
                          repeat (first | refine thenQ_ret ?_ | refine blockQ_ret ?_)
                          refine ret_tmp (st := _) rfl (by conv => lhs; whnf) rfl ?_
                          clear hK55 hK62
                          first | rfl | (exfalso; first | omega | exact hE | contradiction | exact absurd (hmem.1 (by assumption)) (by assumption) | exact absurd (hmem.2 (by assumption)) (by assumption) | (simp_all; done))
                      · first | replace hb67 := dT hb67 | skip
                        refine ev_q rfl (q_move (by conv => lhs; whnf) ?_)
                        refine ev_q rfl (q_int rfl rfl ?_)
                        intro b73 hb73; cases b73
                        · replace hb73 := eqF hb73
                          refine ev_q rfl (q_bne tB4 rfl rfl ?_)
                          intro b74 hb74; replace hb74 : b74 = true := hb74; subst hb74
                          refine ev_nil (hK66 _ ?_); clear hK66
                          refine good_condT rfl ?_
                          refine good_seq fun K75 hK75 => ?_
                          refine good_region rfl ?_
                          refine ev_q rfl (q_assign (by conv => lhs; whnf) ?_)
                          refine ev_nil (hK75 _ ?_); clear hK75
                          refine good_ret ?_
                          repeat (first | refine thenQ_ret ?_ | refine blockQ_ret ?_)
                          refine ret_tmp (st := _) rfl (by conv => lhs; whnf) rfl ?_
                          clear hK55 hK62
                          first | rfl | (exfalso; first | omega | exact hE | contradiction | exact absurd (hmem.1 (by assumption)) (by assumption) | exact absurd (hmem.2 (by assumption)) (by assumption) | (simp_all; done))
                        · replace hb73 := eqT hb73
                          refine ev_q rfl (q_bne tB4 rfl rfl ?_)
                          intro b76 hb76; replace hb76 : b76 = false := hb76; subst hb76
                          refine ev_nil (hK66 _ ?_); clear hK66
                          refine good_condF rfl ?_
                          refine good_skip (hK62 _ ?_); clear hK62
                          refine good_region rfl ?_
                          refine ev_q rfl (q_move (by conv => lhs; whnf) ?_)
                          refine ev_q rfl (q_int rfl rfl ?_)
                          intro n77 hn77
                          replace hn77 := in64 hn77 (by omega) (by omega)
                          refine ev_q rfl (q_assign (by conv => lhs; whnf) ?_)
                          refine ev_nil ?_
                          clear hK55
                          refine ⟨i + 1, ?_, ?_, ?_⟩
                          · show _ ≤ _; omega
                          · first | omega | (simp only []; omega) | (dsimp only; omega)
                          · refine sub_weak ?_ ?_
                            · exact weakH_none _
                            · refine weakE_upd ?e25 ?r25 (weakE_upd ?e21 ?r21 (weakE_upd ?e20 ?r20 (weakE_upd ?e19 ?r19 (weakE_upd ?e18 ?r18 (weakE_junk _ _)))))
                              case e18 => first | rfl | exact fI (by omega) | (simp_all)
                              case r18 => intro h hh; cases hh
                              case e19 => first | rfl | exact fI (by omega) | (simp_all)
                              case r19 => intro h hh; cases hh
                              case e20 => first | rfl | exact fI (by omega) | (simp_all)
                              case r20 => intro h hh; cases hh
                              case e21 => first | rfl | exact fI (by omega) | (simp_all)
                              case r21 => intro h hh; cases hh
                              case e25 => first | rfl | exact fI (by omega) | (simp_all)
                              case r25 => intro h hh; cases hh
                · replace hb54 := dT hb54
                  refine ev_q rfl (q_pickF rfl (by conv => lhs; whnf) ?_)
                  refine ev_q rfl (q_pickT rfl (by conv => lhs; whnf) ?_)
                  refine ev_q rfl (q_pickF rfl (by conv => lhs; whnf) ?_)
                  refine ev_nil (hK26 _ ?_); clear hK26
                  refine good_condT rfl ?_
                  refine good_seq fun K78 hK78 => ?_
                  refine good_region rfl ?_
                  refine ev_q rfl (q_assign (by conv => lhs; whnf) ?_)
                  refine ev_nil (hK78 _ ?_); clear hK78
                  refine good_ret ?_
                  repeat (first | refine thenQ_ret ?_ | refine blockQ_ret ?_)
                  refine ret_tmp (st := _) rfl (by conv => lhs; whnf) rfl ?_
                  clear hK25
                  first | rfl | (exfalso; first | omega | exact hE | contradiction | exact absurd (hmem.1 (by assumption)) (by assumption) | exact absurd (hmem.2 (by assumption)) (by assumption) | (simp_all; done))
              · replace hb53 := dT hb53
                refine ev_q rfl (q_move (by conv => lhs; whnf) ?_)
                refine ev_skip rfl ?_
                refine ev_skip rfl ?_
                refine ev_skip rfl ?_
                refine ev_q rfl (q_pickT rfl (by conv => lhs; whnf) ?_)
                refine ev_q rfl (q_pickT rfl (by conv => lhs; whnf) ?_)
                refine ev_q rfl (q_pickF rfl (by conv => lhs; whnf) ?_)
                refine ev_nil (hK26 _ ?_); clear hK26
                refine good_condT rfl ?_
                refine good_seq fun K79 hK79 => ?_
                refine good_region rfl ?_
                refine ev_q rfl (q_assign (by conv => lhs; whnf) ?_)
                refine ev_nil (hK79 _ ?_); clear hK79
                refine good_ret ?_
                repeat (first | refine thenQ_ret ?_ | refine blockQ_ret ?_)
                refine ret_tmp (st := _) rfl (by conv => lhs; whnf) rfl ?_
                clear hK25
                first | rfl | (exfalso; first | omega | exact hE | contradiction | exact absurd (hmem.1 (by assumption)) (by assumption) | exact absurd (hmem.2 (by assumption)) (by assumption) | (simp_all; done))
          · replace hb28 := dT hb28
            refine ev_q rfl (q_move (by conv => lhs; whnf) ?_)
            refine ev_q rfl (q_move (by conv => lhs; whnf) ?_)
            refine ev_q rfl (q_int rfl rfl ?_)
            intro b80 hb80; cases b80
            · replace hb80 := neF hb80
              refine ev_q rfl (q_pickT rfl (by conv => lhs; whnf) ?_)
              refine ev_q rfl (q_move (by conv => lhs; whnf) ?_)
              refine ev_q rfl (q_move (by conv => lhs; whnf) ?_)
              refine ev_q rfl (q_int rfl rfl ?_)
              intro b81 hb81; cases b81
              · replace hb81 := eqF hb81
                refine ev_q rfl (q_move (by conv => lhs; whnf) ?_)
                refine ev_skip rfl ?_
                refine ev_skip rfl ?_
                refine ev_skip rfl ?_
                refine ev_skip rfl ?_
                refine ev_skip rfl ?_
                refine ev_skip rfl ?_
                refine ev_skip rfl ?_
                refine ev_q rfl (q_pickF rfl (by conv => lhs; whnf) ?_)
                refine ev_q rfl (q_pickF rfl (by conv => lhs; whnf) ?_)
                refine ev_nil (hK26 _ ?_); clear hK26
                refine good_condF rfl ?_
                refine good_skip (hK25 _ ?_); clear hK25
                refine good_seq fun K82 hK82 => ?_
                refine good_seq fun K83 hK83 => ?_
                refine good_region rfl ?_
                refine ev_q rfl (q_assign (by conv => lhs; whnf) ?_)
                refine ev_nil (hK83 _ ?_); clear hK83
                refine good_block ?_
                refine good_loop (α := Nat) (fun i => { env := upd (upd (upd (upd (upd ((fun _ => .junk)) 18 (.lst 5 (xs15.map sbA))) 19 (.s (.int .i64 (n16)))) 20 (.lst 1 (ds15.map ci))) 21 (.lst 1 ((wkL xs15 ds15 n16).map ci))) 25 (.s (.int .i64 ((i : Int)))), H := fun _ => none }) (fun i => i ≤ xs15.length) (fun i => xs15.length - i) 0 ?_ ?_ ?_
                · exact Nat.zero_le _
                · refine sub_weak ?_ ?_
                  · exact weakH_none _
                  · refine weakE_upd ?e25 ?r25 (weakE_upd ?e21 ?r21 (weakE_upd ?e20 ?r20 (weakE_upd ?e19 ?r19 (weakE_upd ?e18 ?r18 (weakE_junk _ _)))))
                    case e18 => first | rfl | exact fI (by omega) | (simp_all)
                    case r18 => intro h hh; cases hh
                    case e19 => first | rfl | exact fI (by omega) | (simp_all)
                    case r19 => intro h hh; cases hh
                    case e20 => first | rfl | exact fI (by omega) | (simp_all)
                    case r20 => intro h hh; cases hh
                    case e21 => first | rfl | exact fI (by omega) | (simp_all)
                    case r21 => intro h hh; cases hh
                    case e25 => first | rfl | exact fI (by omega) | (simp_all)
                    case r25 => intro h hh; cases hh
                · rintro i hI
                  refine good_seq fun K84 hK84 => ?_
                  refine good_seq fun K85 hK85 => ?_
                  refine good_region rfl ?_
                  refine ev_q rfl (q_move (by conv => lhs; whnf) ?_)
                  refine ev_q rfl (q_move (by conv => lhs; whnf) ?_)
                  refine ev_q rfl (q_len tEs35 rfl ?_)
                  intro n86 hn86
                  try simp only [List.length_map] at hn86
                  refine ev_q rfl (q_int rfl rfl ?_)
                  intro b87 hb87; cases b87
                  · replace hb87 := dF hb87
                    refine ev_nil (hK85 _ ?_); clear hK85
                    refine good_condF rfl ?_
                    refine good_exit ?_
                    repeat (first | refine thenQ_exit ?_ | refine blockQ_pass rfl ?_)
                    refine blockQ_exit (hK82 _ ?_); clear hK82
                    refine good_seq fun K88 hK88 => ?_
                    refine good_region rfl ?_
                    refine ev_q rfl (q_assign (by conv => lhs; whnf) ?_)
                    refine ev_nil (hK88 _ ?_); clear hK88
                    refine good_ret ?_
                    repeat (first | refine thenQ_ret ?_ | refine blockQ_ret ?_)
                    refine ret_tmp (st := _) rfl (by conv => lhs; whnf) rfl ?_
                    clear hK84
                    first | rfl | (exfalso; first | omega | exact hE | contradiction | exact absurd (hmem.1 (by assumption)) (by assumption) | exact absurd (hmem.2 (by assumption)) (by assumption) | (simp_all; done))
                  · replace hb87 := dT hb87
                    obtain ⟨x, hx⟩ := getL (xs := xs15) (n := (i : Int)) (by omega) (by omega)
                    replace hx : xs15[i]? = some x := hx
                    have hzp := hzz x (List.mem_of_getElem? hx)
                    have hok := sbC_ok (show sbC xs15 ds15 n16 = 0 by omega)
                    obtain ⟨l, hl⟩ := getL (xs := ds15) (n := (i : Int)) (by omega) (by have := hok.2.2.1; omega)
                    replace hl : ds15[i]? = some l := hl
                    have hlb := hok.2.2.2 _ _ hl
                    have hmem := wk_mem (show sbC xs15 ds15 n16 = 0 by omega) hx hl
                    have hxo : isName x.id = true ∧ (0 ≤ x.nd ∧ x.nd ≤ 15) ∧ (1 ≤ x.tr ∧ x.tr ≤ 100000) ∧ (0 ≤ x.su ∧ x.su ≤ 18000) ∧ (0 ≤ x.re ∧ x.re ≤ x.su - 1) := (hok.1.2 i x hx).1
                    refine ev_nil (hK85 _ ?_); clear hK85
                    refine good_condT rfl ?_
                    refine good_skip (hK84 _ ?_); clear hK84
                    refine good_seq fun K89 hK89 => ?_
                    refine good_block ?_
                    refine good_seq fun K90 hK90 => ?_
                    refine good_draw 15 hmix (by kernel_rfl) rfl ?_
                    refine qo_q rfl (q_move (by conv => lhs; whnf) ?_)
                    refine qo_q rfl (q_move (by conv => lhs; whnf) ?_)
                    refine qo_q rfl (q_idx tE35 rfl rfl (by exact Int.natCast_nonneg _) (by exact map_get hx) rfl ?_)
                    refine qo_q rfl (q_loadA tA25 rfl rfl rfl ?_)
                    refine qo_q rfl (q_move (by conv => lhs; whnf) ?_)
                    refine qo_q rfl (q_move (by conv => lhs; whnf) ?_)
                    refine qo_q rfl (q_move (by conv => lhs; whnf) ?_)
                    refine qo_q rfl (q_idx tE36 rfl rfl (by exact Int.natCast_nonneg _) (by exact map_get hl) rfl ?_)
                    refine qo_q rfl (q_load tA2 rfl ?_)
                    refine qo_q rfl (q_call rfl rfl (rfl) (D_impl_PrimaryFlow _ _ _ _ _ _ _ (show _ ≤ _ by omega)) rfl ?_)
                    refine qo_q rfl (q_move (by conv => lhs; whnf) ?_)
                    refine qo_q rfl (q_extractI rfl rfl ?_)
                    intro n91 hn91
                    refine qo_q rfl (q_extractI rfl rfl ?_)
                    intro n92 hn92
                    rw [if_pos hxo, if_pos ⟨hok.2.1, hlb⟩] at hn92
                    have h96 : n92 = 6 ↔ 100000 < pfP x.tr x.su x.re n16 l := by rw [hn92]; split <;> omega
                    rw [← h96] at hmem
                    refine qo_q rfl (q_assign (by conv => lhs; whnf) ?_)
                    refine qo_q rfl (q_assign (by conv => lhs; whnf) ?_)
                    refine qo_nil ?_
                    refine ev_nil (hK90 _ ?_); clear hK90
                    refine good_seq fun K93 hK93 => ?_
                    refine good_region rfl ?_
                    refine ev_q rfl (q_move (by conv => lhs; whnf) ?_)
                    refine ev_q rfl (q_move (by conv => lhs; whnf) ?_)
                    refine ev_q rfl (q_callB rfl rfl (rfl) (D_laws_b10Has _ _ (by have := wkL_len (xs := xs15) (ds := ds15) (pr := n16); omega)) ?_)
                    intro b94 hb94; cases b94
                    · first | replace hb94 := dF hb94 | skip
                      refine ev_q rfl (q_move (by conv => lhs; whnf) ?_)
                      refine ev_q rfl (q_int rfl rfl ?_)
                      intro b95 hb95; cases b95
                      · replace hb95 := eqF hb95
                        refine ev_q rfl (q_bne tB4 rfl rfl ?_)
                        intro b96 hb96; replace hb96 : b96 = false := hb96; subst hb96
                        refine ev_nil (hK93 _ ?_); clear hK93
                        refine good_condF rfl ?_
                        refine good_skip (hK89 _ ?_); clear hK89
                        refine good_region rfl ?_
                        refine ev_q rfl (q_move (by conv => lhs; whnf) ?_)
                        refine ev_q rfl (q_int rfl rfl ?_)
                        intro n97 hn97
                        replace hn97 := in64 hn97 (by omega) (by omega)
                        refine ev_q rfl (q_assign (by conv => lhs; whnf) ?_)
                        refine ev_nil ?_
                        clear hK82
                        refine ⟨i + 1, ?_, ?_, ?_⟩
                        · show _ ≤ _; omega
                        · first | omega | (simp only []; omega) | (dsimp only; omega)
                        · refine sub_weak ?_ ?_
                          · exact weakH_none _
                          · refine weakE_upd ?e25 ?r25 (weakE_upd ?e21 ?r21 (weakE_upd ?e20 ?r20 (weakE_upd ?e19 ?r19 (weakE_upd ?e18 ?r18 (weakE_junk _ _)))))
                            case e18 => first | rfl | exact fI (by omega) | (simp_all)
                            case r18 => intro h hh; cases hh
                            case e19 => first | rfl | exact fI (by omega) | (simp_all)
                            case r19 => intro h hh; cases hh
                            case e20 => first | rfl | exact fI (by omega) | (simp_all)
                            case r20 => intro h hh; cases hh
                            case e21 => first | rfl | exact fI (by omega) | (simp_all)
                            case r21 => intro h hh; cases hh
                            case e25 => first | rfl | exact fI (by omega) | (simp_all)
                            case r25 => intro h hh; cases hh
                      · replace hb95 := eqT hb95
                        refine ev_q rfl (q_bne tB4 rfl rfl ?_)
                        intro b98 hb98; replace hb98 : b98 = true := hb98; subst hb98
                        refine ev_nil (hK93 _ ?_); clear hK93
                        refine good_condT rfl ?_
                        refine good_seq fun K99 hK99 => ?_
                        refine good_region rfl ?_
                        refine ev_q rfl (q_assign (by conv => lhs; whnf) ?_)
                        refine ev_nil (hK99 _ ?_); clear hK99
                        refine good_ret ?_
                        repeat (first | refine thenQ_ret ?_ | refine blockQ_ret ?_)
                        refine ret_tmp (st := _) rfl (by conv => lhs; whnf) rfl ?_
                        clear hK82 hK89
                        first | rfl | (exfalso; first | omega | exact hE | contradiction | exact absurd (hmem.1 (by assumption)) (by assumption) | exact absurd (hmem.2 (by assumption)) (by assumption) | (simp_all; done))
                    · first | replace hb94 := dT hb94 | skip
                      refine ev_q rfl (q_move (by conv => lhs; whnf) ?_)
                      refine ev_q rfl (q_int rfl rfl ?_)
                      intro b100 hb100; cases b100
                      · replace hb100 := eqF hb100
                        refine ev_q rfl (q_bne tB4 rfl rfl ?_)
                        intro b101 hb101; replace hb101 : b101 = true := hb101; subst hb101
                        refine ev_nil (hK93 _ ?_); clear hK93
                        refine good_condT rfl ?_
                        refine good_seq fun K102 hK102 => ?_
                        refine good_region rfl ?_
                        refine ev_q rfl (q_assign (by conv => lhs; whnf) ?_)
                        refine ev_nil (hK102 _ ?_); clear hK102
                        refine good_ret ?_
                        repeat (first | refine thenQ_ret ?_ | refine blockQ_ret ?_)
                        refine ret_tmp (st := _) rfl (by conv => lhs; whnf) rfl ?_
                        clear hK82 hK89
                        first | rfl | (exfalso; first | omega | exact hE | contradiction | exact absurd (hmem.1 (by assumption)) (by assumption) | exact absurd (hmem.2 (by assumption)) (by assumption) | (simp_all; done))
                      · replace hb100 := eqT hb100
                        refine ev_q rfl (q_bne tB4 rfl rfl ?_)
                        intro b103 hb103; replace hb103 : b103 = false := hb103; subst hb103
                        refine ev_nil (hK93 _ ?_); clear hK93
                        refine good_condF rfl ?_
                        refine good_skip (hK89 _ ?_); clear hK89
                        refine good_region rfl ?_
                        refine ev_q rfl (q_move (by conv => lhs; whnf) ?_)
                        refine ev_q rfl (q_int rfl rfl ?_)
                        intro n104 hn104
                        replace hn104 := in64 hn104 (by omega) (by omega)
                        refine ev_q rfl (q_assign (by conv => lhs; whnf) ?_)
                        refine ev_nil ?_
                        clear hK82
                        refine ⟨i + 1, ?_, ?_, ?_⟩
                        · show _ ≤ _; omega
                        · first | omega | (simp only []; omega) | (dsimp only; omega)
                        · refine sub_weak ?_ ?_
                          · exact weakH_none _
                          · refine weakE_upd ?e25 ?r25 (weakE_upd ?e21 ?r21 (weakE_upd ?e20 ?r20 (weakE_upd ?e19 ?r19 (weakE_upd ?e18 ?r18 (weakE_junk _ _)))))
                            case e18 => first | rfl | exact fI (by omega) | (simp_all)
                            case r18 => intro h hh; cases hh
                            case e19 => first | rfl | exact fI (by omega) | (simp_all)
                            case r19 => intro h hh; cases hh
                            case e20 => first | rfl | exact fI (by omega) | (simp_all)
                            case r20 => intro h hh; cases hh
                            case e21 => first | rfl | exact fI (by omega) | (simp_all)
                            case r21 => intro h hh; cases hh
                            case e25 => first | rfl | exact fI (by omega) | (simp_all)
                            case r25 => intro h hh; cases hh
              · replace hb81 := eqT hb81
                refine ev_q rfl (q_move (by conv => lhs; whnf) ?_)
                refine ev_q rfl (q_move (by conv => lhs; whnf) ?_)
                refine ev_q rfl (q_int rfl rfl ?_)
                intro b105 hb105; cases b105
                · replace hb105 := dF hb105
                  refine ev_q rfl (q_move (by conv => lhs; whnf) ?_)
                  refine ev_q rfl (q_move (by conv => lhs; whnf) ?_)
                  refine ev_q rfl (q_move (by conv => lhs; whnf) ?_)
                  refine ev_q rfl (q_int rfl rfl ?_)
                  intro b106 hb106; cases b106
                  · replace hb106 := dF hb106
                    refine ev_q rfl (q_pickF rfl (by conv => lhs; whnf) ?_)
                    refine ev_q rfl (q_pickT rfl (by conv => lhs; whnf) ?_)
                    refine ev_q rfl (q_pickF rfl (by conv => lhs; whnf) ?_)
                    refine ev_nil (hK26 _ ?_); clear hK26
                    refine good_condF rfl ?_
                    refine good_skip (hK25 _ ?_); clear hK25
                    refine good_seq fun K107 hK107 => ?_
                    refine good_seq fun K108 hK108 => ?_
                    refine good_region rfl ?_
                    refine ev_q rfl (q_assign (by conv => lhs; whnf) ?_)
                    refine ev_nil (hK108 _ ?_); clear hK108
                    refine good_block ?_
                    refine good_loop (α := Nat) (fun i => { env := upd (upd (upd (upd (upd ((fun _ => .junk)) 18 (.lst 5 (xs15.map sbA))) 19 (.s (.int .i64 (n16)))) 20 (.lst 1 (ds15.map ci))) 21 (.lst 1 ((wkL xs15 ds15 n16).map ci))) 25 (.s (.int .i64 ((i : Int)))), H := fun _ => none }) (fun i => i ≤ xs15.length) (fun i => xs15.length - i) 0 ?_ ?_ ?_
                    · exact Nat.zero_le _
                    · refine sub_weak ?_ ?_
                      · exact weakH_none _
                      · refine weakE_upd ?e25 ?r25 (weakE_upd ?e21 ?r21 (weakE_upd ?e20 ?r20 (weakE_upd ?e19 ?r19 (weakE_upd ?e18 ?r18 (weakE_junk _ _)))))
                        case e18 => first | rfl | exact fI (by omega) | (simp_all)
                        case r18 => intro h hh; cases hh
                        case e19 => first | rfl | exact fI (by omega) | (simp_all)
                        case r19 => intro h hh; cases hh
                        case e20 => first | rfl | exact fI (by omega) | (simp_all)
                        case r20 => intro h hh; cases hh
                        case e21 => first | rfl | exact fI (by omega) | (simp_all)
                        case r21 => intro h hh; cases hh
                        case e25 => first | rfl | exact fI (by omega) | (simp_all)
                        case r25 => intro h hh; cases hh
                    · rintro i hI
                      refine good_seq fun K109 hK109 => ?_
                      refine good_seq fun K110 hK110 => ?_
                      refine good_region rfl ?_
                      refine ev_q rfl (q_move (by conv => lhs; whnf) ?_)
                      refine ev_q rfl (q_move (by conv => lhs; whnf) ?_)
                      refine ev_q rfl (q_len tEs35 rfl ?_)
                      intro n111 hn111
                      try simp only [List.length_map] at hn111
                      refine ev_q rfl (q_int rfl rfl ?_)
                      intro b112 hb112; cases b112
                      · replace hb112 := dF hb112
                        refine ev_nil (hK110 _ ?_); clear hK110
                        refine good_condF rfl ?_
                        refine good_exit ?_
                        repeat (first | refine thenQ_exit ?_ | refine blockQ_pass rfl ?_)
                        refine blockQ_exit (hK107 _ ?_); clear hK107
                        refine good_seq fun K113 hK113 => ?_
                        refine good_region rfl ?_
                        refine ev_q rfl (q_assign (by conv => lhs; whnf) ?_)
                        refine ev_nil (hK113 _ ?_); clear hK113
                        refine good_ret ?_
                        repeat (first | refine thenQ_ret ?_ | refine blockQ_ret ?_)
                        refine ret_tmp (st := _) rfl (by conv => lhs; whnf) rfl ?_
                        clear hK109
                        first | rfl | (exfalso; first | omega | exact hE | contradiction | exact absurd (hmem.1 (by assumption)) (by assumption) | exact absurd (hmem.2 (by assumption)) (by assumption) | (simp_all; done))
                      · replace hb112 := dT hb112
                        obtain ⟨x, hx⟩ := getL (xs := xs15) (n := (i : Int)) (by omega) (by omega)
                        replace hx : xs15[i]? = some x := hx
                        have hzp := hzz x (List.mem_of_getElem? hx)
                        have hok := sbC_ok (show sbC xs15 ds15 n16 = 0 by omega)
                        obtain ⟨l, hl⟩ := getL (xs := ds15) (n := (i : Int)) (by omega) (by have := hok.2.2.1; omega)
                        replace hl : ds15[i]? = some l := hl
                        have hlb := hok.2.2.2 _ _ hl
                        have hmem := wk_mem (show sbC xs15 ds15 n16 = 0 by omega) hx hl
                        have hxo : isName x.id = true ∧ (0 ≤ x.nd ∧ x.nd ≤ 15) ∧ (1 ≤ x.tr ∧ x.tr ≤ 100000) ∧ (0 ≤ x.su ∧ x.su ≤ 18000) ∧ (0 ≤ x.re ∧ x.re ≤ x.su - 1) := (hok.1.2 i x hx).1
                        refine ev_nil (hK110 _ ?_); clear hK110
                        refine good_condT rfl ?_
                        refine good_skip (hK109 _ ?_); clear hK109
                        refine good_seq fun K114 hK114 => ?_
                        refine good_block ?_
                        refine good_seq fun K115 hK115 => ?_
                        refine good_draw 15 hmix (by kernel_rfl) rfl ?_
                        refine qo_q rfl (q_move (by conv => lhs; whnf) ?_)
                        refine qo_q rfl (q_move (by conv => lhs; whnf) ?_)
                        refine qo_q rfl (q_idx tE35 rfl rfl (by exact Int.natCast_nonneg _) (by exact map_get hx) rfl ?_)
                        refine qo_q rfl (q_loadA tA25 rfl rfl rfl ?_)
                        refine qo_q rfl (q_move (by conv => lhs; whnf) ?_)
                        refine qo_q rfl (q_move (by conv => lhs; whnf) ?_)
                        refine qo_q rfl (q_move (by conv => lhs; whnf) ?_)
                        refine qo_q rfl (q_idx tE36 rfl rfl (by exact Int.natCast_nonneg _) (by exact map_get hl) rfl ?_)
                        refine qo_q rfl (q_load tA2 rfl ?_)
                        refine qo_q rfl (q_call rfl rfl (rfl) (D_impl_PrimaryFlow _ _ _ _ _ _ _ (show _ ≤ _ by omega)) rfl ?_)
                        refine qo_q rfl (q_move (by conv => lhs; whnf) ?_)
                        refine qo_q rfl (q_extractI rfl rfl ?_)
                        intro n116 hn116
                        refine qo_q rfl (q_extractI rfl rfl ?_)
                        intro n117 hn117
                        rw [if_pos hxo, if_pos ⟨hok.2.1, hlb⟩] at hn117
                        have h96 : n117 = 6 ↔ 100000 < pfP x.tr x.su x.re n16 l := by rw [hn117]; split <;> omega
                        rw [← h96] at hmem
                        refine qo_q rfl (q_assign (by conv => lhs; whnf) ?_)
                        refine qo_q rfl (q_assign (by conv => lhs; whnf) ?_)
                        refine qo_nil ?_
                        refine ev_nil (hK115 _ ?_); clear hK115
                        refine good_seq fun K118 hK118 => ?_
                        refine good_region rfl ?_
                        refine ev_q rfl (q_move (by conv => lhs; whnf) ?_)
                        refine ev_q rfl (q_move (by conv => lhs; whnf) ?_)
                        refine ev_q rfl (q_callB rfl rfl (rfl) (D_laws_b10Has _ _ (by have := wkL_len (xs := xs15) (ds := ds15) (pr := n16); omega)) ?_)
                        intro b119 hb119; cases b119
                        · first | replace hb119 := dF hb119 | skip
                          refine ev_q rfl (q_move (by conv => lhs; whnf) ?_)
                          refine ev_q rfl (q_int rfl rfl ?_)
                          intro b120 hb120; cases b120
                          · replace hb120 := eqF hb120
                            refine ev_q rfl (q_bne tB4 rfl rfl ?_)
                            intro b121 hb121; replace hb121 : b121 = false := hb121; subst hb121
                            refine ev_nil (hK118 _ ?_); clear hK118
                            refine good_condF rfl ?_
                            refine good_skip (hK114 _ ?_); clear hK114
                            refine good_region rfl ?_
                            refine ev_q rfl (q_move (by conv => lhs; whnf) ?_)
                            refine ev_q rfl (q_int rfl rfl ?_)
                            intro n122 hn122
                            replace hn122 := in64 hn122 (by omega) (by omega)
                            refine ev_q rfl (q_assign (by conv => lhs; whnf) ?_)
                            refine ev_nil ?_
                            clear hK107
                            refine ⟨i + 1, ?_, ?_, ?_⟩
                            · show _ ≤ _; omega
                            · first | omega | (simp only []; omega) | (dsimp only; omega)
                            · refine sub_weak ?_ ?_
                              · exact weakH_none _
                              · refine weakE_upd ?e25 ?r25 (weakE_upd ?e21 ?r21 (weakE_upd ?e20 ?r20 (weakE_upd ?e19 ?r19 (weakE_upd ?e18 ?r18 (weakE_junk _ _)))))
                                case e18 => first | rfl | exact fI (by omega) | (simp_all)
                                case r18 => intro h hh; cases hh
                                case e19 => first | rfl | exact fI (by omega) | (simp_all)
                                case r19 => intro h hh; cases hh
                                case e20 => first | rfl | exact fI (by omega) | (simp_all)
                                case r20 => intro h hh; cases hh
                                case e21 => first | rfl | exact fI (by omega) | (simp_all)
                                case r21 => intro h hh; cases hh
                                case e25 => first | rfl | exact fI (by omega) | (simp_all)
                                case r25 => intro h hh; cases hh
                          · replace hb120 := eqT hb120
                            refine ev_q rfl (q_bne tB4 rfl rfl ?_)
                            intro b123 hb123; replace hb123 : b123 = true := hb123; subst hb123
                            refine ev_nil (hK118 _ ?_); clear hK118
                            refine good_condT rfl ?_
                            refine good_seq fun K124 hK124 => ?_
                            refine good_region rfl ?_
                            refine ev_q rfl (q_assign (by conv => lhs; whnf) ?_)
                            refine ev_nil (hK124 _ ?_); clear hK124
                            refine good_ret ?_
                            repeat (first | refine thenQ_ret ?_ | refine blockQ_ret ?_)
                            refine ret_tmp (st := _) rfl (by conv => lhs; whnf) rfl ?_
                            clear hK107 hK114
                            first | rfl | (exfalso; first | omega | exact hE | contradiction | exact absurd (hmem.1 (by assumption)) (by assumption) | exact absurd (hmem.2 (by assumption)) (by assumption) | (simp_all; done))
                        · first | replace hb119 := dT hb119 | skip
                          refine ev_q rfl (q_move (by conv => lhs; whnf) ?_)
                          refine ev_q rfl (q_int rfl rfl ?_)
                          intro b125 hb125; cases b125
                          · replace hb125 := eqF hb125
                            refine ev_q rfl (q_bne tB4 rfl rfl ?_)
                            intro b126 hb126; replace hb126 : b126 = true := hb126; subst hb126
                            refine ev_nil (hK118 _ ?_); clear hK118
                            refine good_condT rfl ?_
                            refine good_seq fun K127 hK127 => ?_
                            refine good_region rfl ?_
                            refine ev_q rfl (q_assign (by conv => lhs; whnf) ?_)
                            refine ev_nil (hK127 _ ?_); clear hK127
                            refine good_ret ?_
                            repeat (first | refine thenQ_ret ?_ | refine blockQ_ret ?_)
                            refine ret_tmp (st := _) rfl (by conv => lhs; whnf) rfl ?_
                            clear hK107 hK114
                            first | rfl | (exfalso; first | omega | exact hE | contradiction | exact absurd (hmem.1 (by assumption)) (by assumption) | exact absurd (hmem.2 (by assumption)) (by assumption) | (simp_all; done))
                          · replace hb125 := eqT hb125
                            refine ev_q rfl (q_bne tB4 rfl rfl ?_)
                            intro b128 hb128; replace hb128 : b128 = false := hb128; subst hb128
                            refine ev_nil (hK118 _ ?_); clear hK118
                            refine good_condF rfl ?_
                            refine good_skip (hK114 _ ?_); clear hK114
                            refine good_region rfl ?_
                            refine ev_q rfl (q_move (by conv => lhs; whnf) ?_)
                            refine ev_q rfl (q_int rfl rfl ?_)
                            intro n129 hn129
                            replace hn129 := in64 hn129 (by omega) (by omega)
                            refine ev_q rfl (q_assign (by conv => lhs; whnf) ?_)
                            refine ev_nil ?_
                            clear hK107
                            refine ⟨i + 1, ?_, ?_, ?_⟩
                            · show _ ≤ _; omega
                            · first | omega | (simp only []; omega) | (dsimp only; omega)
                            · refine sub_weak ?_ ?_
                              · exact weakH_none _
                              · refine weakE_upd ?e25 ?r25 (weakE_upd ?e21 ?r21 (weakE_upd ?e20 ?r20 (weakE_upd ?e19 ?r19 (weakE_upd ?e18 ?r18 (weakE_junk _ _)))))
                                case e18 => first | rfl | exact fI (by omega) | (simp_all)
                                case r18 => intro h hh; cases hh
                                case e19 => first | rfl | exact fI (by omega) | (simp_all)
                                case r19 => intro h hh; cases hh
                                case e20 => first | rfl | exact fI (by omega) | (simp_all)
                                case r20 => intro h hh; cases hh
                                case e21 => first | rfl | exact fI (by omega) | (simp_all)
                                case r21 => intro h hh; cases hh
                                case e25 => first | rfl | exact fI (by omega) | (simp_all)
                                case r25 => intro h hh; cases hh
                  · replace hb106 := dT hb106
                    refine ev_q rfl (q_pickF rfl (by conv => lhs; whnf) ?_)
                    refine ev_q rfl (q_pickT rfl (by conv => lhs; whnf) ?_)
                    refine ev_q rfl (q_pickF rfl (by conv => lhs; whnf) ?_)
                    refine ev_nil (hK26 _ ?_); clear hK26
                    refine good_condT rfl ?_
                    refine good_seq fun K130 hK130 => ?_
                    refine good_region rfl ?_
                    refine ev_q rfl (q_assign (by conv => lhs; whnf) ?_)
                    refine ev_nil (hK130 _ ?_); clear hK130
                    refine good_ret ?_
                    repeat (first | refine thenQ_ret ?_ | refine blockQ_ret ?_)
                    refine ret_tmp (st := _) rfl (by conv => lhs; whnf) rfl ?_
                    clear hK25
                    first | rfl | (exfalso; first | omega | exact hE | contradiction | exact absurd (hmem.1 (by assumption)) (by assumption) | exact absurd (hmem.2 (by assumption)) (by assumption) | (simp_all; done))
                · replace hb105 := dT hb105
                  refine ev_q rfl (q_move (by conv => lhs; whnf) ?_)
                  refine ev_skip rfl ?_
                  refine ev_skip rfl ?_
                  refine ev_skip rfl ?_
                  refine ev_q rfl (q_pickT rfl (by conv => lhs; whnf) ?_)
                  refine ev_q rfl (q_pickT rfl (by conv => lhs; whnf) ?_)
                  refine ev_q rfl (q_pickF rfl (by conv => lhs; whnf) ?_)
                  refine ev_nil (hK26 _ ?_); clear hK26
                  refine good_condT rfl ?_
                  refine good_seq fun K131 hK131 => ?_
                  refine good_region rfl ?_
                  refine ev_q rfl (q_assign (by conv => lhs; whnf) ?_)
                  refine ev_nil (hK131 _ ?_); clear hK131
                  refine good_ret ?_
                  repeat (first | refine thenQ_ret ?_ | refine blockQ_ret ?_)
                  refine ret_tmp (st := _) rfl (by conv => lhs; whnf) rfl ?_
                  clear hK25
                  first | rfl | (exfalso; first | omega | exact hE | contradiction | exact absurd (hmem.1 (by assumption)) (by assumption) | exact absurd (hmem.2 (by assumption)) (by assumption) | (simp_all; done))
            · replace hb80 := neT hb80
              refine ev_q rfl (q_pickT rfl (by conv => lhs; whnf) ?_)
              refine ev_q rfl (q_move (by conv => lhs; whnf) ?_)
              refine ev_skip rfl ?_
              refine ev_skip rfl ?_
              refine ev_skip rfl ?_
              refine ev_skip rfl ?_
              refine ev_skip rfl ?_
              refine ev_skip rfl ?_
              refine ev_skip rfl ?_
              refine ev_skip rfl ?_
              refine ev_skip rfl ?_
              refine ev_skip rfl ?_
              refine ev_skip rfl ?_
              refine ev_q rfl (q_pickT rfl (by conv => lhs; whnf) ?_)
              refine ev_nil (hK26 _ ?_); clear hK26
              refine good_condT rfl ?_
              refine good_seq fun K132 hK132 => ?_
              refine good_region rfl ?_
              refine ev_q rfl (q_assign (by conv => lhs; whnf) ?_)
              refine ev_nil (hK132 _ ?_); clear hK132
              refine good_ret ?_
              repeat (first | refine thenQ_ret ?_ | refine blockQ_ret ?_)
              refine ret_tmp (st := _) rfl (by conv => lhs; whnf) rfl ?_
              clear hK25
              first | rfl | (exfalso; first | omega | exact hE | contradiction | exact absurd (hmem.1 (by assumption)) (by assumption) | exact absurd (hmem.2 (by assumption)) (by assumption) | (simp_all; done))
        · replace hb24 := neT hb24
          refine ev_nil (hK23 _ ?_); clear hK23
          refine good_condT rfl ?_
          refine good_seq fun K133 hK133 => ?_
          refine good_region rfl ?_
          refine ev_q rfl (q_move (by conv => lhs; whnf) ?_)
          refine ev_q rfl (q_move (by conv => lhs; whnf) ?_)
          refine ev_q rfl (q_int rfl rfl ?_)
          intro b134 hb134; cases b134
          · replace hb134 := eqF hb134
            refine ev_q rfl (q_move (by conv => lhs; whnf) ?_)
            refine ev_skip rfl ?_
            refine ev_skip rfl ?_
            refine ev_skip rfl ?_
            refine ev_q rfl (q_pickF rfl (by conv => lhs; whnf) ?_)
            refine ev_q rfl (q_assign (by conv => lhs; whnf) ?_)
            refine ev_nil (hK133 _ ?_); clear hK133
            refine good_ret ?_
            repeat (first | refine thenQ_ret ?_ | refine blockQ_ret ?_)
            refine ret_tmp (st := _) rfl (by conv => lhs; whnf) rfl ?_
            clear hK22
            first | rfl | (exfalso; first | omega | exact hE | contradiction | exact absurd (hmem.1 (by assumption)) (by assumption) | exact absurd (hmem.2 (by assumption)) (by assumption) | (simp_all; done))
          · replace hb134 := eqT hb134
            refine ev_q rfl (q_move (by conv => lhs; whnf) ?_)
            refine ev_q rfl (q_move (by conv => lhs; whnf) ?_)
            refine ev_q rfl (q_len tEs36 rfl ?_)
            intro n135 hn135
            try simp only [List.length_map] at hn135
            refine ev_q rfl (q_int rfl rfl ?_)
            intro b136 hb136; cases b136
            · replace hb136 := eqF hb136
              refine ev_q rfl (q_pickT rfl (by conv => lhs; whnf) ?_)
              refine ev_q rfl (q_assign (by conv => lhs; whnf) ?_)
              refine ev_nil (hK133 _ ?_); clear hK133
              refine good_ret ?_
              repeat (first | refine thenQ_ret ?_ | refine blockQ_ret ?_)
              refine ret_tmp (st := _) rfl (by conv => lhs; whnf) rfl ?_
              clear hK22
              first | rfl | (exfalso; first | omega | exact hE | contradiction | exact absurd (hmem.1 (by assumption)) (by assumption) | exact absurd (hmem.2 (by assumption)) (by assumption) | (simp_all; done))
            · replace hb136 := eqT hb136
              refine ev_q rfl (q_pickT rfl (by conv => lhs; whnf) ?_)
              refine ev_q rfl (q_assign (by conv => lhs; whnf) ?_)
              refine ev_nil (hK133 _ ?_); clear hK133
              refine good_ret ?_
              repeat (first | refine thenQ_ret ?_ | refine blockQ_ret ?_)
              refine ret_tmp (st := _) rfl (by conv => lhs; whnf) rfl ?_
              clear hK22
              first | rfl | (exfalso; first | omega | exact hE | contradiction | exact absurd (hmem.1 (by assumption)) (by assumption) | exact absurd (hmem.2 (by assumption)) (by assumption) | (simp_all; done))
      · refine good_seq fun K137 hK137 => ?_
        refine good_region rfl ?_
        refine ev_q rfl (q_move (by conv => lhs; whnf) ?_)
        refine ev_q rfl (q_int rfl rfl ?_)
        intro b138 hb138; cases b138
        · replace hb138 := eqF hb138
          refine ev_nil (hK137 _ ?_); clear hK137
          refine good_condF rfl ?_
          refine good_skip (hK13 _ ?_); clear hK13
          refine sub_weak ?_ ?_
          · exact weakH_none _
          · refine weakE_upd ?e1 ?r1 (weakE_upd ?e0 ?r0 (weakE_junk _ _))
            case e0 => first | rfl | exact fI (by omega) | (rfl)
            case r0 => intro h hh; cases hh
            case e1 => first | rfl | exact fI (by omega) | (rfl)
            case r1 => intro h hh; cases hh
        · replace hb138 := eqT hb138
          obtain ⟨hA, hB, hC, hbk⟩ := if4 hn11 hn12 (by omega)
          have hrt := rt_law hA.2.2.1 hA.2.2.2.1 hA.2.2.2.2.1 hB.1 hB.2 (by omega) hbk
          obtain ⟨hr1, hr2, hr3, hr4⟩ := hrt
          refine ev_nil (hK137 _ ?_); clear hK137
          refine good_condT rfl ?_
          refine good_seq fun K139 hK139 => ?_
          refine good_region rfl ?_
          refine ev_q rfl (q_loadA tA25 rfl rfl rfl ?_)
          refine ev_q rfl (q_move (by conv => lhs; whnf) ?_)
          refine ev_q rfl (q_move (by conv => lhs; whnf) ?_)
          refine ev_q rfl (q_call rfl rfl (rfl) (D_impl_PowerAt _ _ _ _ _ _ _ (show _ ≤ _ by omega)) rfl ?_)
          refine ev_q rfl (q_move (by conv => lhs; whnf) ?_)
          refine ev_q rfl (q_extractI rfl rfl ?_)
          intro n140 hn140
          refine ev_q rfl (q_extractI rfl rfl ?_)
          intro n141 hn141
          obtain ⟨e55, e54⟩ := if2T hn140 hn141 hA hB
          rw [← e54] at hr2 hr3 hr4
          refine ev_q rfl (q_assign (by conv => lhs; whnf) ?_)
          refine ev_q rfl (q_assign (by conv => lhs; whnf) ?_)
          refine ev_nil (hK139 _ ?_); clear hK139
          refine good_seq fun K142 hK142 => ?_
          refine good_region rfl ?_
          refine ev_q rfl (q_move (by conv => lhs; whnf) ?_)
          refine ev_q rfl (q_move (by conv => lhs; whnf) ?_)
          refine ev_q rfl (q_move (by conv => lhs; whnf) ?_)
          refine ev_q rfl (q_call rfl rfl (rfl) (D_spec_HeatPower _ _ _) rfl ?_)
          refine ev_q rfl (q_move (by conv => lhs; whnf) ?_)
          refine ev_q rfl (q_extractI rfl rfl ?_)
          intro n143 hn143
          refine ev_q rfl (q_extractI rfl rfl ?_)
          intro n144 hn144
          have hcd : (0 ≤ n9 ∧ n9 ≤ 100000) ∧ (0 ≤ n8 ∧ n8 ≤ 18000) ∧ (0 ≤ n11 ∧ n11 ≤ n8) := ⟨hB.2, hB.1, by omega, by omega⟩
          rw [if_pos hcd] at hn144
          have e61 := hn143
          rw [if_pos hcd] at e61
          rw [← e61] at hr3
          refine ev_q rfl (q_assign (by conv => lhs; whnf) ?_)
          refine ev_q rfl (q_assign (by conv => lhs; whnf) ?_)
          refine ev_nil (hK142 _ ?_); clear hK142
          refine good_seq fun K145 hK145 => ?_
          refine good_region rfl ?_
          refine ev_q rfl (q_loadA tA25 rfl rfl rfl ?_)
          refine ev_q rfl (q_move (by conv => lhs; whnf) ?_)
          refine ev_q rfl (q_move (by conv => lhs; whnf) ?_)
          refine ev_q rfl (q_call rfl rfl (rfl) (D_impl_MeanDifference _ _ _ _ _ _ _ (show _ ≤ _ by omega)) rfl ?_)
          refine ev_q rfl (q_move (by conv => lhs; whnf) ?_)
          refine ev_q rfl (q_extractI rfl rfl ?_)
          intro n146 hn146
          refine ev_q rfl (q_extractI rfl rfl ?_)
          intro n147 hn147
          obtain ⟨e69, e68⟩ := if2T hn146 hn147 hA ⟨hB.1, by omega, by omega⟩
          have e68m : n146 = mdP v7.su v7.re n8 n11 := e68
          rw [← e68m] at hr4
          refine ev_q rfl (q_assign (by conv => lhs; whnf) ?_)
          refine ev_q rfl (q_assign (by conv => lhs; whnf) ?_)
          refine ev_nil (hK145 _ ?_); clear hK145
          refine good_seq fun K148 hK148 => ?_
          refine good_seq fun K149 hK149 => ?_
          refine good_region rfl ?_
          refine ev_q rfl (q_move (by conv => lhs; whnf) ?_)
          refine ev_q rfl (q_fieldAddrP fO25_4 rfl rfl ?_)
          refine ev_q rfl (q_load tA2 rfl ?_)
          refine ev_q rfl (q_int rfl rfl ?_)
          intro b150 hb150; cases b150
          · replace hb150 := dF hb150
            refine ev_q rfl (q_move (by conv => lhs; whnf) ?_)
            refine ev_q rfl (q_move (by conv => lhs; whnf) ?_)
            refine ev_q rfl (q_move (by conv => lhs; whnf) ?_)
            refine ev_q rfl (q_int rfl rfl ?_)
            intro b151 hb151; cases b151
            · replace hb151 := dF hb151
              refine ev_q rfl (q_pickF rfl (by conv => lhs; whnf) ?_)
              refine ev_q rfl (q_move (by conv => lhs; whnf) ?_)
              refine ev_q rfl (q_move (by conv => lhs; whnf) ?_)
              refine ev_q rfl (q_int rfl rfl ?_)
              intro b152 hb152; cases b152
              · replace hb152 := neF hb152
                refine ev_q rfl (q_pickF rfl (by conv => lhs; whnf) ?_)
                refine ev_q rfl (q_move (by conv => lhs; whnf) ?_)
                refine ev_q rfl (q_move (by conv => lhs; whnf) ?_)
                refine ev_q rfl (q_int rfl rfl ?_)
                intro b153 hb153; cases b153
                · replace hb153 := dF hb153
                  refine ev_q rfl (q_pickF rfl (by conv => lhs; whnf) ?_)
                  refine ev_q rfl (q_move (by conv => lhs; whnf) ?_)
                  refine ev_q rfl (q_move (by conv => lhs; whnf) ?_)
                  refine ev_q rfl (q_int rfl rfl ?_)
                  intro b154 hb154; cases b154
                  · replace hb154 := neF hb154
                    refine ev_q rfl (q_pickF rfl (by conv => lhs; whnf) ?_)
                    refine ev_q rfl (q_move (by conv => lhs; whnf) ?_)
                    refine ev_q rfl (q_move (by conv => lhs; whnf) ?_)
                    refine ev_q rfl (q_move (by conv => lhs; whnf) ?_)
                    refine ev_q rfl (q_int rfl rfl ?_)
                    intro b155 hb155; cases b155
                    · replace hb155 := dF hb155
                      refine ev_q rfl (q_pickF rfl (by conv => lhs; whnf) ?_)
                      refine ev_q rfl (q_move (by conv => lhs; whnf) ?_)
                      refine ev_q rfl (q_move (by conv => lhs; whnf) ?_)
                      refine ev_q rfl (q_int rfl rfl ?_)
                      intro b156 hb156; cases b156
                      · replace hb156 := neF hb156
                        refine ev_q rfl (q_pickF rfl (by conv => lhs; whnf) ?_)
                        refine ev_q rfl (q_move (by conv => lhs; whnf) ?_)
                        refine ev_q rfl (q_move (by conv => lhs; whnf) ?_)
                        refine ev_q rfl (q_int rfl rfl ?_)
                        intro b157 hb157; cases b157
                        · replace hb157 := dF hb157
                          refine ev_q rfl (q_move (by conv => lhs; whnf) ?_)
                          refine ev_skip rfl ?_
                          refine ev_skip rfl ?_
                          refine ev_skip rfl ?_
                          refine ev_skip rfl ?_
                          refine ev_skip rfl ?_
                          refine ev_skip rfl ?_
                          refine ev_skip rfl ?_
                          refine ev_q rfl (q_pickF rfl (by conv => lhs; whnf) ?_)
                          refine ev_q rfl (q_pickF rfl (by conv => lhs; whnf) ?_)
                          refine ev_nil (hK149 _ ?_); clear hK149
                          refine good_condF rfl ?_
                          refine good_skip (hK148 _ ?_); clear hK148
                          refine good_seq fun K158 hK158 => ?_
                          refine good_region rfl ?_
                          refine ev_q rfl (q_loadA tA25 rfl rfl rfl ?_)
                          refine ev_q rfl (q_call rfl rfl (rfl) (D_impl_SubstationText _ _ _ _ _ (show _ ≤ _ by omega)) rfl ?_)
                          refine ev_q rfl (q_call rfl rfl (rfl) (W_rs hA) rfl ?_)
                          refine ev_q rfl (q_move (by conv => lhs; whnf) ?_)
                          refine ev_q rfl (q_extract rfl rfl ?_)
                          refine ev_q rfl (q_extractB rfl rfl ?_)
                          intro b159 hb159; cases b159
                          · first | replace hb159 := dF hb159 | skip
                            refine ev_k rfl (k_alloc zA25 rfl ?_)
                            refine ev_k rfl (k_store sz25 rfl (by conv => lhs; whnf) rfl rfl rfl (Nat.le_of_ble_eq_true rfl) rfl ?_)
                            refine ev_q rfl (q_assign (by conv => lhs; whnf) ?_)
                            refine ev_nil (hK158 _ ?_); clear hK158
                            refine good_seq fun K160 hK160 => ?_
                            refine good_region rfl ?_
                            refine ev_q rfl (q_move (by conv => lhs; whnf) ?_)
                            refine ev_q rfl (q_not rfl rfl ?_)
                            refine ev_q rfl (q_move (by conv => lhs; whnf) ?_)
                            refine ev_skip rfl ?_
                            refine ev_skip rfl ?_
                            refine ev_skip rfl ?_
                            refine ev_q rfl (q_pickT rfl (by conv => lhs; whnf) ?_)
                            refine ev_nil (hK160 _ ?_); clear hK160
                            refine good_condT rfl ?_
                            refine good_seq fun K161 hK161 => ?_
                            refine good_region rfl ?_
                            refine ev_q rfl (q_assign (by conv => lhs; whnf) ?_)
                            refine ev_nil (hK161 _ ?_); clear hK161
                            refine good_ret ?_
                            repeat (first | refine thenQ_ret ?_ | refine blockQ_ret ?_)
                            refine ret_tmp (st := _) rfl (by conv => lhs; whnf) rfl ?_
                            clear hK13
                            first | rfl | (exfalso; first | omega | exact hE | contradiction | exact absurd (hmem.1 (by assumption)) (by assumption) | exact absurd (hmem.2 (by assumption)) (by assumption) | (simp_all; done))
                          · first | replace hb159 := dT hb159 | skip
                            refine ev_k rfl (k_alloc zA25 rfl ?_)
                            refine ev_k rfl (k_store sz25 rfl (by conv => lhs; whnf) rfl rfl rfl (Nat.le_of_ble_eq_true rfl) rfl ?_)
                            refine ev_q rfl (q_assign (by conv => lhs; whnf) ?_)
                            refine ev_nil (hK158 _ ?_); clear hK158
                            refine good_seq fun K162 hK162 => ?_
                            refine good_region rfl ?_
                            refine ev_q rfl (q_move (by conv => lhs; whnf) ?_)
                            refine ev_q rfl (q_not rfl rfl ?_)
                            refine ev_q rfl (q_move (by conv => lhs; whnf) ?_)
                            refine ev_q rfl (q_loadA tA25 rfl rfl rfl ?_)
                            refine ev_q rfl (q_loadA tA25 rfl rfl rfl ?_)
                            refine ev_q rfl (q_neA tEq25 rfl rfl (by conv => lhs; whnf) rfl rfl ?_)
                            intro b163 hb163; cases b163
                            · refine ev_q rfl (q_pickF rfl (by conv => lhs; whnf) ?_)
                              refine ev_nil (hK162 _ ?_); clear hK162
                              refine good_condF rfl ?_
                              refine good_skip (hK13 _ ?_); clear hK13
                              refine sub_weak ?_ ?_
                              · exact weakH_none _
                              · refine weakE_upd ?e1 ?r1 (weakE_upd ?e0 ?r0 (weakE_junk _ _))
                                case e0 => first | rfl | exact fI (by omega) | (rfl)
                                case r0 => intro h hh; cases hh
                                case e1 => first | rfl | exact fI (by omega) | (rfl)
                                case r1 => intro h hh; cases hh
                            · have hE : False := by simp at hb163
                              refine ev_q rfl (q_pickF rfl (by conv => lhs; whnf) ?_)
                              refine ev_nil (hK162 _ ?_); clear hK162
                              refine good_condT rfl ?_
                              refine good_seq fun K164 hK164 => ?_
                              refine good_region rfl ?_
                              refine ev_q rfl (q_assign (by conv => lhs; whnf) ?_)
                              refine ev_nil (hK164 _ ?_); clear hK164
                              refine good_ret ?_
                              repeat (first | refine thenQ_ret ?_ | refine blockQ_ret ?_)
                              refine ret_tmp (st := _) rfl (by conv => lhs; whnf) rfl ?_
                              clear hK13
                              first | rfl | (exfalso; first | omega | exact hE | contradiction | exact absurd (hmem.1 (by assumption)) (by assumption) | exact absurd (hmem.2 (by assumption)) (by assumption) | (simp_all; done))
                        · replace hb157 := dT hb157
                          obtain ⟨hr5, hr6⟩ := hr4 (by omega)
                          refine ev_q rfl (q_move (by conv => lhs; whnf) ?_)
                          refine ev_q rfl (q_fieldAddrP fO25_2 rfl rfl ?_)
                          refine ev_q rfl (q_load tA2 rfl ?_)
                          refine ev_q rfl (q_move (by conv => lhs; whnf) ?_)
                          refine ev_q rfl (q_int rfl rfl ?_)
                          intro n165 hn165
                          replace hn165 := in64 hn165 (by omega) (by omega)
                          refine ev_q rfl (q_callI rfl rfl (rfl) (D_laws_b10Div _ (by omega)) ?_)
                          intro n166 hn166
                          rw [hn165] at hn166
                          rw [← hn166] at hr6
                          refine ev_q rfl (q_move (by conv => lhs; whnf) ?_)
                          refine ev_q rfl (q_int rfl rfl ?_)
                          intro b167 hb167; cases b167
                          · replace hb167 := dF hb167
                            refine ev_q rfl (q_pickT rfl (by conv => lhs; whnf) ?_)
                            refine ev_q rfl (q_pickF rfl (by conv => lhs; whnf) ?_)
                            refine ev_nil (hK149 _ ?_); clear hK149
                            refine good_condF rfl ?_
                            refine good_skip (hK148 _ ?_); clear hK148
                            refine good_seq fun K168 hK168 => ?_
                            refine good_region rfl ?_
                            refine ev_q rfl (q_loadA tA25 rfl rfl rfl ?_)
                            refine ev_q rfl (q_call rfl rfl (rfl) (D_impl_SubstationText _ _ _ _ _ (show _ ≤ _ by omega)) rfl ?_)
                            refine ev_q rfl (q_call rfl rfl (rfl) (W_rs hA) rfl ?_)
                            refine ev_q rfl (q_move (by conv => lhs; whnf) ?_)
                            refine ev_q rfl (q_extract rfl rfl ?_)
                            refine ev_q rfl (q_extractB rfl rfl ?_)
                            intro b169 hb169; cases b169
                            · first | replace hb169 := dF hb169 | skip
                              refine ev_k rfl (k_alloc zA25 rfl ?_)
                              refine ev_k rfl (k_store sz25 rfl (by conv => lhs; whnf) rfl rfl rfl (Nat.le_of_ble_eq_true rfl) rfl ?_)
                              refine ev_q rfl (q_assign (by conv => lhs; whnf) ?_)
                              refine ev_nil (hK168 _ ?_); clear hK168
                              refine good_seq fun K170 hK170 => ?_
                              refine good_region rfl ?_
                              refine ev_q rfl (q_move (by conv => lhs; whnf) ?_)
                              refine ev_q rfl (q_not rfl rfl ?_)
                              refine ev_q rfl (q_move (by conv => lhs; whnf) ?_)
                              refine ev_skip rfl ?_
                              refine ev_skip rfl ?_
                              refine ev_skip rfl ?_
                              refine ev_q rfl (q_pickT rfl (by conv => lhs; whnf) ?_)
                              refine ev_nil (hK170 _ ?_); clear hK170
                              refine good_condT rfl ?_
                              refine good_seq fun K171 hK171 => ?_
                              refine good_region rfl ?_
                              refine ev_q rfl (q_assign (by conv => lhs; whnf) ?_)
                              refine ev_nil (hK171 _ ?_); clear hK171
                              refine good_ret ?_
                              repeat (first | refine thenQ_ret ?_ | refine blockQ_ret ?_)
                              refine ret_tmp (st := _) rfl (by conv => lhs; whnf) rfl ?_
                              clear hK13
                              first | rfl | (exfalso; first | omega | exact hE | contradiction | exact absurd (hmem.1 (by assumption)) (by assumption) | exact absurd (hmem.2 (by assumption)) (by assumption) | (simp_all; done))
                            · first | replace hb169 := dT hb169 | skip
                              refine ev_k rfl (k_alloc zA25 rfl ?_)
                              refine ev_k rfl (k_store sz25 rfl (by conv => lhs; whnf) rfl rfl rfl (Nat.le_of_ble_eq_true rfl) rfl ?_)
                              refine ev_q rfl (q_assign (by conv => lhs; whnf) ?_)
                              refine ev_nil (hK168 _ ?_); clear hK168
                              refine good_seq fun K172 hK172 => ?_
                              refine good_region rfl ?_
                              refine ev_q rfl (q_move (by conv => lhs; whnf) ?_)
                              refine ev_q rfl (q_not rfl rfl ?_)
                              refine ev_q rfl (q_move (by conv => lhs; whnf) ?_)
                              refine ev_q rfl (q_loadA tA25 rfl rfl rfl ?_)
                              refine ev_q rfl (q_loadA tA25 rfl rfl rfl ?_)
                              refine ev_q rfl (q_neA tEq25 rfl rfl (by conv => lhs; whnf) rfl rfl ?_)
                              intro b173 hb173; cases b173
                              · refine ev_q rfl (q_pickF rfl (by conv => lhs; whnf) ?_)
                                refine ev_nil (hK172 _ ?_); clear hK172
                                refine good_condF rfl ?_
                                refine good_skip (hK13 _ ?_); clear hK13
                                refine sub_weak ?_ ?_
                                · exact weakH_none _
                                · refine weakE_upd ?e1 ?r1 (weakE_upd ?e0 ?r0 (weakE_junk _ _))
                                  case e0 => first | rfl | exact fI (by omega) | (rfl)
                                  case r0 => intro h hh; cases hh
                                  case e1 => first | rfl | exact fI (by omega) | (rfl)
                                  case r1 => intro h hh; cases hh
                              · have hE : False := by simp at hb173
                                refine ev_q rfl (q_pickF rfl (by conv => lhs; whnf) ?_)
                                refine ev_nil (hK172 _ ?_); clear hK172
                                refine good_condT rfl ?_
                                refine good_seq fun K174 hK174 => ?_
                                refine good_region rfl ?_
                                refine ev_q rfl (q_assign (by conv => lhs; whnf) ?_)
                                refine ev_nil (hK174 _ ?_); clear hK174
                                refine good_ret ?_
                                repeat (first | refine thenQ_ret ?_ | refine blockQ_ret ?_)
                                refine ret_tmp (st := _) rfl (by conv => lhs; whnf) rfl ?_
                                clear hK13
                                first | rfl | (exfalso; first | omega | exact hE | contradiction | exact absurd (hmem.1 (by assumption)) (by assumption) | exact absurd (hmem.2 (by assumption)) (by assumption) | (simp_all; done))
                          · replace hb167 := dT hb167
                            refine ev_q rfl (q_pickT rfl (by conv => lhs; whnf) ?_)
                            refine ev_q rfl (q_pickF rfl (by conv => lhs; whnf) ?_)
                            refine ev_nil (hK149 _ ?_); clear hK149
                            refine good_condT rfl ?_
                            refine good_seq fun K175 hK175 => ?_
                            refine good_region rfl ?_
                            refine ev_q rfl (q_assign (by conv => lhs; whnf) ?_)
                            refine ev_nil (hK175 _ ?_); clear hK175
                            refine good_ret ?_
                            repeat (first | refine thenQ_ret ?_ | refine blockQ_ret ?_)
                            refine ret_tmp (st := _) rfl (by conv => lhs; whnf) rfl ?_
                            clear hK13 hK148
                            first | rfl | (exfalso; first | omega | exact hE | contradiction | exact absurd (hmem.1 (by assumption)) (by assumption) | exact absurd (hmem.2 (by assumption)) (by assumption) | (simp_all; done))
                      · replace hb156 := neT hb156
                        refine ev_q rfl (q_pickF rfl (by conv => lhs; whnf) ?_)
                        refine ev_q rfl (q_move (by conv => lhs; whnf) ?_)
                        refine ev_skip rfl ?_
                        refine ev_skip rfl ?_
                        refine ev_skip rfl ?_
                        refine ev_skip rfl ?_
                        refine ev_skip rfl ?_
                        refine ev_skip rfl ?_
                        refine ev_skip rfl ?_
                        refine ev_skip rfl ?_
                        refine ev_skip rfl ?_
                        refine ev_skip rfl ?_
                        refine ev_skip rfl ?_
                        refine ev_q rfl (q_pickT rfl (by conv => lhs; whnf) ?_)
                        refine ev_nil (hK149 _ ?_); clear hK149
                        refine good_condT rfl ?_
                        refine good_seq fun K176 hK176 => ?_
                        refine good_region rfl ?_
                        refine ev_q rfl (q_assign (by conv => lhs; whnf) ?_)
                        refine ev_nil (hK176 _ ?_); clear hK176
                        refine good_ret ?_
                        repeat (first | refine thenQ_ret ?_ | refine blockQ_ret ?_)
                        refine ret_tmp (st := _) rfl (by conv => lhs; whnf) rfl ?_
                        clear hK13 hK148
                        first | rfl | (exfalso; first | omega | exact hE | contradiction | exact absurd (hmem.1 (by assumption)) (by assumption) | exact absurd (hmem.2 (by assumption)) (by assumption) | (simp_all; done))
                    · replace hb155 := dT hb155
                      refine ev_q rfl (q_pickF rfl (by conv => lhs; whnf) ?_)
                      refine ev_q rfl (q_move (by conv => lhs; whnf) ?_)
                      refine ev_skip rfl ?_
                      refine ev_skip rfl ?_
                      refine ev_q rfl (q_pickT rfl (by conv => lhs; whnf) ?_)
                      refine ev_q rfl (q_move (by conv => lhs; whnf) ?_)
                      refine ev_skip rfl ?_
                      refine ev_skip rfl ?_
                      refine ev_skip rfl ?_
                      refine ev_skip rfl ?_
                      refine ev_skip rfl ?_
                      refine ev_skip rfl ?_
                      refine ev_skip rfl ?_
                      refine ev_skip rfl ?_
                      refine ev_skip rfl ?_
                      refine ev_skip rfl ?_
                      refine ev_skip rfl ?_
                      refine ev_q rfl (q_pickT rfl (by conv => lhs; whnf) ?_)
                      refine ev_nil (hK149 _ ?_); clear hK149
                      refine good_condT rfl ?_
                      refine good_seq fun K177 hK177 => ?_
                      refine good_region rfl ?_
                      refine ev_q rfl (q_assign (by conv => lhs; whnf) ?_)
                      refine ev_nil (hK177 _ ?_); clear hK177
                      refine good_ret ?_
                      repeat (first | refine thenQ_ret ?_ | refine blockQ_ret ?_)
                      refine ret_tmp (st := _) rfl (by conv => lhs; whnf) rfl ?_
                      clear hK13 hK148
                      first | rfl | (exfalso; first | omega | exact hE | contradiction | exact absurd (hmem.1 (by assumption)) (by assumption) | exact absurd (hmem.2 (by assumption)) (by assumption) | (simp_all; done))
                  · replace hb154 := neT hb154
                    refine ev_q rfl (q_pickF rfl (by conv => lhs; whnf) ?_)
                    refine ev_q rfl (q_move (by conv => lhs; whnf) ?_)
                    refine ev_skip rfl ?_
                    refine ev_skip rfl ?_
                    refine ev_skip rfl ?_
                    refine ev_q rfl (q_pickT rfl (by conv => lhs; whnf) ?_)
                    refine ev_q rfl (q_move (by conv => lhs; whnf) ?_)
                    refine ev_skip rfl ?_
                    refine ev_skip rfl ?_
                    refine ev_q rfl (q_pickT rfl (by conv => lhs; whnf) ?_)
                    refine ev_q rfl (q_move (by conv => lhs; whnf) ?_)
                    refine ev_skip rfl ?_
                    refine ev_skip rfl ?_
                    refine ev_skip rfl ?_
                    refine ev_skip rfl ?_
                    refine ev_skip rfl ?_
                    refine ev_skip rfl ?_
                    refine ev_skip rfl ?_
                    refine ev_skip rfl ?_
                    refine ev_skip rfl ?_
                    refine ev_skip rfl ?_
                    refine ev_skip rfl ?_
                    refine ev_q rfl (q_pickT rfl (by conv => lhs; whnf) ?_)
                    refine ev_nil (hK149 _ ?_); clear hK149
                    refine good_condT rfl ?_
                    refine good_seq fun K178 hK178 => ?_
                    refine good_region rfl ?_
                    refine ev_q rfl (q_assign (by conv => lhs; whnf) ?_)
                    refine ev_nil (hK178 _ ?_); clear hK178
                    refine good_ret ?_
                    repeat (first | refine thenQ_ret ?_ | refine blockQ_ret ?_)
                    refine ret_tmp (st := _) rfl (by conv => lhs; whnf) rfl ?_
                    clear hK13 hK148
                    first | rfl | (exfalso; first | omega | exact hE | contradiction | exact absurd (hmem.1 (by assumption)) (by assumption) | exact absurd (hmem.2 (by assumption)) (by assumption) | (simp_all; done))
                · replace hb153 := dT hb153
                  refine ev_q rfl (q_pickF rfl (by conv => lhs; whnf) ?_)
                  refine ev_q rfl (q_move (by conv => lhs; whnf) ?_)
                  refine ev_skip rfl ?_
                  refine ev_skip rfl ?_
                  refine ev_q rfl (q_pickT rfl (by conv => lhs; whnf) ?_)
                  refine ev_q rfl (q_move (by conv => lhs; whnf) ?_)
                  refine ev_skip rfl ?_
                  refine ev_skip rfl ?_
                  refine ev_skip rfl ?_
                  refine ev_q rfl (q_pickT rfl (by conv => lhs; whnf) ?_)
                  refine ev_q rfl (q_move (by conv => lhs; whnf) ?_)
                  refine ev_skip rfl ?_
                  refine ev_skip rfl ?_
                  refine ev_q rfl (q_pickT rfl (by conv => lhs; whnf) ?_)
                  refine ev_q rfl (q_move (by conv => lhs; whnf) ?_)
                  refine ev_skip rfl ?_
                  refine ev_skip rfl ?_
                  refine ev_skip rfl ?_
                  refine ev_skip rfl ?_
                  refine ev_skip rfl ?_
                  refine ev_skip rfl ?_
                  refine ev_skip rfl ?_
                  refine ev_skip rfl ?_
                  refine ev_skip rfl ?_
                  refine ev_skip rfl ?_
                  refine ev_skip rfl ?_
                  refine ev_q rfl (q_pickT rfl (by conv => lhs; whnf) ?_)
                  refine ev_nil (hK149 _ ?_); clear hK149
                  refine good_condT rfl ?_
                  refine good_seq fun K179 hK179 => ?_
                  refine good_region rfl ?_
                  refine ev_q rfl (q_assign (by conv => lhs; whnf) ?_)
                  refine ev_nil (hK179 _ ?_); clear hK179
                  refine good_ret ?_
                  repeat (first | refine thenQ_ret ?_ | refine blockQ_ret ?_)
                  refine ret_tmp (st := _) rfl (by conv => lhs; whnf) rfl ?_
                  clear hK13 hK148
                  first | rfl | (exfalso; first | omega | exact hE | contradiction | exact absurd (hmem.1 (by assumption)) (by assumption) | exact absurd (hmem.2 (by assumption)) (by assumption) | (simp_all; done))
              · replace hb152 := neT hb152
                refine ev_q rfl (q_pickF rfl (by conv => lhs; whnf) ?_)
                refine ev_q rfl (q_move (by conv => lhs; whnf) ?_)
                refine ev_skip rfl ?_
                refine ev_skip rfl ?_
                refine ev_q rfl (q_pickT rfl (by conv => lhs; whnf) ?_)
                refine ev_q rfl (q_move (by conv => lhs; whnf) ?_)
                refine ev_skip rfl ?_
                refine ev_skip rfl ?_
                refine ev_q rfl (q_pickT rfl (by conv => lhs; whnf) ?_)
                refine ev_q rfl (q_move (by conv => lhs; whnf) ?_)
                refine ev_skip rfl ?_
                refine ev_skip rfl ?_
                refine ev_skip rfl ?_
                refine ev_q rfl (q_pickT rfl (by conv => lhs; whnf) ?_)
                refine ev_q rfl (q_move (by conv => lhs; whnf) ?_)
                refine ev_skip rfl ?_
                refine ev_skip rfl ?_
                refine ev_q rfl (q_pickT rfl (by conv => lhs; whnf) ?_)
                refine ev_q rfl (q_move (by conv => lhs; whnf) ?_)
                refine ev_skip rfl ?_
                refine ev_skip rfl ?_
                refine ev_skip rfl ?_
                refine ev_skip rfl ?_
                refine ev_skip rfl ?_
                refine ev_skip rfl ?_
                refine ev_skip rfl ?_
                refine ev_skip rfl ?_
                refine ev_skip rfl ?_
                refine ev_skip rfl ?_
                refine ev_skip rfl ?_
                refine ev_q rfl (q_pickT rfl (by conv => lhs; whnf) ?_)
                refine ev_nil (hK149 _ ?_); clear hK149
                refine good_condT rfl ?_
                refine good_seq fun K180 hK180 => ?_
                refine good_region rfl ?_
                refine ev_q rfl (q_assign (by conv => lhs; whnf) ?_)
                refine ev_nil (hK180 _ ?_); clear hK180
                refine good_ret ?_
                repeat (first | refine thenQ_ret ?_ | refine blockQ_ret ?_)
                refine ret_tmp (st := _) rfl (by conv => lhs; whnf) rfl ?_
                clear hK13 hK148
                first | rfl | (exfalso; first | omega | exact hE | contradiction | exact absurd (hmem.1 (by assumption)) (by assumption) | exact absurd (hmem.2 (by assumption)) (by assumption) | (simp_all; done))
            · replace hb151 := dT hb151
              refine ev_q rfl (q_pickF rfl (by conv => lhs; whnf) ?_)
              refine ev_q rfl (q_move (by conv => lhs; whnf) ?_)
              refine ev_skip rfl ?_
              refine ev_skip rfl ?_
              refine ev_q rfl (q_pickT rfl (by conv => lhs; whnf) ?_)
              refine ev_q rfl (q_move (by conv => lhs; whnf) ?_)
              refine ev_skip rfl ?_
              refine ev_skip rfl ?_
              refine ev_q rfl (q_pickT rfl (by conv => lhs; whnf) ?_)
              refine ev_q rfl (q_move (by conv => lhs; whnf) ?_)
              refine ev_skip rfl ?_
              refine ev_skip rfl ?_
              refine ev_q rfl (q_pickT rfl (by conv => lhs; whnf) ?_)
              refine ev_q rfl (q_move (by conv => lhs; whnf) ?_)
              refine ev_skip rfl ?_
              refine ev_skip rfl ?_
              refine ev_skip rfl ?_
              refine ev_q rfl (q_pickT rfl (by conv => lhs; whnf) ?_)
              refine ev_q rfl (q_move (by conv => lhs; whnf) ?_)
              refine ev_skip rfl ?_
              refine ev_skip rfl ?_
              refine ev_q rfl (q_pickT rfl (by conv => lhs; whnf) ?_)
              refine ev_q rfl (q_move (by conv => lhs; whnf) ?_)
              refine ev_skip rfl ?_
              refine ev_skip rfl ?_
              refine ev_skip rfl ?_
              refine ev_skip rfl ?_
              refine ev_skip rfl ?_
              refine ev_skip rfl ?_
              refine ev_skip rfl ?_
              refine ev_skip rfl ?_
              refine ev_skip rfl ?_
              refine ev_skip rfl ?_
              refine ev_skip rfl ?_
              refine ev_q rfl (q_pickT rfl (by conv => lhs; whnf) ?_)
              refine ev_nil (hK149 _ ?_); clear hK149
              refine good_condT rfl ?_
              refine good_seq fun K181 hK181 => ?_
              refine good_region rfl ?_
              refine ev_q rfl (q_assign (by conv => lhs; whnf) ?_)
              refine ev_nil (hK181 _ ?_); clear hK181
              refine good_ret ?_
              repeat (first | refine thenQ_ret ?_ | refine blockQ_ret ?_)
              refine ret_tmp (st := _) rfl (by conv => lhs; whnf) rfl ?_
              clear hK13 hK148
              first | rfl | (exfalso; first | omega | exact hE | contradiction | exact absurd (hmem.1 (by assumption)) (by assumption) | exact absurd (hmem.2 (by assumption)) (by assumption) | (simp_all; done))
          · replace hb150 := dT hb150
            refine ev_q rfl (q_move (by conv => lhs; whnf) ?_)
            refine ev_skip rfl ?_
            refine ev_skip rfl ?_
            refine ev_skip rfl ?_
            refine ev_q rfl (q_pickT rfl (by conv => lhs; whnf) ?_)
            refine ev_q rfl (q_move (by conv => lhs; whnf) ?_)
            refine ev_skip rfl ?_
            refine ev_skip rfl ?_
            refine ev_q rfl (q_pickT rfl (by conv => lhs; whnf) ?_)
            refine ev_q rfl (q_move (by conv => lhs; whnf) ?_)
            refine ev_skip rfl ?_
            refine ev_skip rfl ?_
            refine ev_q rfl (q_pickT rfl (by conv => lhs; whnf) ?_)
            refine ev_q rfl (q_move (by conv => lhs; whnf) ?_)
            refine ev_skip rfl ?_
            refine ev_skip rfl ?_
            refine ev_q rfl (q_pickT rfl (by conv => lhs; whnf) ?_)
            refine ev_q rfl (q_move (by conv => lhs; whnf) ?_)
            refine ev_skip rfl ?_
            refine ev_skip rfl ?_
            refine ev_skip rfl ?_
            refine ev_q rfl (q_pickT rfl (by conv => lhs; whnf) ?_)
            refine ev_q rfl (q_move (by conv => lhs; whnf) ?_)
            refine ev_skip rfl ?_
            refine ev_skip rfl ?_
            refine ev_q rfl (q_pickT rfl (by conv => lhs; whnf) ?_)
            refine ev_q rfl (q_move (by conv => lhs; whnf) ?_)
            refine ev_skip rfl ?_
            refine ev_skip rfl ?_
            refine ev_skip rfl ?_
            refine ev_skip rfl ?_
            refine ev_skip rfl ?_
            refine ev_skip rfl ?_
            refine ev_skip rfl ?_
            refine ev_skip rfl ?_
            refine ev_skip rfl ?_
            refine ev_skip rfl ?_
            refine ev_skip rfl ?_
            refine ev_q rfl (q_pickT rfl (by conv => lhs; whnf) ?_)
            refine ev_nil (hK149 _ ?_); clear hK149
            refine good_condT rfl ?_
            refine good_seq fun K182 hK182 => ?_
            refine good_region rfl ?_
            refine ev_q rfl (q_assign (by conv => lhs; whnf) ?_)
            refine ev_nil (hK182 _ ?_); clear hK182
            refine good_ret ?_
            repeat (first | refine thenQ_ret ?_ | refine blockQ_ret ?_)
            refine ret_tmp (st := _) rfl (by conv => lhs; whnf) rfl ?_
            clear hK13 hK148
            first | rfl | (exfalso; first | omega | exact hE | contradiction | exact absurd (hmem.1 (by assumption)) (by assumption) | exact absurd (hmem.2 (by assumption)) (by assumption) | (simp_all; done))
    · first | replace hb5 := dT hb5 | skip
      refine ev_q rfl (q_pickF rfl (by conv => lhs; whnf) ?_)
      refine ev_nil (hK3 _ ?_); clear hK3
      refine good_condT rfl ?_
      refine good_seq fun K183 hK183 => ?_
      refine good_region rfl ?_
      refine ev_q rfl (q_assign (by conv => lhs; whnf) ?_)
      refine ev_nil (hK183 _ ?_); clear hK183
      refine good_ret ?_
      repeat (first | refine thenQ_ret ?_ | refine blockQ_ret ?_)
      refine ret_tmp (st := _) rfl (by conv => lhs; whnf) rfl ?_
      clear hK2
      first | rfl | (exfalso; first | omega | exact hE | contradiction | exact absurd (hmem.1 (by assumption)) (by assumption) | exact absurd (hmem.2 (by assumption)) (by assumption) | (simp_all; done))
  · first | replace hb4 := dT hb4 | skip
    refine ev_q rfl (q_move (by conv => lhs; whnf) ?_)
    refine ev_skip rfl ?_
    refine ev_skip rfl ?_
    refine ev_q rfl (q_pickT rfl (by conv => lhs; whnf) ?_)
    refine ev_nil (hK3 _ ?_); clear hK3
    refine good_condT rfl ?_
    refine good_seq fun K184 hK184 => ?_
    refine good_region rfl ?_
    refine ev_q rfl (q_assign (by conv => lhs; whnf) ?_)
    refine ev_nil (hK184 _ ?_); clear hK184
    refine good_ret ?_
    repeat (first | refine thenQ_ret ?_ | refine blockQ_ret ?_)
    refine ret_tmp (st := _) rfl (by conv => lhs; whnf) rfl ?_
    clear hK2
    first | rfl | (exfalso; first | omega | exact hE | contradiction | exact absurd (hmem.1 (by assumption)) (by assumption) | exact absurd (hmem.2 (by assumption)) (by assumption) | (simp_all; done))

end Go.Proofs.YtodghlkodiidaaaGreatDoor.DFnReturns
