/- Walks through the functions that FnExactRenewPipes reaches: what each answers. -/
import Derived.Test.YtpoppoglnjoomaaDFnExactRenewPipesa
set_option linter.unusedVariables false
set_option linter.unusedSimpArgs false
namespace Go.Proofs.Ytpoppoglnjoomaa.DFnExactRenewPipes
open Go Go.RowKit Go.Proofs Go.Proofs.Ytpoppoglnjoomaa Go.Proofs.Ytpoppoglnjoomaa.Ev
-- impl.increasing
set_option maxRecDepth 20000 in
set_option maxHeartbeats 2000000 in
theorem D_impl_increasing (xs : List Int) (hx : xs.length ≤ 17592186044416) : Den Try.prog 122 [.lst 1 (xs.map ci)] (.s (.bool (decide (incP xs)))) := by
  refine den_of_good Try.func122 (by decide) rfl (Nat.le_of_ble_eq_true rfl) (Nat.le_of_ble_eq_true rfl) ?_
  refine good_seq fun K1 hK1 => ?_
  refine good_region rfl ?_
  refine ev_q rfl (q_assign (by conv => lhs; whnf) ?_)
  refine ev_nil (hK1 _ ?_); clear hK1
  refine good_seq fun K2 hK2 => ?_
  refine good_seq fun K3 hK3 => ?_
  refine good_region rfl ?_
  refine ev_q rfl (q_assign (by conv => lhs; whnf) ?_)
  refine ev_nil (hK3 _ ?_); clear hK3
  refine good_block ?_
  refine good_loop (α := Nat) (fun i => { env := upd (upd ((fun _ => .junk)) 0 (.lst 1 (xs.map ci))) 3 (.s (.int .i64 i)), H := fun _ => none }) (fun i => (1 ≤ i ∧ (i ≤ xs.length ∨ i = 1)) ∧ ∀ j q, j < i → xs[j]? = some q → inAt xs j q) (fun i => xs.length - i) 1 ?_ ?_ ?_
  · exact ⟨by omega, fun j u hj hu y h0 hy => by omega⟩
  · refine sub_weak ?_ ?_
    · exact weakH_none _
    · refine weakE_upd ?e3 ?r3 (weakE_upd ?e0 ?r0 (weakE_junk _ _))
      case e0 => first | rfl | exact fI (by omega) | (simp_all)
      case r0 => intro h hh; cases hh
      case e3 => first | rfl | exact fI (by omega) | (simp_all)
      case r3 => intro h hh; cases hh
  · rintro i ⟨hI, hJ⟩
    refine good_seq fun K4 hK4 => ?_
    refine good_seq fun K5 hK5 => ?_
    refine good_region rfl ?_
    refine ev_q rfl (q_move (by conv => lhs; whnf) ?_)
    refine ev_q rfl (q_move (by conv => lhs; whnf) ?_)
    refine ev_q rfl (q_len tEs22 rfl ?_)
    intro n6 hn6
    try simp only [List.length_map] at hn6
    refine ev_q rfl (q_int rfl rfl ?_)
    intro b7 hb7; cases b7
    · replace hb7 := dF hb7
      refine ev_nil (hK5 _ ?_); clear hK5
      refine good_condF rfl ?_
      refine good_exit ?_
      repeat (first | refine thenQ_exit ?_ | refine blockQ_pass rfl ?_)
      refine blockQ_exit (hK2 _ ?_); clear hK2
      refine good_seq fun K8 hK8 => ?_
      refine good_region rfl ?_
      refine ev_q rfl (q_assign (by conv => lhs; whnf) ?_)
      refine ev_nil (hK8 _ ?_); clear hK8
      refine good_ret ?_
      repeat (first | refine thenQ_ret ?_ | refine blockQ_ret ?_)
      refine ret_tmp (st := _) rfl (by conv => lhs; whnf) rfl ?_
      clear hK4
      first | exact fT (all_finS (Q := fun j q => inAt xs j q) hJ (by omega)) | exact fF (fun h => by have := h i q hq r (by omega) (by rw [← hr]; congr 1; omega); omega)
    · replace hb7 := dT hb7
      obtain ⟨q, hq⟩ := getL (xs := xs) (n := (i : Int)) (by omega) (by omega)
      replace hq : xs[i]? = some q := hq
      refine ev_nil (hK5 _ ?_); clear hK5
      refine good_condT rfl ?_
      refine good_skip (hK4 _ ?_); clear hK4
      refine good_seq fun K9 hK9 => ?_
      refine good_block ?_
      refine good_seq fun K10 hK10 => ?_
      refine good_draw 10 hmix (by kernel_rfl) rfl ?_
      refine qo_q rfl (q_move (by conv => lhs; whnf) ?_)
      refine qo_q rfl (q_move (by conv => lhs; whnf) ?_)
      refine qo_q rfl (q_idx tE22 rfl rfl (by exact Int.natCast_nonneg _) (by exact map_get hq) rfl ?_)
      refine qo_q rfl (q_load tA2 rfl ?_)
      refine qo_q rfl (q_move (by conv => lhs; whnf) ?_)
      refine qo_q rfl (q_move (by conv => lhs; whnf) ?_)
      refine qo_q rfl (q_int rfl rfl ?_)
      intro n11 hn11
      replace hn11 := in64 hn11 (by omega) (by omega)
      obtain ⟨r, hr⟩ := getL (xs := xs) (n := n11) (by omega) (by omega)
      refine qo_q rfl (q_idx tE22 rfl rfl (by omega) (by exact map_get hr) rfl ?_)
      refine qo_q rfl (q_load tA2 rfl ?_)
      refine qo_q rfl (q_int rfl rfl ?_)
      intro b12 hb12; cases b12
      · replace hb12 := dF hb12
        refine qo_nil ?_
        refine ev_nil (hK10 _ ?_); clear hK10
        refine good_condF rfl ?_
        refine good_skip (hK9 _ ?_); clear hK9
        refine good_region rfl ?_
        refine ev_q rfl (q_move (by conv => lhs; whnf) ?_)
        refine ev_q rfl (q_int rfl rfl ?_)
        intro n13 hn13
        replace hn13 := in64 hn13 (by omega) (by omega)
        refine ev_q rfl (q_assign (by conv => lhs; whnf) ?_)
        refine ev_nil ?_
        clear hK2
        refine ⟨i + 1, ?_, ?_, ?_⟩
        · exact ⟨by omega, all_extS (Q := fun j q => inAt xs j q) hJ hq (fun y h0 hy => by first | omega | (have e : some y = some r := hy.symm.trans (by rw [← hr]; congr 1; omega); cases e; omega))⟩
        · first | omega | (simp only []; omega) | (dsimp only; omega)
        · refine sub_weak ?_ ?_
          · exact weakH_none _
          · refine weakE_upd ?e3 ?r3 (weakE_upd ?e0 ?r0 (weakE_junk _ _))
            case e0 => first | rfl | exact fI (by omega) | (simp_all)
            case r0 => intro h hh; cases hh
            case e3 => first | rfl | exact fI (by omega) | (simp_all)
            case r3 => intro h hh; cases hh
      · replace hb12 := dT hb12
        refine qo_nil ?_
        refine ev_nil (hK10 _ ?_); clear hK10
        refine good_condT rfl ?_
        refine good_seq fun K14 hK14 => ?_
        refine good_region rfl ?_
        refine ev_q rfl (q_assign (by conv => lhs; whnf) ?_)
        refine ev_nil (hK14 _ ?_); clear hK14
        refine good_ret ?_
        repeat (first | refine thenQ_ret ?_ | refine blockQ_ret ?_)
        refine ret_tmp (st := _) rfl (by conv => lhs; whnf) rfl ?_
        clear hK2 hK9
        first | exact fT (all_finS (Q := fun j q => inAt xs j q) hJ (by omega)) | exact fF (fun h => by have := h i q hq r (by omega) (by rw [← hr]; congr 1; omega); omega)

-- spec.l04Closed
set_option maxRecDepth 20000 in
set_option maxHeartbeats 2000000 in
theorem D_spec_l04Closed (ns : List Int) (ps : List Pi) (xs : List Int) (hn : ns.length ≤ 17592186044416) (hp : ps.length ≤ 2513169434843) (hx : xs.length ≤ 17592186044416) : Den Try.prog 72 [.rp [.lst 1 (ns.map ci), .lst 6 (ps.map piA)], .lst 1 (xs.map ci)] (.s (.bool (decide (risesP xs 0 ((ps.length : Int) - 1))))) := by
  refine den_of_good Try.func72 (by decide) rfl (Nat.le_of_ble_eq_true rfl) (Nat.le_of_ble_eq_true rfl) ?_
  refine good_seq fun K1 hK1 => ?_
  refine good_region rfl ?_
  refine ev_q rfl (q_assign (by conv => lhs; whnf) ?_)
  refine ev_nil (hK1 _ ?_); clear hK1
  refine good_seq fun K2 hK2 => ?_
  refine good_region rfl ?_
  refine ev_q rfl (q_move (by conv => lhs; whnf) ?_)
  refine ev_q rfl (q_move (by conv => lhs; whnf) ?_)
  refine ev_q rfl (q_nilCheck (by conv => lhs; whnf) rfl ?_)
  refine ev_q rfl (q_fieldAddr fO31_1 rfl rfl ?_)
  refine ev_q rfl (q_load tA29 rfl ?_)
  refine ev_q rfl (q_len tEs29 rfl ?_)
  intro n3 hn3
  try simp only [List.length_map] at hn3
  refine ev_q rfl (q_int rfl rfl ?_)
  intro n4 hn4
  replace hn4 := in64 hn4 (by omega) (by omega)
  refine ev_q rfl (q_callB rfl rfl (rfl) (D_spec_l00Rises xs _ _ hx) ?_)
  intro b5 hb5; cases b5
  · first | replace hb5 := dF hb5 | skip
    refine ev_q rfl (q_assign (by conv => lhs; whnf) ?_)
    refine ev_nil (hK2 _ ?_); clear hK2
    refine good_ret ?_
    repeat (first | refine thenQ_ret ?_ | refine blockQ_ret ?_)
    refine ret_tmp (st := _) rfl (by conv => lhs; whnf) rfl ?_
    first | exact fT (by have h2 : risesP xs 0 n4 := (by assumption); rw [hn4, hn3] at h2; exact h2) | exact fF (by have h2 : ¬ risesP xs 0 n4 := (by assumption); rw [hn4, hn3] at h2; exact h2)
  · first | replace hb5 := dT hb5 | skip
    refine ev_q rfl (q_assign (by conv => lhs; whnf) ?_)
    refine ev_nil (hK2 _ ?_); clear hK2
    refine good_ret ?_
    repeat (first | refine thenQ_ret ?_ | refine blockQ_ret ?_)
    refine ret_tmp (st := _) rfl (by conv => lhs; whnf) rfl ?_
    first | exact fT (by have h2 : risesP xs 0 n4 := (by assumption); rw [hn4, hn3] at h2; exact h2) | exact fF (by have h2 : ¬ risesP xs 0 n4 := (by assumption); rw [hn4, hn3] at h2; exact h2)

-- (impl.Network).hasPipes
set_option maxRecDepth 20000 in
set_option maxHeartbeats 2000000 in
theorem D_impl_Network_hasPipes (ns : List Int) (ps : List Pi) (xs : List Int) (hn : ns.length ≤ 17592186044416) (hp : ps.length ≤ 2513169434843) (hx : xs.length ≤ 17592186044416) : Den Try.prog 75 [.agg [.lst 1 (ns.map ci), .lst 6 (ps.map piA)], .lst 1 (xs.map ci)] (.s (.bool (decide (risesP xs 0 ((ps.length : Int) - 1))))) := by
  refine den_of_good Try.func75 (by decide) rfl (Nat.le_of_ble_eq_true rfl) (Nat.le_of_ble_eq_true rfl) ?_
  refine good_seq fun K1 hK1 => ?_
  refine good_region rfl ?_
  refine ev_k rfl (k_box (by conv => lhs; whnf) rfl rfl rfl ?_)
  refine ev_q rfl (q_assign (by conv => lhs; whnf) ?_)
  refine ev_nil (hK1 _ ?_); clear hK1
  refine good_seq fun K2 hK2 => ?_
  refine good_region rfl ?_
  refine ev_q rfl (q_move (by conv => lhs; whnf) ?_)
  refine ev_q rfl (q_callB rfl rfl (rfl) (D_impl_increasing xs hx) ?_)
  intro b3 hb3; cases b3
  · first | replace hb3 := dF hb3 | skip
    refine ev_q rfl (q_move (by conv => lhs; whnf) ?_)
    refine ev_skip rfl ?_
    refine ev_skip rfl ?_
    refine ev_skip rfl ?_
    refine ev_skip rfl ?_
    refine ev_skip rfl ?_
    refine ev_skip rfl ?_
    refine ev_q rfl (q_pickF rfl (by conv => lhs; whnf) ?_)
    refine ev_q rfl (q_assign (by conv => lhs; whnf) ?_)
    refine ev_nil (hK2 _ ?_); clear hK2
    refine good_ret ?_
    repeat (first | refine thenQ_ret ?_ | refine blockQ_ret ?_)
    refine ret_tmp (st := _) rfl (by conv => lhs; whnf) rfl ?_
    first | exact fF (fun h => absurd (rises_inc h) (by assumption)) | (subst_vars; first | exact fT (rises_of (by assumption) (by assumption)) | exact fF (fun h => absurd (rises_in h) (by assumption)))
  · first | replace hb3 := dT hb3 | skip
    refine ev_q rfl (q_move (by conv => lhs; whnf) ?_)
    refine ev_q rfl (q_move (by conv => lhs; whnf) ?_)
    refine ev_q rfl (q_fieldAddrP fO31_1 rfl rfl ?_)
    refine ev_q rfl (q_load tA29 rfl ?_)
    refine ev_q rfl (q_len tEs29 rfl ?_)
    intro n4 hn4
    try simp only [List.length_map] at hn4
    refine ev_q rfl (q_int rfl rfl ?_)
    intro n5 hn5
    replace hn5 := in64 hn5 (by omega) (by omega)
    refine ev_q rfl (q_callB rfl rfl (rfl) (D_impl_allWithin xs _ _ hx) ?_)
    intro b6 hb6; cases b6
    · first | replace hb6 := dF hb6 | skip
      refine ev_q rfl (q_pickT rfl (by conv => lhs; whnf) ?_)
      refine ev_q rfl (q_assign (by conv => lhs; whnf) ?_)
      refine ev_nil (hK2 _ ?_); clear hK2
      refine good_ret ?_
      repeat (first | refine thenQ_ret ?_ | refine blockQ_ret ?_)
      refine ret_tmp (st := _) rfl (by conv => lhs; whnf) rfl ?_
      first | exact fF (fun h => absurd (rises_inc h) (by assumption)) | (subst_vars; first | exact fT (rises_of (by assumption) (by assumption)) | exact fF (fun h => absurd (rises_in h) (by assumption)))
    · first | replace hb6 := dT hb6 | skip
      refine ev_q rfl (q_pickT rfl (by conv => lhs; whnf) ?_)
      refine ev_q rfl (q_assign (by conv => lhs; whnf) ?_)
      refine ev_nil (hK2 _ ?_); clear hK2
      refine good_ret ?_
      repeat (first | refine thenQ_ret ?_ | refine blockQ_ret ?_)
      refine ret_tmp (st := _) rfl (by conv => lhs; whnf) rfl ?_
      first | exact fF (fun h => absurd (rises_inc h) (by assumption)) | (subst_vars; first | exact fT (rises_of (by assumption) (by assumption)) | exact fF (fun h => absurd (rises_in h) (by assumption)))

-- spec.l00Own
set_option maxRecDepth 20000 in
set_option maxHeartbeats 2000000 in
theorem D_spec_l00Own_X (xs : List Int) (hx : xs.length ≤ 17592186044416) : DenX Try.prog 139 [] [.lst 1 (xs.map ci)] [(5, .row 2 1 (xs.map ci))] (.own 5 xs.length) := by
  refine denX_of_good Try.func139 (by decide) rfl (Nat.le_of_ble_eq_true rfl) (Nat.le_of_ble_eq_true rfl) rfl ?_
  refine good_seq fun K1 hK1 => ?_
  refine good_region rfl ?_
  refine ev_q rfl (q_assign (by conv => lhs; whnf) ?_)
  refine ev_nil (hK1 _ ?_); clear hK1
  refine good_seq fun K2 hK2 => ?_
  refine good_region rfl ?_
  refine ev_k rfl (k_lit tE22 zA2 rfl rfl (by decide) (by decide) rfl rfl rfl ?_)
  refine ev_q rfl (q_move (by conv => lhs; whnf) ?_)
  refine ev_k rfl (k_app tApp22 rfl rfl (by simp) rfl (.inl rfl) (by simp [maxLen]; omega) (by simp; omega) ?_)
  refine ev_q rfl (q_assign (by conv => lhs; whnf) ?_)
  refine ev_nil (hK2 _ ?_); clear hK2
  refine good_ret ?_
  repeat (first | refine thenQ_ret ?_ | refine blockQ_ret ?_)
  refine fx_tmp rfl (by conv => lhs; whnf) ?_
  exact ⟨_, conv_eq (by first | rfl | (rw [e]; done) | (rw [e]; rfl) | exact ownEq (by first | omega | simp_all)), weakH_row (rowEq (by first | rfl | (rw [e]; done) | (rw [e]; rfl) | (simp_all; done))) (weakH_none _), refsIn_ok rfl⟩

-- spec.l04Own
set_option maxRecDepth 20000 in
set_option maxHeartbeats 2000000 in
theorem D_spec_l04Own_X (ns : List Int) (ps : List Pi) (hn : ns.length ≤ 17592186044416) (hp : ps.length ≤ 2513169434843) : DenX Try.prog 120 [] [.rp [.lst 1 (ns.map ci), .lst 6 (ps.map piA)]] [(900001, .row 2 1 (ns.map ci)), (13, .row 88 6 (ps.map piA))] (.agg [.own 900001 ns.length, .own 13 ps.length]) := by
  refine denX_of_good Try.func120 (by decide) rfl (Nat.le_of_ble_eq_true rfl) (Nat.le_of_ble_eq_true rfl) rfl ?_
  refine good_seq fun K1 hK1 => ?_
  refine good_region rfl ?_
  refine ev_k rfl (k_alloc zA31 rfl ?_)
  refine ev_nil (hK1 _ ?_); clear hK1
  refine good_seq fun K2 hK2 => ?_
  refine good_any 13 (listed := #[false, false, false, false, false, false, false, false, false, false, false, false, false]) rfl rfl hmix rfl ?_
  refine tn_first_q (i := 0) (listed' := #[true, false, false, false, false, false, false, false, false, false, false, false, false]) rfl rfl (by kernel_rfl) rfl (q_move (by conv => lhs; whnf) ?_)
  refine tn_first_q (i := 1) (listed' := #[true, true, false, false, false, false, false, false, false, false, false, false, false]) rfl rfl (by kernel_rfl) rfl (q_nilCheck (by conv => lhs; whnf) rfl ?_)
  refine tn_first_q (i := 2) (listed' := #[true, true, true, false, false, false, false, false, false, false, false, false, false]) rfl rfl (by kernel_rfl) rfl (q_fieldAddr fO31_0 rfl rfl ?_)
  refine tn_first_q (i := 6) (listed' := #[true, true, true, false, false, false, true, false, false, false, false, false, false]) rfl rfl (by kernel_rfl) rfl (q_move (by conv => lhs; whnf) ?_)
  refine tn_first_q (i := 7) (listed' := #[true, true, true, false, false, false, true, true, false, false, false, false, false]) rfl rfl (by kernel_rfl) rfl (q_nilCheck (by conv => lhs; whnf) rfl ?_)
  refine tn_first_q (i := 8) (listed' := #[true, true, true, false, false, false, true, true, true, false, false, false, false]) rfl rfl (by kernel_rfl) rfl (q_fieldAddr fO31_1 rfl rfl ?_)
  refine tn_step [3, 5, 9] (by kernel_rfl) rfl ?_
  refine ⟨?_, ?_, ?_, trivial⟩
  · refine tn_q (listed' := #[true, true, true, true, false, false, true, true, true, false, false, false, false]) rfl rfl rfl (q_load tA22 rfl ?_)
    refine tn_step [4, 5, 9] (by kernel_rfl) rfl ?_
    refine ⟨?_, ?_, ?_, trivial⟩
    · refine tn_k (listed' := #[true, true, true, true, true, false, true, true, true, false, false, false, false]) rfl rfl rfl rfl (k_callX [(5, 900001)] (D_spec_l00Own_X ns hn) rfl (rfl) (rfl) trivial ⟨⟨rfl, show (900001 : Nat) < 1000000 by decide⟩, trivial⟩ rfl rfl rfl ?_)
      refine tn_step [5, 9] (by kernel_rfl) rfl ?_
      refine ⟨?_, ?_, trivial⟩
      · refine tn_k (listed' := #[true, true, true, true, true, true, true, true, true, false, false, false, false]) rfl rfl rfl rfl (k_lit tE29 zA88 rfl rfl (by decide) (by decide) rfl rfl rfl ?_)
        refine tn_first_q (i := 9) (listed' := #[true, true, true, true, true, true, true, true, true, true, false, false, false]) rfl rfl (by kernel_rfl) rfl (q_load tA29 rfl ?_)
        refine tn_step [10] (by kernel_rfl) rfl ?_
        refine ⟨?_, trivial⟩
        · refine tn_k (listed' := #[true, true, true, true, true, true, true, true, true, true, true, false, false]) rfl rfl rfl rfl (k_app tApp29 rfl rfl (by simp) rfl (.inl rfl) (by simp [maxLen]; omega) (by simp; omega) ?_)
          refine tn_step [11] (by kernel_rfl) rfl ?_
          refine ⟨?_, trivial⟩
          · refine tn_k (listed' := #[true, true, true, true, true, true, true, true, true, true, true, true, false]) rfl rfl rfl rfl (k_build zA31 pl31 (rfl) ?_)
            refine tn_step [12] (by kernel_rfl) rfl ?_
            refine ⟨?_, trivial⟩
            · refine tn_k (listed' := #[true, true, true, true, true, true, true, true, true, true, true, true, true]) rfl rfl rfl rfl (k_store sz31 rfl (by conv => lhs; whnf) rfl rfl rfl (Nat.le_of_ble_eq_true rfl) rfl ?_)
              refine tn_end (by kernel_rfl) (hK2 _ ?_); clear hK2
              refine good_ret ?_
              repeat (first | refine thenQ_ret ?_ | refine blockQ_ret ?_)
              refine fx_cell rfl tA31 rfl rfl rfl ?_
              exact ⟨_, conv_eq (by first | rfl | exact fAgg1 (by first | rfl | exact ownEq (by first | done | omega | (simp; done)) | (simp_all; done)) (fAgg1 (by first | rfl | exact ownEq (by first | done | omega | (simp; done)) | (simp_all; done)) (rfl))), weakH_row (rowEq (by first | rfl | (rw [e]; done) | (rw [e]; rfl) | (simp_all; done))) (weakH_row (rowEq (by first | rfl | (rw [e]; done) | (rw [e]; rfl) | (simp_all; done))) (weakH_none _)), refsIn_ok rfl⟩
      · refine tn_q (listed' := #[true, true, true, true, true, false, true, true, true, true, false, false, false]) rfl rfl rfl (q_load tA29 rfl ?_)
        refine tn_step [5] (by kernel_rfl) rfl ?_
        refine ⟨?_, trivial⟩
        · refine tn_k (listed' := #[true, true, true, true, true, true, true, true, true, true, false, false, false]) rfl rfl rfl rfl (k_lit tE29 zA88 rfl rfl (by decide) (by decide) rfl rfl rfl ?_)
          refine tn_step [10] (by kernel_rfl) rfl ?_
          refine ⟨?_, trivial⟩
          · refine tn_k (listed' := #[true, true, true, true, true, true, true, true, true, true, true, false, false]) rfl rfl rfl rfl (k_app tApp29 rfl rfl (by simp) rfl (.inl rfl) (by simp [maxLen]; omega) (by simp; omega) ?_)
            refine tn_step [11] (by kernel_rfl) rfl ?_
            refine ⟨?_, trivial⟩
            · refine tn_k (listed' := #[true, true, true, true, true, true, true, true, true, true, true, true, false]) rfl rfl rfl rfl (k_build zA31 pl31 (rfl) ?_)
              refine tn_step [12] (by kernel_rfl) rfl ?_
              refine ⟨?_, trivial⟩
              · refine tn_k (listed' := #[true, true, true, true, true, true, true, true, true, true, true, true, true]) rfl rfl rfl rfl (k_store sz31 rfl (by conv => lhs; whnf) rfl rfl rfl (Nat.le_of_ble_eq_true rfl) rfl ?_)
                refine tn_end (by kernel_rfl) (hK2 _ ?_); clear hK2
                refine good_ret ?_
                repeat (first | refine thenQ_ret ?_ | refine blockQ_ret ?_)
                refine fx_cell rfl tA31 rfl rfl rfl ?_
                exact ⟨_, conv_eq (by first | rfl | exact fAgg1 (by first | rfl | exact ownEq (by first | done | omega | (simp; done)) | (simp_all; done)) (fAgg1 (by first | rfl | exact ownEq (by first | done | omega | (simp; done)) | (simp_all; done)) (rfl))), weakH_row (rowEq (by first | rfl | (rw [e]; done) | (rw [e]; rfl) | (simp_all; done))) (weakH_row (rowEq (by first | rfl | (rw [e]; done) | (rw [e]; rfl) | (simp_all; done))) (weakH_none _)), refsIn_ok rfl⟩
    · refine tn_k (listed' := #[true, true, true, true, false, true, true, true, true, false, false, false, false]) rfl rfl rfl rfl (k_lit tE29 zA88 rfl rfl (by decide) (by decide) rfl rfl rfl ?_)
      refine tn_step [4, 9] (by kernel_rfl) rfl ?_
      refine ⟨?_, ?_, trivial⟩
      · refine tn_k (listed' := #[true, true, true, true, true, true, true, true, true, false, false, false, false]) rfl rfl rfl rfl (k_callX [(5, 900001)] (D_spec_l00Own_X ns hn) rfl (rfl) (rfl) trivial ⟨⟨rfl, show (900001 : Nat) < 1000000 by decide⟩, trivial⟩ rfl rfl rfl ?_)
        refine tn_first_q (i := 9) (listed' := #[true, true, true, true, true, true, true, true, true, true, false, false, false]) rfl rfl (by kernel_rfl) rfl (q_load tA29 rfl ?_)
        refine tn_step [10] (by kernel_rfl) rfl ?_
        refine ⟨?_, trivial⟩
        · refine tn_k (listed' := #[true, true, true, true, true, true, true, true, true, true, true, false, false]) rfl rfl rfl rfl (k_app tApp29 rfl rfl (by simp) rfl (.inl rfl) (by simp [maxLen]; omega) (by simp; omega) ?_)
          refine tn_step [11] (by kernel_rfl) rfl ?_
          refine ⟨?_, trivial⟩
          · refine tn_k (listed' := #[true, true, true, true, true, true, true, true, true, true, true, true, false]) rfl rfl rfl rfl (k_build zA31 pl31 (rfl) ?_)
            refine tn_step [12] (by kernel_rfl) rfl ?_
            refine ⟨?_, trivial⟩
            · refine tn_k (listed' := #[true, true, true, true, true, true, true, true, true, true, true, true, true]) rfl rfl rfl rfl (k_store sz31 rfl (by conv => lhs; whnf) rfl rfl rfl (Nat.le_of_ble_eq_true rfl) rfl ?_)
              refine tn_end (by kernel_rfl) (hK2 _ ?_); clear hK2
              refine good_ret ?_
              repeat (first | refine thenQ_ret ?_ | refine blockQ_ret ?_)
              refine fx_cell rfl tA31 rfl rfl rfl ?_
              exact ⟨_, conv_eq (by first | rfl | exact fAgg1 (by first | rfl | exact ownEq (by first | done | omega | (simp; done)) | (simp_all; done)) (fAgg1 (by first | rfl | exact ownEq (by first | done | omega | (simp; done)) | (simp_all; done)) (rfl))), weakH_row (rowEq (by first | rfl | (rw [e]; done) | (rw [e]; rfl) | (simp_all; done))) (weakH_row (rowEq (by first | rfl | (rw [e]; done) | (rw [e]; rfl) | (simp_all; done))) (weakH_none _)), refsIn_ok rfl⟩
      · refine tn_q (listed' := #[true, true, true, true, false, true, true, true, true, true, false, false, false]) rfl rfl rfl (q_load tA29 rfl ?_)
        refine tn_step [4] (by kernel_rfl) rfl ?_
        refine ⟨?_, trivial⟩
        · refine tn_k (listed' := #[true, true, true, true, true, true, true, true, true, true, false, false, false]) rfl rfl rfl rfl (k_callX [(5, 900001)] (D_spec_l00Own_X ns hn) rfl (rfl) (rfl) trivial ⟨⟨rfl, show (900001 : Nat) < 1000000 by decide⟩, trivial⟩ rfl rfl rfl ?_)
          refine tn_step [10] (by kernel_rfl) rfl ?_
          refine ⟨?_, trivial⟩
          · refine tn_k (listed' := #[true, true, true, true, true, true, true, true, true, true, true, false, false]) rfl rfl rfl rfl (k_app tApp29 rfl rfl (by simp) rfl (.inl rfl) (by simp [maxLen]; omega) (by simp; omega) ?_)
            refine tn_step [11] (by kernel_rfl) rfl ?_
            refine ⟨?_, trivial⟩
            · refine tn_k (listed' := #[true, true, true, true, true, true, true, true, true, true, true, true, false]) rfl rfl rfl rfl (k_build zA31 pl31 (rfl) ?_)
              refine tn_step [12] (by kernel_rfl) rfl ?_
              refine ⟨?_, trivial⟩
              · refine tn_k (listed' := #[true, true, true, true, true, true, true, true, true, true, true, true, true]) rfl rfl rfl rfl (k_store sz31 rfl (by conv => lhs; whnf) rfl rfl rfl (Nat.le_of_ble_eq_true rfl) rfl ?_)
                refine tn_end (by kernel_rfl) (hK2 _ ?_); clear hK2
                refine good_ret ?_
                repeat (first | refine thenQ_ret ?_ | refine blockQ_ret ?_)
                refine fx_cell rfl tA31 rfl rfl rfl ?_
                exact ⟨_, conv_eq (by first | rfl | exact fAgg1 (by first | rfl | exact ownEq (by first | done | omega | (simp; done)) | (simp_all; done)) (fAgg1 (by first | rfl | exact ownEq (by first | done | omega | (simp; done)) | (simp_all; done)) (rfl))), weakH_row (rowEq (by first | rfl | (rw [e]; done) | (rw [e]; rfl) | (simp_all; done))) (weakH_row (rowEq (by first | rfl | (rw [e]; done) | (rw [e]; rfl) | (simp_all; done))) (weakH_none _)), refsIn_ok rfl⟩
    · refine tn_q (listed' := #[true, true, true, true, false, false, true, true, true, true, false, false, false]) rfl rfl rfl (q_load tA29 rfl ?_)
      refine tn_step [4, 5] (by kernel_rfl) rfl ?_
      refine ⟨?_, ?_, trivial⟩
      · refine tn_k (listed' := #[true, true, true, true, true, false, true, true, true, true, false, false, false]) rfl rfl rfl rfl (k_callX [(5, 900001)] (D_spec_l00Own_X ns hn) rfl (rfl) (rfl) trivial ⟨⟨rfl, show (900001 : Nat) < 1000000 by decide⟩, trivial⟩ rfl rfl rfl ?_)
        refine tn_step [5] (by kernel_rfl) rfl ?_
        refine ⟨?_, trivial⟩
        · refine tn_k (listed' := #[true, true, true, true, true, true, true, true, true, true, false, false, false]) rfl rfl rfl rfl (k_lit tE29 zA88 rfl rfl (by decide) (by decide) rfl rfl rfl ?_)
          refine tn_step [10] (by kernel_rfl) rfl ?_
          refine ⟨?_, trivial⟩
          · refine tn_k (listed' := #[true, true, true, true, true, true, true, true, true, true, true, false, false]) rfl rfl rfl rfl (k_app tApp29 rfl rfl (by simp) rfl (.inl rfl) (by simp [maxLen]; omega) (by simp; omega) ?_)
            refine tn_step [11] (by kernel_rfl) rfl ?_
            refine ⟨?_, trivial⟩
            · refine tn_k (listed' := #[true, true, true, true, true, true, true, true, true, true, true, true, false]) rfl rfl rfl rfl (k_build zA31 pl31 (rfl) ?_)
              refine tn_step [12] (by kernel_rfl) rfl ?_
              refine ⟨?_, trivial⟩
              · refine tn_k (listed' := #[true, true, true, true, true, true, true, true, true, true, true, true, true]) rfl rfl rfl rfl (k_store sz31 rfl (by conv => lhs; whnf) rfl rfl rfl (Nat.le_of_ble_eq_true rfl) rfl ?_)
                refine tn_end (by kernel_rfl) (hK2 _ ?_); clear hK2
                refine good_ret ?_
                repeat (first | refine thenQ_ret ?_ | refine blockQ_ret ?_)
                refine fx_cell rfl tA31 rfl rfl rfl ?_
                exact ⟨_, conv_eq (by first | rfl | exact fAgg1 (by first | rfl | exact ownEq (by first | done | omega | (simp; done)) | (simp_all; done)) (fAgg1 (by first | rfl | exact ownEq (by first | done | omega | (simp; done)) | (simp_all; done)) (rfl))), weakH_row (rowEq (by first | rfl | (rw [e]; done) | (rw [e]; rfl) | (simp_all; done))) (weakH_row (rowEq (by first | rfl | (rw [e]; done) | (rw [e]; rfl) | (simp_all; done))) (weakH_none _)), refsIn_ok rfl⟩
      · refine tn_k (listed' := #[true, true, true, true, false, true, true, true, true, true, false, false, false]) rfl rfl rfl rfl (k_lit tE29 zA88 rfl rfl (by decide) (by decide) rfl rfl rfl ?_)
        refine tn_step [4] (by kernel_rfl) rfl ?_
        refine ⟨?_, trivial⟩
        · refine tn_k (listed' := #[true, true, true, true, true, true, true, true, true, true, false, false, false]) rfl rfl rfl rfl (k_callX [(5, 900001)] (D_spec_l00Own_X ns hn) rfl (rfl) (rfl) trivial ⟨⟨rfl, show (900001 : Nat) < 1000000 by decide⟩, trivial⟩ rfl rfl rfl ?_)
          refine tn_step [10] (by kernel_rfl) rfl ?_
          refine ⟨?_, trivial⟩
          · refine tn_k (listed' := #[true, true, true, true, true, true, true, true, true, true, true, false, false]) rfl rfl rfl rfl (k_app tApp29 rfl rfl (by simp) rfl (.inl rfl) (by simp [maxLen]; omega) (by simp; omega) ?_)
            refine tn_step [11] (by kernel_rfl) rfl ?_
            refine ⟨?_, trivial⟩
            · refine tn_k (listed' := #[true, true, true, true, true, true, true, true, true, true, true, true, false]) rfl rfl rfl rfl (k_build zA31 pl31 (rfl) ?_)
              refine tn_step [12] (by kernel_rfl) rfl ?_
              refine ⟨?_, trivial⟩
              · refine tn_k (listed' := #[true, true, true, true, true, true, true, true, true, true, true, true, true]) rfl rfl rfl rfl (k_store sz31 rfl (by conv => lhs; whnf) rfl rfl rfl (Nat.le_of_ble_eq_true rfl) rfl ?_)
                refine tn_end (by kernel_rfl) (hK2 _ ?_); clear hK2
                refine good_ret ?_
                repeat (first | refine thenQ_ret ?_ | refine blockQ_ret ?_)
                refine fx_cell rfl tA31 rfl rfl rfl ?_
                exact ⟨_, conv_eq (by first | rfl | exact fAgg1 (by first | rfl | exact ownEq (by first | done | omega | (simp; done)) | (simp_all; done)) (fAgg1 (by first | rfl | exact ownEq (by first | done | omega | (simp; done)) | (simp_all; done)) (rfl))), weakH_row (rowEq (by first | rfl | (rw [e]; done) | (rw [e]; rfl) | (simp_all; done))) (weakH_row (rowEq (by first | rfl | (rw [e]; done) | (rw [e]; rfl) | (simp_all; done))) (weakH_none _)), refsIn_ok rfl⟩
  · refine tn_k (listed' := #[true, true, true, false, false, true, true, true, true, false, false, false, false]) rfl rfl rfl rfl (k_lit tE29 zA88 rfl rfl (by decide) (by decide) rfl rfl rfl ?_)
    refine tn_first_q (i := 3) (listed' := #[true, true, true, true, false, true, true, true, true, false, false, false, false]) rfl rfl (by kernel_rfl) rfl (q_load tA22 rfl ?_)
    refine tn_step [4, 9] (by kernel_rfl) rfl ?_
    refine ⟨?_, ?_, trivial⟩
    · refine tn_k (listed' := #[true, true, true, true, true, true, true, true, true, false, false, false, false]) rfl rfl rfl rfl (k_callX [(5, 900001)] (D_spec_l00Own_X ns hn) rfl (rfl) (rfl) trivial ⟨⟨rfl, show (900001 : Nat) < 1000000 by decide⟩, trivial⟩ rfl rfl rfl ?_)
      refine tn_first_q (i := 9) (listed' := #[true, true, true, true, true, true, true, true, true, true, false, false, false]) rfl rfl (by kernel_rfl) rfl (q_load tA29 rfl ?_)
      refine tn_step [10] (by kernel_rfl) rfl ?_
      refine ⟨?_, trivial⟩
      · refine tn_k (listed' := #[true, true, true, true, true, true, true, true, true, true, true, false, false]) rfl rfl rfl rfl (k_app tApp29 rfl rfl (by simp) rfl (.inl rfl) (by simp [maxLen]; omega) (by simp; omega) ?_)
        refine tn_step [11] (by kernel_rfl) rfl ?_
        refine ⟨?_, trivial⟩
        · refine tn_k (listed' := #[true, true, true, true, true, true, true, true, true, true, true, true, false]) rfl rfl rfl rfl (k_build zA31 pl31 (rfl) ?_)
          refine tn_step [12] (by kernel_rfl) rfl ?_
          refine ⟨?_, trivial⟩
          · refine tn_k (listed' := #[true, true, true, true, true, true, true, true, true, true, true, true, true]) rfl rfl rfl rfl (k_store sz31 rfl (by conv => lhs; whnf) rfl rfl rfl (Nat.le_of_ble_eq_true rfl) rfl ?_)
            refine tn_end (by kernel_rfl) (hK2 _ ?_); clear hK2
            refine good_ret ?_
            repeat (first | refine thenQ_ret ?_ | refine blockQ_ret ?_)
            refine fx_cell rfl tA31 rfl rfl rfl ?_
            exact ⟨_, conv_eq (by first | rfl | exact fAgg1 (by first | rfl | exact ownEq (by first | done | omega | (simp; done)) | (simp_all; done)) (fAgg1 (by first | rfl | exact ownEq (by first | done | omega | (simp; done)) | (simp_all; done)) (rfl))), weakH_row (rowEq (by first | rfl | (rw [e]; done) | (rw [e]; rfl) | (simp_all; done))) (weakH_row (rowEq (by first | rfl | (rw [e]; done) | (rw [e]; rfl) | (simp_all; done))) (weakH_none _)), refsIn_ok rfl⟩
    · refine tn_q (listed' := #[true, true, true, true, false, true, true, true, true, true, false, false, false]) rfl rfl rfl (q_load tA29 rfl ?_)
      refine tn_step [4] (by kernel_rfl) rfl ?_
      refine ⟨?_, trivial⟩
      · refine tn_k (listed' := #[true, true, true, true, true, true, true, true, true, true, false, false, false]) rfl rfl rfl rfl (k_callX [(5, 900001)] (D_spec_l00Own_X ns hn) rfl (rfl) (rfl) trivial ⟨⟨rfl, show (900001 : Nat) < 1000000 by decide⟩, trivial⟩ rfl rfl rfl ?_)
        refine tn_step [10] (by kernel_rfl) rfl ?_
        refine ⟨?_, trivial⟩
        · refine tn_k (listed' := #[true, true, true, true, true, true, true, true, true, true, true, false, false]) rfl rfl rfl rfl (k_app tApp29 rfl rfl (by simp) rfl (.inl rfl) (by simp [maxLen]; omega) (by simp; omega) ?_)
          refine tn_step [11] (by kernel_rfl) rfl ?_
          refine ⟨?_, trivial⟩
          · refine tn_k (listed' := #[true, true, true, true, true, true, true, true, true, true, true, true, false]) rfl rfl rfl rfl (k_build zA31 pl31 (rfl) ?_)
            refine tn_step [12] (by kernel_rfl) rfl ?_
            refine ⟨?_, trivial⟩
            · refine tn_k (listed' := #[true, true, true, true, true, true, true, true, true, true, true, true, true]) rfl rfl rfl rfl (k_store sz31 rfl (by conv => lhs; whnf) rfl rfl rfl (Nat.le_of_ble_eq_true rfl) rfl ?_)
              refine tn_end (by kernel_rfl) (hK2 _ ?_); clear hK2
              refine good_ret ?_
              repeat (first | refine thenQ_ret ?_ | refine blockQ_ret ?_)
              refine fx_cell rfl tA31 rfl rfl rfl ?_
              exact ⟨_, conv_eq (by first | rfl | exact fAgg1 (by first | rfl | exact ownEq (by first | done | omega | (simp; done)) | (simp_all; done)) (fAgg1 (by first | rfl | exact ownEq (by first | done | omega | (simp; done)) | (simp_all; done)) (rfl))), weakH_row (rowEq (by first | rfl | (rw [e]; done) | (rw [e]; rfl) | (simp_all; done))) (weakH_row (rowEq (by first | rfl | (rw [e]; done) | (rw [e]; rfl) | (simp_all; done))) (weakH_none _)), refsIn_ok rfl⟩
  · refine tn_q (listed' := #[true, true, true, false, false, false, true, true, true, true, false, false, false]) rfl rfl rfl (q_load tA29 rfl ?_)
    refine tn_step [3, 5] (by kernel_rfl) rfl ?_
    refine ⟨?_, ?_, trivial⟩
    · refine tn_q (listed' := #[true, true, true, true, false, false, true, true, true, true, false, false, false]) rfl rfl rfl (q_load tA22 rfl ?_)
      refine tn_step [4, 5] (by kernel_rfl) rfl ?_
      refine ⟨?_, ?_, trivial⟩
      · refine tn_k (listed' := #[true, true, true, true, true, false, true, true, true, true, false, false, false]) rfl rfl rfl rfl (k_callX [(5, 900001)] (D_spec_l00Own_X ns hn) rfl (rfl) (rfl) trivial ⟨⟨rfl, show (900001 : Nat) < 1000000 by decide⟩, trivial⟩ rfl rfl rfl ?_)
        refine tn_step [5] (by kernel_rfl) rfl ?_
        refine ⟨?_, trivial⟩
        · refine tn_k (listed' := #[true, true, true, true, true, true, true, true, true, true, false, false, false]) rfl rfl rfl rfl (k_lit tE29 zA88 rfl rfl (by decide) (by decide) rfl rfl rfl ?_)
          refine tn_step [10] (by kernel_rfl) rfl ?_
          refine ⟨?_, trivial⟩
          · refine tn_k (listed' := #[true, true, true, true, true, true, true, true, true, true, true, false, false]) rfl rfl rfl rfl (k_app tApp29 rfl rfl (by simp) rfl (.inl rfl) (by simp [maxLen]; omega) (by simp; omega) ?_)
            refine tn_step [11] (by kernel_rfl) rfl ?_
            refine ⟨?_, trivial⟩
            · refine tn_k (listed' := #[true, true, true, true, true, true, true, true, true, true, true, true, false]) rfl rfl rfl rfl (k_build zA31 pl31 (rfl) ?_)
              refine tn_step [12] (by kernel_rfl) rfl ?_
              refine ⟨?_, trivial⟩
              · refine tn_k (listed' := #[true, true, true, true, true, true, true, true, true, true, true, true, true]) rfl rfl rfl rfl (k_store sz31 rfl (by conv => lhs; whnf) rfl rfl rfl (Nat.le_of_ble_eq_true rfl) rfl ?_)
                refine tn_end (by kernel_rfl) (hK2 _ ?_); clear hK2
                refine good_ret ?_
                repeat (first | refine thenQ_ret ?_ | refine blockQ_ret ?_)
                refine fx_cell rfl tA31 rfl rfl rfl ?_
                exact ⟨_, conv_eq (by first | rfl | exact fAgg1 (by first | rfl | exact ownEq (by first | done | omega | (simp; done)) | (simp_all; done)) (fAgg1 (by first | rfl | exact ownEq (by first | done | omega | (simp; done)) | (simp_all; done)) (rfl))), weakH_row (rowEq (by first | rfl | (rw [e]; done) | (rw [e]; rfl) | (simp_all; done))) (weakH_row (rowEq (by first | rfl | (rw [e]; done) | (rw [e]; rfl) | (simp_all; done))) (weakH_none _)), refsIn_ok rfl⟩
      · refine tn_k (listed' := #[true, true, true, true, false, true, true, true, true, true, false, false, false]) rfl rfl rfl rfl (k_lit tE29 zA88 rfl rfl (by decide) (by decide) rfl rfl rfl ?_)
        refine tn_step [4] (by kernel_rfl) rfl ?_
        refine ⟨?_, trivial⟩
        · refine tn_k (listed' := #[true, true, true, true, true, true, true, true, true, true, false, false, false]) rfl rfl rfl rfl (k_callX [(5, 900001)] (D_spec_l00Own_X ns hn) rfl (rfl) (rfl) trivial ⟨⟨rfl, show (900001 : Nat) < 1000000 by decide⟩, trivial⟩ rfl rfl rfl ?_)
          refine tn_step [10] (by kernel_rfl) rfl ?_
          refine ⟨?_, trivial⟩
          · refine tn_k (listed' := #[true, true, true, true, true, true, true, true, true, true, true, false, false]) rfl rfl rfl rfl (k_app tApp29 rfl rfl (by simp) rfl (.inl rfl) (by simp [maxLen]; omega) (by simp; omega) ?_)
            refine tn_step [11] (by kernel_rfl) rfl ?_
            refine ⟨?_, trivial⟩
            · refine tn_k (listed' := #[true, true, true, true, true, true, true, true, true, true, true, true, false]) rfl rfl rfl rfl (k_build zA31 pl31 (rfl) ?_)
              refine tn_step [12] (by kernel_rfl) rfl ?_
              refine ⟨?_, trivial⟩
              · refine tn_k (listed' := #[true, true, true, true, true, true, true, true, true, true, true, true, true]) rfl rfl rfl rfl (k_store sz31 rfl (by conv => lhs; whnf) rfl rfl rfl (Nat.le_of_ble_eq_true rfl) rfl ?_)
                refine tn_end (by kernel_rfl) (hK2 _ ?_); clear hK2
                refine good_ret ?_
                repeat (first | refine thenQ_ret ?_ | refine blockQ_ret ?_)
                refine fx_cell rfl tA31 rfl rfl rfl ?_
                exact ⟨_, conv_eq (by first | rfl | exact fAgg1 (by first | rfl | exact ownEq (by first | done | omega | (simp; done)) | (simp_all; done)) (fAgg1 (by first | rfl | exact ownEq (by first | done | omega | (simp; done)) | (simp_all; done)) (rfl))), weakH_row (rowEq (by first | rfl | (rw [e]; done) | (rw [e]; rfl) | (simp_all; done))) (weakH_row (rowEq (by first | rfl | (rw [e]; done) | (rw [e]; rfl) | (simp_all; done))) (weakH_none _)), refsIn_ok rfl⟩
    · refine tn_k (listed' := #[true, true, true, false, false, true, true, true, true, true, false, false, false]) rfl rfl rfl rfl (k_lit tE29 zA88 rfl rfl (by decide) (by decide) rfl rfl rfl ?_)
      refine tn_first_q (i := 3) (listed' := #[true, true, true, true, false, true, true, true, true, true, false, false, false]) rfl rfl (by kernel_rfl) rfl (q_load tA22 rfl ?_)
      refine tn_step [4] (by kernel_rfl) rfl ?_
      refine ⟨?_, trivial⟩
      · refine tn_k (listed' := #[true, true, true, true, true, true, true, true, true, true, false, false, false]) rfl rfl rfl rfl (k_callX [(5, 900001)] (D_spec_l00Own_X ns hn) rfl (rfl) (rfl) trivial ⟨⟨rfl, show (900001 : Nat) < 1000000 by decide⟩, trivial⟩ rfl rfl rfl ?_)
        refine tn_step [10] (by kernel_rfl) rfl ?_
        refine ⟨?_, trivial⟩
        · refine tn_k (listed' := #[true, true, true, true, true, true, true, true, true, true, true, false, false]) rfl rfl rfl rfl (k_app tApp29 rfl rfl (by simp) rfl (.inl rfl) (by simp [maxLen]; omega) (by simp; omega) ?_)
          refine tn_step [11] (by kernel_rfl) rfl ?_
          refine ⟨?_, trivial⟩
          · refine tn_k (listed' := #[true, true, true, true, true, true, true, true, true, true, true, true, false]) rfl rfl rfl rfl (k_build zA31 pl31 (rfl) ?_)
            refine tn_step [12] (by kernel_rfl) rfl ?_
            refine ⟨?_, trivial⟩
            · refine tn_k (listed' := #[true, true, true, true, true, true, true, true, true, true, true, true, true]) rfl rfl rfl rfl (k_store sz31 rfl (by conv => lhs; whnf) rfl rfl rfl (Nat.le_of_ble_eq_true rfl) rfl ?_)
              refine tn_end (by kernel_rfl) (hK2 _ ?_); clear hK2
              refine good_ret ?_
              repeat (first | refine thenQ_ret ?_ | refine blockQ_ret ?_)
              refine fx_cell rfl tA31 rfl rfl rfl ?_
              exact ⟨_, conv_eq (by first | rfl | exact fAgg1 (by first | rfl | exact ownEq (by first | done | omega | (simp; done)) | (simp_all; done)) (fAgg1 (by first | rfl | exact ownEq (by first | done | omega | (simp; done)) | (simp_all; done)) (rfl))), weakH_row (rowEq (by first | rfl | (rw [e]; done) | (rw [e]; rfl) | (simp_all; done))) (weakH_row (rowEq (by first | rfl | (rw [e]; done) | (rw [e]; rfl) | (simp_all; done))) (weakH_none _)), refsIn_ok rfl⟩

-- spec.l10Renew
set_option maxRecDepth 20000 in
set_option maxHeartbeats 2000000 in
theorem D_spec_l10Renew_X (ns : List Int) (ps : List Pi) (xs : List Int) (lo : Int) (hn : ns.length ≤ 17592186044416) (hp : ps.length ≤ 2513169434843) (hx : xs.length ≤ 17592186044416) (hr : risesP xs 0 ((ps.length : Int) - 1)) : DenX Try.prog 74 [] [.rp [.lst 1 (ns.map ci), .lst 6 (ps.map piA)], .lst 1 (xs.map ci), .s (.int .i64 lo)] [(900001, .row 2 1 (ns.map ci)), (900002, .row 88 6 ((rnL ps xs lo xs.length).map piA))] (.agg [.own 900001 ns.length, .own 900002 ps.length]) := by
  refine denX_of_good Try.func74 (by decide) rfl (Nat.le_of_ble_eq_true rfl) (Nat.le_of_ble_eq_true rfl) rfl ?_
  refine good_seq fun K1 hK1 => ?_
  refine good_region rfl ?_
  refine ev_k rfl (k_alloc zA31 rfl ?_)
  refine ev_nil (hK1 _ ?_); clear hK1
  refine good_seq fun K2 hK2 => ?_
  refine good_region rfl ?_
  refine ev_q rfl (q_move (by conv => lhs; whnf) ?_)
  refine ev_k rfl (k_callX [(900001, 900001), (13, 900002)] (D_spec_l04Own_X ns ps hn hp) rfl (rfl) (rfl) trivial ⟨⟨rfl, show (900001 : Nat) < 1000000 by decide⟩, ⟨⟨rfl, show (900002 : Nat) < 1000000 by decide⟩, trivial⟩⟩ rfl rfl rfl ?_)
  refine ev_k rfl (k_alloc zA31 rfl ?_)
  refine ev_k rfl (k_store sz31 rfl (by conv => lhs; whnf) rfl rfl rfl (Nat.le_of_ble_eq_true rfl) rfl ?_)
  refine ev_nil (hK2 _ ?_); clear hK2
  refine good_seq fun K3 hK3 => ?_
  refine good_seq fun K4 hK4 => ?_
  refine good_region rfl ?_
  refine ev_q rfl (q_assign (by conv => lhs; whnf) ?_)
  refine ev_nil (hK4 _ ?_); clear hK4
  refine good_block ?_
  refine good_loop (α := Nat) (fun i => { env := upd (upd (upd (upd (upd ((fun _ => .junk)) 1 (.lst 1 (xs.map ci))) 2 (.s (.int .i64 lo))) 6 (.ptr 6 0)) 7 (.ptr 7 0)) 8 (.s (.int .i64 i)), H := upd (upd (upd (upd ((fun _ => none)) 900002 (some (.row 88 6 ((rnL ps xs lo i).map piA)))) 900001 (some (.row 2 1 (ns.map ci)))) 7 (some (.box 31 [.own 900001 ns.length, .own 900002 ps.length]))) 6 (some (.box 31 [.nil, .nil])) }) (fun i => i ≤ xs.length) (fun i => xs.length - i) 0 ?_ ?_ ?_
  · show 0 ≤ _; omega
  · refine sub_weak ?_ ?_
    · exact weakH_box (boxEq (rfl)) rfl (weakH_boxR (boxEq (rfl)) rfl (weakH_row (rowEq (rfl)) (weakH_row (rowEq (rfl)) (weakH_none _))))
    · refine weakE_upd ?e8 ?r8 (weakE_upd ?e7 ?r7 (weakE_upd ?e6 ?r6 (weakE_upd ?e2 ?r2 (weakE_upd ?e1 ?r1 (weakE_junk _ _)))))
      case e1 => first | rfl | exact fI (by omega) | (simp_all)
      case r1 => intro h hh; cases hh
      case e2 => first | rfl | exact fI (by omega) | (simp_all)
      case r2 => intro h hh; cases hh
      case e6 => first | rfl | exact fI (by omega) | (simp_all)
      case r6 => intro h hh; simp [refs] at hh; subst hh; rfl
      case e7 => first | rfl | exact fI (by omega) | (simp_all)
      case r7 => intro h hh; simp [refs] at hh; subst hh; rfl
      case e8 => first | rfl | exact fI (by omega) | (simp_all)
      case r8 => intro h hh; cases hh
  · rintro i hI
    refine good_seq fun K5 hK5 => ?_
    refine good_seq fun K6 hK6 => ?_
    refine good_region rfl ?_
    refine ev_q rfl (q_move (by conv => lhs; whnf) ?_)
    refine ev_q rfl (q_move (by conv => lhs; whnf) ?_)
    refine ev_q rfl (q_len tEs22 rfl ?_)
    intro n7 hn7
    try simp only [List.length_map] at hn7
    refine ev_q rfl (q_int rfl rfl ?_)
    intro b8 hb8; cases b8
    · replace hb8 := dF hb8
      refine ev_nil (hK6 _ ?_); clear hK6
      refine good_condF rfl ?_
      refine good_exit ?_
      repeat (first | refine thenQ_exit ?_ | refine blockQ_pass rfl ?_)
      refine blockQ_exit (hK3 _ ?_); clear hK3
      refine good_seq fun K9 hK9 => ?_
      refine good_region rfl ?_
      refine ev_q rfl (q_loadA tA31 rfl rfl rfl ?_)
      refine ev_k rfl (k_store sz31 rfl (by conv => lhs; whnf) rfl rfl rfl (Nat.le_of_ble_eq_true rfl) rfl ?_)
      refine ev_nil (hK9 _ ?_); clear hK9
      refine good_ret ?_
      repeat (first | refine thenQ_ret ?_ | refine blockQ_ret ?_)
      refine fx_cell rfl tA31 rfl rfl rfl ?_
      clear hK5
      exact ⟨_, conv_eq (by first | rfl | exact fAgg1 (by first | rfl | exact ownEq (by first | done | omega | (simp; done)) | (simp_all; done)) (fAgg1 (by first | rfl | exact ownEq (by first | done | omega | (simp; done)) | (simp_all; done)) (rfl))), weakH_row (rowEq (by first | rfl | (rw [e]; done) | (rw [e]; rfl) | (simp_all; done))) (weakH_row (rowEq (by rw [show xs.length = i by omega])) (weakH_none _)), refsIn_ok rfl⟩
    · replace hb8 := dT hb8
      obtain ⟨q, hq⟩ := getL (xs := xs) (n := (i : Int)) (by omega) (by omega)
      replace hq : xs[i]? = some q := hq
      have hkb := (hr i q hq).1
      obtain ⟨p, hpp⟩ := getL (xs := rnL ps xs lo i) (n := q) (by omega) (by rw [rnL_len]; omega)
      refine ev_nil (hK6 _ ?_); clear hK6
      refine good_condT rfl ?_
      refine good_skip (hK5 _ ?_); clear hK5
      refine good_seq fun K10 hK10 => ?_
      refine good_block ?_
      refine good_draw 19 hmix (by kernel_rfl) rfl ?_
      refine qo_q rfl (q_fieldAddrP fO31_1 rfl rfl ?_)
      refine qo_q rfl (q_load tA29 rfl ?_)
      refine qo_q rfl (q_move (by conv => lhs; whnf) ?_)
      refine qo_q rfl (q_move (by conv => lhs; whnf) ?_)
      refine qo_q rfl (q_idx tE22 rfl rfl (by exact Int.natCast_nonneg _) (by exact map_get hq) rfl ?_)
      refine qo_q rfl (q_load tA2 rfl ?_)
      refine qo_q rfl (q_fieldAddrP fO31_1 rfl rfl ?_)
      refine qo_q rfl (q_load tA29 rfl ?_)
      refine qo_q rfl (q_move (by conv => lhs; whnf) ?_)
      refine qo_q rfl (q_move (by conv => lhs; whnf) ?_)
      refine qo_q rfl (q_idx tE22 rfl rfl (by exact Int.natCast_nonneg _) (by exact map_get hq) rfl ?_)
      refine qo_q rfl (q_load tA2 rfl ?_)
      refine qo_q rfl (q_idxO tE29 rfl rfl rfl (by omega) (by first | omega | (rw [rnL_len]; omega)) rfl ?_)
      refine qo_q rfl (q_fieldAddrE fO88_5 rfl rfl ?_)
      refine qo_q rfl (q_loadE tA2 rfl rfl (by exact map_get hpp) rfl ?_)
      refine qo_q rfl (q_move (by conv => lhs; whnf) ?_)
      refine qo_q rfl (q_callI rfl rfl (rfl) (D_spec_l00Min ..) ?_)
      intro n11 hn11
      refine qo_q rfl (q_idxO tE29 rfl rfl rfl (by omega) (by first | omega | (rw [rnL_len]; omega)) rfl ?_)
      refine qo_q rfl (q_fieldAddrE fO88_5 rfl rfl ?_)
      refine qo_nil ?_
      refine ev_k rfl (k_storeE sz2 rfl (by conv => lhs; whnf) rfl rfl rfl (Nat.le_of_ble_eq_true rfl) rfl (by exact map_get hpp) (Nat.le_of_ble_eq_true rfl) rfl ?_)
      refine ev_nil (hK10 _ ?_); clear hK10
      refine good_region rfl ?_
      refine ev_q rfl (q_move (by conv => lhs; whnf) ?_)
      refine ev_q rfl (q_int rfl rfl ?_)
      intro n12 hn12
      replace hn12 := in64 hn12 (by omega) (by omega)
      refine ev_q rfl (q_assign (by conv => lhs; whnf) ?_)
      refine ev_nil ?_
      clear hK3
      refine ⟨i + 1, ?_, ?_, ?_⟩
      · show _ ≤ _; omega
      · first | omega | (simp only []; omega) | (dsimp only; omega)
      · refine sub_weak ?_ ?_
        · exact weakH_box (boxEq (rfl)) rfl (weakH_boxR (boxEq (rfl)) rfl (weakH_row (rowEq (rfl)) (weakH_row (rowEq (rnL_step hq hpp (by omega))) (weakH_none _))))
        · refine weakE_upd ?e8 ?r8 (weakE_upd ?e7 ?r7 (weakE_upd ?e6 ?r6 (weakE_upd ?e2 ?r2 (weakE_upd ?e1 ?r1 (weakE_junk _ _)))))
          case e1 => first | rfl | exact fI (by omega) | (simp_all)
          case r1 => intro h hh; cases hh
          case e2 => first | rfl | exact fI (by omega) | (simp_all)
          case r2 => intro h hh; cases hh
          case e6 => first | rfl | exact fI (by omega) | (simp_all)
          case r6 => intro h hh; simp [refs] at hh; subst hh; rfl
          case e7 => first | rfl | exact fI (by omega) | (simp_all)
          case r7 => intro h hh; simp [refs] at hh; subst hh; rfl
          case e8 => first | rfl | exact fI (by omega) | (simp_all)
          case r8 => intro h hh; cases hh

-- slices.Clone[[]int64,int64]
set_option maxRecDepth 20000 in
set_option maxHeartbeats 2000000 in
theorem D_slices_Clone_int64_int64_X (xs : List Int) (hx : xs.length ≤ 17592186044416) : DenX Try.prog 77 [] [.lst 1 (xs.map ci)] [(7, .row 2 1 (xs.map ci))] (.own 7 xs.length) := by
  refine denX_of_good Try.func77 (by decide) rfl (Nat.le_of_ble_eq_true rfl) (Nat.le_of_ble_eq_true rfl) rfl ?_
  refine good_seq fun K1 hK1 => ?_
  refine good_region rfl ?_
  refine ev_q rfl (q_assign (by conv => lhs; whnf) ?_)
  refine ev_nil (hK1 _ ?_); clear hK1
  refine good_seq fun K2 hK2 => ?_
  refine good_seq fun K3 hK3 => ?_
  refine good_region rfl ?_
  refine ev_q rfl (q_move (by conv => lhs; whnf) ?_)
  refine ev_k rfl (k_nil tEs22 rfl ?_)
  intro b4 hb4; cases b4
  · refine ev_nil (hK3 _ ?_); clear hK3
    refine good_condF rfl ?_
    refine good_skip (hK2 _ ?_); clear hK2
    refine good_seq fun K5 hK5 => ?_
    refine good_region rfl ?_
    refine ev_k rfl (k_lit tE22 zA2 rfl rfl (by decide) (by decide) rfl rfl rfl ?_)
    refine ev_q rfl (q_move (by conv => lhs; whnf) ?_)
    refine ev_k rfl (k_app tApp22 rfl rfl (by rfl) rfl (.inl rfl) (by simp [maxLen]; omega) (by simp; omega) ?_)
    refine ev_q rfl (q_assign (by conv => lhs; whnf) ?_)
    refine ev_nil (hK5 _ ?_); clear hK5
    refine good_ret ?_
    repeat (first | refine thenQ_ret ?_ | refine blockQ_ret ?_)
    refine fx_tmp rfl (by conv => lhs; whnf) ?_
    exact ⟨_, conv_eq (by first | rfl | (rw [e]; done) | (rw [e]; rfl) | exact ownEq (by first | omega | simp_all)), weakH_row (rowEq (by first | rfl | (rw [e]; rfl))) (weakH_none _), refsIn_ok rfl⟩
  · replace hb4 := hb4 rfl
    have e := nilMap hb4
    refine ev_nil (hK3 _ ?_); clear hK3
    refine good_condT rfl ?_
    refine good_seq fun K6 hK6 => ?_
    refine good_region rfl ?_
    refine ev_q rfl (q_assign (by conv => lhs; whnf) ?_)
    refine ev_nil (hK6 _ ?_); clear hK6
    refine good_ret ?_
    repeat (first | refine thenQ_ret ?_ | refine blockQ_ret ?_)
    refine fx_tmp rfl (by conv => lhs; whnf) ?_
    clear hK2
    exact ⟨_, conv_nil rfl (by decide) (by rw [e]; rfl), weakH_row (rowEq (by first | rfl | (rw [e]; rfl))) (weakH_none _), refsIn_ok rfl⟩

-- slices.Clone[[]impl.Pipe,impl.Pipe]
set_option maxRecDepth 20000 in
set_option maxHeartbeats 2000000 in
theorem D_slices_Clone_impl_Pipe_impl_Pipe_X (ps : List Pi) (hp : ps.length ≤ 2513169434843) : DenX Try.prog 78 [] [.lst 6 (ps.map piA)] [(7, .row 88 6 (ps.map piA))] (.own 7 ps.length) := by
  refine denX_of_good Try.func78 (by decide) rfl (Nat.le_of_ble_eq_true rfl) (Nat.le_of_ble_eq_true rfl) rfl ?_
  refine good_seq fun K1 hK1 => ?_
  refine good_region rfl ?_
  refine ev_q rfl (q_assign (by conv => lhs; whnf) ?_)
  refine ev_nil (hK1 _ ?_); clear hK1
  refine good_seq fun K2 hK2 => ?_
  refine good_seq fun K3 hK3 => ?_
  refine good_region rfl ?_
  refine ev_q rfl (q_move (by conv => lhs; whnf) ?_)
  refine ev_k rfl (k_nil tEs29 rfl ?_)
  intro b4 hb4; cases b4
  · refine ev_nil (hK3 _ ?_); clear hK3
    refine good_condF rfl ?_
    refine good_skip (hK2 _ ?_); clear hK2
    refine good_seq fun K5 hK5 => ?_
    refine good_region rfl ?_
    refine ev_k rfl (k_lit tE29 zA88 rfl rfl (by decide) (by decide) rfl rfl rfl ?_)
    refine ev_q rfl (q_move (by conv => lhs; whnf) ?_)
    refine ev_k rfl (k_app tApp29 rfl rfl (by rfl) rfl (.inl rfl) (by simp [maxLen]; omega) (by simp; omega) ?_)
    refine ev_q rfl (q_assign (by conv => lhs; whnf) ?_)
    refine ev_nil (hK5 _ ?_); clear hK5
    refine good_ret ?_
    repeat (first | refine thenQ_ret ?_ | refine blockQ_ret ?_)
    refine fx_tmp rfl (by conv => lhs; whnf) ?_
    exact ⟨_, conv_eq (by first | rfl | (rw [e]; done) | (rw [e]; rfl) | exact ownEq (by first | omega | simp_all)), weakH_row (rowEq (by first | rfl | (rw [e]; rfl))) (weakH_none _), refsIn_ok rfl⟩
  · replace hb4 := hb4 rfl
    have e := nilMap hb4
    refine ev_nil (hK3 _ ?_); clear hK3
    refine good_condT rfl ?_
    refine good_seq fun K6 hK6 => ?_
    refine good_region rfl ?_
    refine ev_q rfl (q_assign (by conv => lhs; whnf) ?_)
    refine ev_nil (hK6 _ ?_); clear hK6
    refine good_ret ?_
    repeat (first | refine thenQ_ret ?_ | refine blockQ_ret ?_)
    refine fx_tmp rfl (by conv => lhs; whnf) ?_
    clear hK2
    exact ⟨_, conv_nil rfl (by decide) (by rw [e]; rfl), weakH_row (rowEq (by first | rfl | (rw [e]; rfl))) (weakH_none _), refsIn_ok rfl⟩

-- spec.RenewPipes
set_option maxRecDepth 20000 in
set_option maxHeartbeats 2000000 in
theorem D_spec_RenewPipes_X (ns : List Int) (ps : List Pi) (xs : List Int) (lo : Int) (hn : ns.length ≤ 17592186044416) (hp : ps.length ≤ 2513169434843) (hz : idSz ps) (hx : xs.length ≤ 17592186044416) : DenX Try.prog 26 [] [.agg [.lst 1 (ns.map ci), .lst 6 (ps.map piA)], .lst 1 (xs.map ci), .s (.int .i64 lo)] [(900001, .row 2 1 ((rnN ns ps xs lo).map ci)), (900002, .row 88 6 ((rnP ns ps xs lo).map piA))] (.tup [.agg [.own 900001 (rnN ns ps xs lo).length, .own 900002 (rnP ns ps xs lo).length], .s (.int .i64 (rnC ns ps xs lo))]) := by
  refine denX_of_good Try.func26 (by decide) rfl (Nat.le_of_ble_eq_true rfl) (Nat.le_of_ble_eq_true rfl) rfl ?_
  refine good_seq fun K1 hK1 => ?_
  refine good_region rfl ?_
  refine ev_k rfl (k_box (by conv => lhs; whnf) rfl rfl rfl ?_)
  refine ev_k rfl (k_alloc zA31 rfl ?_)
  refine ev_q rfl (q_assign (by conv => lhs; whnf) ?_)
  refine ev_nil (hK1 _ ?_); clear hK1
  refine good_seq fun K2 hK2 => ?_
  refine good_seq fun K3 hK3 => ?_
  refine good_region rfl ?_
  refine ev_q rfl (q_callB rfl rfl (rfl) (D_spec_l04Ok ns ps hn hp hz) ?_)
  intro b4 hb4; cases b4
  · first | replace hb4 := dF hb4 | skip
    refine ev_q rfl (q_not rfl rfl ?_)
    refine ev_nil (hK3 _ ?_); clear hK3
    refine good_condT rfl ?_
    refine good_seq fun K5 hK5 => ?_
    refine good_region rfl ?_
    refine ev_k rfl (k_build (cs := [.nil, .nil]) zA31 pl31 (rfl) ?_)
    refine ev_k rfl (k_store sz31 rfl (by conv => lhs; whnf) rfl rfl rfl (Nat.le_of_ble_eq_true rfl) rfl ?_)
    refine ev_q rfl (q_assign (by conv => lhs; whnf) ?_)
    refine ev_nil (hK5 _ ?_); clear hK5
    refine good_ret ?_
    repeat (first | refine thenQ_ret ?_ | refine blockQ_ret ?_)
    refine fx_many rfl ?_
    refine fxs_cell tA31 rfl rfl rfl ?_
    refine fxs_tmp (by conv => lhs; whnf) ?_
    refine fx_nil ?_
    clear hK2
    first | (have hrn := rn_1 (ns := ns) (ps := ps) (ks := xs) (lo := lo) (by assumption)) | (have hrn := rn_0 (ns := ns) (ps := ps) (ks := xs) (lo := lo) (by assumption) ⟨by assumption, by omega⟩) | (have hrn := rn_2 (ns := ns) (ps := ps) (ks := xs) (lo := lo) (by assumption) (fun h => by first | exact absurd h.1 (by assumption) | (have := h.2; omega)))
    obtain ⟨e2, e, e3⟩ := hrn
    have elen := rnL_len (ps := ps) (ks := xs) (lo := lo) xs.length
    first | exact ⟨_, .tup (.cons (.agg (.cons (conv_eq (by first | rfl | (rw [e]; done) | (rw [e]; rfl) | exact ownEq (by first | omega | simp_all))) (.cons (conv_eq (by first | rfl | (rw [e]; done) | (rw [e]; rfl) | exact ownEq (by first | omega | simp_all))) (.nil)))) (.cons (conv_eq (by first | rfl | exact fI (by omega) | (exfalso; first | omega | grind))) (.nil))), weakH_row (rowEq (by first | (rw [e]; done) | (rw [e]; rfl))) (weakH_row (rowEq (by first | (rw [e3]; done) | (rw [e3]; rfl))) (weakH_none _)), refsIn_ok rfl⟩ | exact ⟨_, .tup (.cons (.agg (.cons (conv_nil rfl (by decide) (by rw [e]; rfl)) (.cons (conv_nil rfl (by decide) (by rw [e3]; rfl)) (.nil)))) (.cons (conv_eq (by first | rfl | exact fI (by omega) | (exfalso; first | omega | grind))) (.nil))), weakH_row (rowEq (by first | (rw [e]; done) | (rw [e]; rfl))) (weakH_row (rowEq (by first | (rw [e3]; done) | (rw [e3]; rfl))) (weakH_none _)), refsIn_ok rfl⟩
  · first | replace hb4 := dT hb4 | skip
    refine ev_q rfl (q_not rfl rfl ?_)
    refine ev_nil (hK3 _ ?_); clear hK3
    refine good_condF rfl ?_
    refine good_skip (hK2 _ ?_); clear hK2
    refine good_seq fun K6 hK6 => ?_
    refine good_seq fun K7 hK7 => ?_
    refine good_region rfl ?_
    refine ev_q rfl (q_move (by conv => lhs; whnf) ?_)
    refine ev_q rfl (q_callB rfl rfl (rfl) (D_spec_l04Closed ns ps xs hn hp hx) ?_)
    intro b8 hb8; cases b8
    · first | replace hb8 := dF hb8 | skip
      refine ev_q rfl (q_not rfl rfl ?_)
      refine ev_q rfl (q_move (by conv => lhs; whnf) ?_)
      refine ev_skip rfl ?_
      refine ev_skip rfl ?_
      refine ev_skip rfl ?_
      refine ev_q rfl (q_pickT rfl (by conv => lhs; whnf) ?_)
      refine ev_nil (hK7 _ ?_); clear hK7
      refine good_condT rfl ?_
      refine good_seq fun K9 hK9 => ?_
      refine good_region rfl ?_
      refine ev_k rfl (k_build (cs := [.nil, .nil]) zA31 pl31 (rfl) ?_)
      refine ev_k rfl (k_store sz31 rfl (by conv => lhs; whnf) rfl rfl rfl (Nat.le_of_ble_eq_true rfl) rfl ?_)
      refine ev_q rfl (q_assign (by conv => lhs; whnf) ?_)
      refine ev_nil (hK9 _ ?_); clear hK9
      refine good_ret ?_
      repeat (first | refine thenQ_ret ?_ | refine blockQ_ret ?_)
      refine fx_many rfl ?_
      refine fxs_cell tA31 rfl rfl rfl ?_
      refine fxs_tmp (by conv => lhs; whnf) ?_
      refine fx_nil ?_
      clear hK6
      first | (have hrn := rn_1 (ns := ns) (ps := ps) (ks := xs) (lo := lo) (by assumption)) | (have hrn := rn_0 (ns := ns) (ps := ps) (ks := xs) (lo := lo) (by assumption) ⟨by assumption, by omega⟩) | (have hrn := rn_2 (ns := ns) (ps := ps) (ks := xs) (lo := lo) (by assumption) (fun h => by first | exact absurd h.1 (by assumption) | (have := h.2; omega)))
      obtain ⟨e2, e, e3⟩ := hrn
      have elen := rnL_len (ps := ps) (ks := xs) (lo := lo) xs.length
      first | exact ⟨_, .tup (.cons (.agg (.cons (conv_eq (by first | rfl | (rw [e]; done) | (rw [e]; rfl) | exact ownEq (by first | omega | simp_all))) (.cons (conv_eq (by first | rfl | (rw [e]; done) | (rw [e]; rfl) | exact ownEq (by first | omega | simp_all))) (.nil)))) (.cons (conv_eq (by first | rfl | exact fI (by omega) | (exfalso; first | omega | grind))) (.nil))), weakH_row (rowEq (by first | (rw [e]; done) | (rw [e]; rfl))) (weakH_row (rowEq (by first | (rw [e3]; done) | (rw [e3]; rfl))) (weakH_none _)), refsIn_ok rfl⟩ | exact ⟨_, .tup (.cons (.agg (.cons (conv_nil rfl (by decide) (by rw [e]; rfl)) (.cons (conv_nil rfl (by decide) (by rw [e3]; rfl)) (.nil)))) (.cons (conv_eq (by first | rfl | exact fI (by omega) | (exfalso; first | omega | grind))) (.nil))), weakH_row (rowEq (by first | (rw [e]; done) | (rw [e]; rfl))) (weakH_row (rowEq (by first | (rw [e3]; done) | (rw [e3]; rfl))) (weakH_none _)), refsIn_ok rfl⟩
    · first | replace hb8 := dT hb8 | skip
      refine ev_q rfl (q_not rfl rfl ?_)
      refine ev_q rfl (q_move (by conv => lhs; whnf) ?_)
      refine ev_q rfl (q_move (by conv => lhs; whnf) ?_)
      refine ev_q rfl (q_callB rfl rfl (rfl) (D_spec_l00In ..) ?_)
      intro b10 hb10; cases b10
      · first | replace hb10 := dF hb10 | skip
        refine ev_q rfl (q_not rfl rfl ?_)
        refine ev_q rfl (q_pickF rfl (by conv => lhs; whnf) ?_)
        refine ev_nil (hK7 _ ?_); clear hK7
        refine good_condT rfl ?_
        refine good_seq fun K11 hK11 => ?_
        refine good_region rfl ?_
        refine ev_k rfl (k_build (cs := [.nil, .nil]) zA31 pl31 (rfl) ?_)
        refine ev_k rfl (k_store sz31 rfl (by conv => lhs; whnf) rfl rfl rfl (Nat.le_of_ble_eq_true rfl) rfl ?_)
        refine ev_q rfl (q_assign (by conv => lhs; whnf) ?_)
        refine ev_nil (hK11 _ ?_); clear hK11
        refine good_ret ?_
        repeat (first | refine thenQ_ret ?_ | refine blockQ_ret ?_)
        refine fx_many rfl ?_
        refine fxs_cell tA31 rfl rfl rfl ?_
        refine fxs_tmp (by conv => lhs; whnf) ?_
        refine fx_nil ?_
        clear hK6
        first | (have hrn := rn_1 (ns := ns) (ps := ps) (ks := xs) (lo := lo) (by assumption)) | (have hrn := rn_0 (ns := ns) (ps := ps) (ks := xs) (lo := lo) (by assumption) ⟨by assumption, by omega⟩) | (have hrn := rn_2 (ns := ns) (ps := ps) (ks := xs) (lo := lo) (by assumption) (fun h => by first | exact absurd h.1 (by assumption) | (have := h.2; omega)))
        obtain ⟨e2, e, e3⟩ := hrn
        have elen := rnL_len (ps := ps) (ks := xs) (lo := lo) xs.length
        first | exact ⟨_, .tup (.cons (.agg (.cons (conv_eq (by first | rfl | (rw [e]; done) | (rw [e]; rfl) | exact ownEq (by first | omega | simp_all))) (.cons (conv_eq (by first | rfl | (rw [e]; done) | (rw [e]; rfl) | exact ownEq (by first | omega | simp_all))) (.nil)))) (.cons (conv_eq (by first | rfl | exact fI (by omega) | (exfalso; first | omega | grind))) (.nil))), weakH_row (rowEq (by first | (rw [e]; done) | (rw [e]; rfl))) (weakH_row (rowEq (by first | (rw [e3]; done) | (rw [e3]; rfl))) (weakH_none _)), refsIn_ok rfl⟩ | exact ⟨_, .tup (.cons (.agg (.cons (conv_nil rfl (by decide) (by rw [e]; rfl)) (.cons (conv_nil rfl (by decide) (by rw [e3]; rfl)) (.nil)))) (.cons (conv_eq (by first | rfl | exact fI (by omega) | (exfalso; first | omega | grind))) (.nil))), weakH_row (rowEq (by first | (rw [e]; done) | (rw [e]; rfl))) (weakH_row (rowEq (by first | (rw [e3]; done) | (rw [e3]; rfl))) (weakH_none _)), refsIn_ok rfl⟩
      · first | replace hb10 := dT hb10 | skip
        refine ev_q rfl (q_not rfl rfl ?_)
        refine ev_q rfl (q_pickF rfl (by conv => lhs; whnf) ?_)
        refine ev_nil (hK7 _ ?_); clear hK7
        refine good_condF rfl ?_
        refine good_skip (hK6 _ ?_); clear hK6
        refine good_seq fun K12 hK12 => ?_
        refine good_region rfl ?_
        refine ev_q rfl (q_move (by conv => lhs; whnf) ?_)
        refine ev_q rfl (q_move (by conv => lhs; whnf) ?_)
        refine ev_k rfl (k_callXc [(900001, 900001), (900002, 900002)] (D_spec_l10Renew_X ns ps xs lo hn hp hx (by assumption)) rfl (rfl) (⟨rfl, ⟨pure_ci, ⟨mkP_pure, trivial⟩⟩⟩) trivial ⟨⟨rfl, show (900001 : Nat) < 1000000 by decide⟩, ⟨⟨rfl, show (900002 : Nat) < 1000000 by decide⟩, trivial⟩⟩ rfl rfl rfl ?_)
        refine ev_k rfl (k_store sz31 rfl (by conv => lhs; whnf) rfl rfl rfl (Nat.le_of_ble_eq_true rfl) rfl ?_)
        refine ev_q rfl (q_assign (by conv => lhs; whnf) ?_)
        refine ev_nil (hK12 _ ?_); clear hK12
        refine good_ret ?_
        repeat (first | refine thenQ_ret ?_ | refine blockQ_ret ?_)
        refine fx_many rfl ?_
        refine fxs_cell tA31 rfl rfl rfl ?_
        refine fxs_tmp (by conv => lhs; whnf) ?_
        refine fx_nil ?_
        first | (have hrn := rn_1 (ns := ns) (ps := ps) (ks := xs) (lo := lo) (by assumption)) | (have hrn := rn_0 (ns := ns) (ps := ps) (ks := xs) (lo := lo) (by assumption) ⟨by assumption, by omega⟩) | (have hrn := rn_2 (ns := ns) (ps := ps) (ks := xs) (lo := lo) (by assumption) (fun h => by first | exact absurd h.1 (by assumption) | (have := h.2; omega)))
        obtain ⟨e2, e, e3⟩ := hrn
        have elen := rnL_len (ps := ps) (ks := xs) (lo := lo) xs.length
        first | exact ⟨_, .tup (.cons (.agg (.cons (conv_eq (by first | rfl | (rw [e]; done) | (rw [e]; rfl) | exact ownEq (by first | omega | simp_all))) (.cons (conv_eq (by first | rfl | (rw [e]; done) | (rw [e]; rfl) | exact ownEq (by first | omega | simp_all))) (.nil)))) (.cons (conv_eq (by first | rfl | exact fI (by omega) | (exfalso; first | omega | grind))) (.nil))), weakH_row (rowEq (by first | (rw [e]; done) | (rw [e]; rfl))) (weakH_row (rowEq (by first | (rw [e3]; done) | (rw [e3]; rfl))) (weakH_none _)), refsIn_ok rfl⟩ | exact ⟨_, .tup (.cons (.agg (.cons (conv_nil rfl (by decide) (by rw [e]; rfl)) (.cons (conv_nil rfl (by decide) (by rw [e3]; rfl)) (.nil)))) (.cons (conv_eq (by first | rfl | exact fI (by omega) | (exfalso; first | omega | grind))) (.nil))), weakH_row (rowEq (by first | (rw [e]; done) | (rw [e]; rfl))) (weakH_row (rowEq (by first | (rw [e3]; done) | (rw [e3]; rfl))) (weakH_none _)), refsIn_ok rfl⟩
theorem D_spec_RenewPipes (ns : List Int) (ps : List Pi) (xs : List Int) (lo : Int) (hn : ns.length ≤ 17592186044416) (hp : ps.length ≤ 2513169434843) (hz : idSz ps) (hx : xs.length ≤ 17592186044416) : Den Try.prog 26 [.agg [.lst 1 (ns.map ci), .lst 6 (ps.map piA)], .lst 1 (xs.map ci), .s (.int .i64 lo)] (.tup [.agg [.lst 1 ((rnN ns ps xs lo).map ci), .lst 6 ((rnP ns ps xs lo).map piA)], .s (.int .i64 (rnC ns ps xs lo))]) :=
  den_of_denX (D_spec_RenewPipes_X ns ps xs lo hn hp hz hx) (by change (some (.tup [.agg [.lst 1 (List.take (rnN ns ps xs lo).length ((rnN ns ps xs lo).map ci)), .lst 6 (List.take (rnP ns ps xs lo).length ((rnP ns ps xs lo).map piA))], .s (.int .i64 (rnC ns ps xs lo))]) : Option AV) = some (.tup [.agg [.lst 1 ((rnN ns ps xs lo).map ci), .lst 6 ((rnP ns ps xs lo).map piA)], .s (.int .i64 (rnC ns ps xs lo))]); simp only [takeMap])

-- impl.RenewPipes
set_option maxRecDepth 20000 in
set_option maxHeartbeats 2000000 in
theorem D_impl_RenewPipes_X (ns : List Int) (ps : List Pi) (xs : List Int) (lo : Int) (hn : ns.length ≤ 17592186044416) (hp : ps.length ≤ 2513169434843) (hz : idSz ps) (hx : xs.length ≤ 17592186044416) : DenX Try.prog 27 [] [.agg [.lst 1 (ns.map ci), .lst 6 (ps.map piA)], .lst 1 (xs.map ci), .s (.int .i64 lo)] [(900001, .row 2 1 ((rnN ns ps xs lo).map ci)), (900002, .row 88 6 ((rnP ns ps xs lo).map piA))] (.tup [.agg [.own 900001 (rnN ns ps xs lo).length, .own 900002 (rnP ns ps xs lo).length], .s (.int .i64 (rnC ns ps xs lo))]) := by
  refine denX_of_good Try.func27 (by decide) rfl (Nat.le_of_ble_eq_true rfl) (Nat.le_of_ble_eq_true rfl) rfl ?_
  refine good_seq fun K1 hK1 => ?_
  refine good_region rfl ?_
  refine ev_k rfl (k_box (by conv => lhs; whnf) rfl rfl rfl ?_)
  refine ev_k rfl (k_alloc zA31 rfl ?_)
  refine ev_q rfl (q_assign (by conv => lhs; whnf) ?_)
  refine ev_nil (hK1 _ ?_); clear hK1
  refine good_seq fun K2 hK2 => ?_
  refine good_block ?_
  refine good_seq fun K3 hK3 => ?_
  refine good_region rfl ?_
  refine ev_q rfl (q_loadA tA31 rfl rfl rfl ?_)
  refine ev_q rfl (q_callB rfl rfl (rfl) (D_impl_ValidNetwork ns ps hn hp hz) ?_)
  intro b4 hb4; cases b4
  · first | replace hb4 := dF hb4 | skip
    refine ev_q rfl (q_not rfl rfl ?_)
    refine ev_q rfl (q_assign (by conv => lhs; whnf) ?_)
    refine ev_nil (hK3 _ ?_); clear hK3
    refine good_condT rfl ?_
    refine good_seq fun K5 hK5 => ?_
    refine good_region rfl ?_
    refine ev_k rfl (k_build (cs := [.nil, .nil]) zA31 pl31 (rfl) ?_)
    refine ev_k rfl (k_store sz31 rfl (by conv => lhs; whnf) rfl rfl rfl (Nat.le_of_ble_eq_true rfl) rfl ?_)
    refine ev_q rfl (q_assign (by conv => lhs; whnf) ?_)
    refine ev_nil (hK5 _ ?_); clear hK5
    refine good_ret ?_
    repeat (first | refine thenQ_ret ?_ | refine blockQ_ret ?_)
    refine fx_many rfl ?_
    refine fxs_cell tA31 rfl rfl rfl ?_
    refine fxs_tmp (by conv => lhs; whnf) ?_
    refine fx_nil ?_
    clear hK2
    first | (have hrn := rn_1 (ns := ns) (ps := ps) (ks := xs) (lo := lo) (by assumption)) | (have hrn := rn_0 (ns := ns) (ps := ps) (ks := xs) (lo := lo) (by assumption) ⟨by assumption, by omega⟩) | (have hrn := rn_2 (ns := ns) (ps := ps) (ks := xs) (lo := lo) (by assumption) (fun h => by first | exact absurd h.1 (by assumption) | (have := h.2; omega)))
    obtain ⟨e2, e, e3⟩ := hrn
    have elen := rnL_len (ps := ps) (ks := xs) (lo := lo) xs.length
    first | exact ⟨_, .tup (.cons (.agg (.cons (conv_eq (by first | rfl | (rw [e]; done) | (rw [e]; rfl) | exact ownEq (by first | omega | simp_all))) (.cons (conv_eq (by first | rfl | (rw [e]; done) | (rw [e]; rfl) | exact ownEq (by first | omega | simp_all))) (.nil)))) (.cons (conv_eq (by first | rfl | exact fI (by omega) | (exfalso; first | omega | grind))) (.nil))), weakH_row (rowEq (by first | (rw [e]; done) | (rw [e]; rfl))) (weakH_row (rowEq (by first | (rw [e3]; done) | (rw [e3]; rfl) | (rw [e3, show xs.length = i by omega]))) (weakH_none _)), refsIn_ok rfl⟩ | exact ⟨_, .tup (.cons (.agg (.cons (conv_nil rfl (by decide) (by rw [e]; rfl)) (.cons (conv_nil rfl (by decide) (by rw [e3]; rfl)) (.nil)))) (.cons (conv_eq (by first | rfl | exact fI (by omega) | (exfalso; first | omega | grind))) (.nil))), weakH_row (rowEq (by first | (rw [e]; done) | (rw [e]; rfl))) (weakH_row (rowEq (by first | (rw [e3]; done) | (rw [e3]; rfl) | (rw [e3, show xs.length = i by omega]))) (weakH_none _)), refsIn_ok rfl⟩
  · first | replace hb4 := dT hb4 | skip
    refine ev_q rfl (q_not rfl rfl ?_)
    refine ev_q rfl (q_assign (by conv => lhs; whnf) ?_)
    refine ev_nil (hK3 _ ?_); clear hK3
    refine good_condF rfl ?_
    refine good_seq fun K6 hK6 => ?_
    refine good_region rfl ?_
    refine ev_q rfl (q_loadA tA31 rfl rfl rfl ?_)
    refine ev_q rfl (q_move (by conv => lhs; whnf) ?_)
    refine ev_q rfl (q_callB rfl rfl (rfl) (D_impl_Network_hasPipes ns ps xs hn hp hx) ?_)
    intro b7 hb7; cases b7
    · first | replace hb7 := dF hb7 | skip
      refine ev_q rfl (q_not rfl rfl ?_)
      refine ev_q rfl (q_move (by conv => lhs; whnf) ?_)
      refine ev_skip rfl ?_
      refine ev_skip rfl ?_
      refine ev_skip rfl ?_
      refine ev_q rfl (q_pickT rfl (by conv => lhs; whnf) ?_)
      refine ev_q rfl (q_assign (by conv => lhs; whnf) ?_)
      refine ev_nil (hK6 _ ?_); clear hK6
      refine good_condT rfl ?_
      refine good_seq fun K8 hK8 => ?_
      refine good_region rfl ?_
      refine ev_k rfl (k_build (cs := [.nil, .nil]) zA31 pl31 (rfl) ?_)
      refine ev_k rfl (k_store sz31 rfl (by conv => lhs; whnf) rfl rfl rfl (Nat.le_of_ble_eq_true rfl) rfl ?_)
      refine ev_q rfl (q_assign (by conv => lhs; whnf) ?_)
      refine ev_nil (hK8 _ ?_); clear hK8
      refine good_ret ?_
      repeat (first | refine thenQ_ret ?_ | refine blockQ_ret ?_)
      refine fx_many rfl ?_
      refine fxs_cell tA31 rfl rfl rfl ?_
      refine fxs_tmp (by conv => lhs; whnf) ?_
      refine fx_nil ?_
      clear hK2
      first | (have hrn := rn_1 (ns := ns) (ps := ps) (ks := xs) (lo := lo) (by assumption)) | (have hrn := rn_0 (ns := ns) (ps := ps) (ks := xs) (lo := lo) (by assumption) ⟨by assumption, by omega⟩) | (have hrn := rn_2 (ns := ns) (ps := ps) (ks := xs) (lo := lo) (by assumption) (fun h => by first | exact absurd h.1 (by assumption) | (have := h.2; omega)))
      obtain ⟨e2, e, e3⟩ := hrn
      have elen := rnL_len (ps := ps) (ks := xs) (lo := lo) xs.length
      first | exact ⟨_, .tup (.cons (.agg (.cons (conv_eq (by first | rfl | (rw [e]; done) | (rw [e]; rfl) | exact ownEq (by first | omega | simp_all))) (.cons (conv_eq (by first | rfl | (rw [e]; done) | (rw [e]; rfl) | exact ownEq (by first | omega | simp_all))) (.nil)))) (.cons (conv_eq (by first | rfl | exact fI (by omega) | (exfalso; first | omega | grind))) (.nil))), weakH_row (rowEq (by first | (rw [e]; done) | (rw [e]; rfl))) (weakH_row (rowEq (by first | (rw [e3]; done) | (rw [e3]; rfl) | (rw [e3, show xs.length = i by omega]))) (weakH_none _)), refsIn_ok rfl⟩ | exact ⟨_, .tup (.cons (.agg (.cons (conv_nil rfl (by decide) (by rw [e]; rfl)) (.cons (conv_nil rfl (by decide) (by rw [e3]; rfl)) (.nil)))) (.cons (conv_eq (by first | rfl | exact fI (by omega) | (exfalso; first | omega | grind))) (.nil))), weakH_row (rowEq (by first | (rw [e]; done) | (rw [e]; rfl))) (weakH_row (rowEq (by first | (rw [e3]; done) | (rw [e3]; rfl) | (rw [e3, show xs.length = i by omega]))) (weakH_none _)), refsIn_ok rfl⟩
    · first | replace hb7 := dT hb7 | skip
      refine ev_q rfl (q_not rfl rfl ?_)
      refine ev_q rfl (q_move (by conv => lhs; whnf) ?_)
      refine ev_q rfl (q_move (by conv => lhs; whnf) ?_)
      refine ev_q rfl (q_callB rfl rfl (rfl) (D_impl_within ..) ?_)
      intro b9 hb9; cases b9
      · first | replace hb9 := dF hb9 | skip
        refine ev_q rfl (q_not rfl rfl ?_)
        refine ev_q rfl (q_pickF rfl (by conv => lhs; whnf) ?_)
        refine ev_q rfl (q_assign (by conv => lhs; whnf) ?_)
        refine ev_nil (hK6 _ ?_); clear hK6
        refine good_condT rfl ?_
        refine good_seq fun K10 hK10 => ?_
        refine good_region rfl ?_
        refine ev_k rfl (k_build (cs := [.nil, .nil]) zA31 pl31 (rfl) ?_)
        refine ev_k rfl (k_store sz31 rfl (by conv => lhs; whnf) rfl rfl rfl (Nat.le_of_ble_eq_true rfl) rfl ?_)
        refine ev_q rfl (q_assign (by conv => lhs; whnf) ?_)
        refine ev_nil (hK10 _ ?_); clear hK10
        refine good_ret ?_
        repeat (first | refine thenQ_ret ?_ | refine blockQ_ret ?_)
        refine fx_many rfl ?_
        refine fxs_cell tA31 rfl rfl rfl ?_
        refine fxs_tmp (by conv => lhs; whnf) ?_
        refine fx_nil ?_
        clear hK2
        first | (have hrn := rn_1 (ns := ns) (ps := ps) (ks := xs) (lo := lo) (by assumption)) | (have hrn := rn_0 (ns := ns) (ps := ps) (ks := xs) (lo := lo) (by assumption) ⟨by assumption, by omega⟩) | (have hrn := rn_2 (ns := ns) (ps := ps) (ks := xs) (lo := lo) (by assumption) (fun h => by first | exact absurd h.1 (by assumption) | (have := h.2; omega)))
        obtain ⟨e2, e, e3⟩ := hrn
        have elen := rnL_len (ps := ps) (ks := xs) (lo := lo) xs.length
        first | exact ⟨_, .tup (.cons (.agg (.cons (conv_eq (by first | rfl | (rw [e]; done) | (rw [e]; rfl) | exact ownEq (by first | omega | simp_all))) (.cons (conv_eq (by first | rfl | (rw [e]; done) | (rw [e]; rfl) | exact ownEq (by first | omega | simp_all))) (.nil)))) (.cons (conv_eq (by first | rfl | exact fI (by omega) | (exfalso; first | omega | grind))) (.nil))), weakH_row (rowEq (by first | (rw [e]; done) | (rw [e]; rfl))) (weakH_row (rowEq (by first | (rw [e3]; done) | (rw [e3]; rfl) | (rw [e3, show xs.length = i by omega]))) (weakH_none _)), refsIn_ok rfl⟩ | exact ⟨_, .tup (.cons (.agg (.cons (conv_nil rfl (by decide) (by rw [e]; rfl)) (.cons (conv_nil rfl (by decide) (by rw [e3]; rfl)) (.nil)))) (.cons (conv_eq (by first | rfl | exact fI (by omega) | (exfalso; first | omega | grind))) (.nil))), weakH_row (rowEq (by first | (rw [e]; done) | (rw [e]; rfl))) (weakH_row (rowEq (by first | (rw [e3]; done) | (rw [e3]; rfl) | (rw [e3, show xs.length = i by omega]))) (weakH_none _)), refsIn_ok rfl⟩
      · first | replace hb9 := dT hb9 | skip
        refine ev_q rfl (q_not rfl rfl ?_)
        refine ev_q rfl (q_pickF rfl (by conv => lhs; whnf) ?_)
        refine ev_q rfl (q_assign (by conv => lhs; whnf) ?_)
        refine ev_nil (hK6 _ ?_); clear hK6
        refine good_condF rfl ?_
        refine good_skip (hK2 _ ?_); clear hK2
        refine good_join { env := upd (upd (upd (upd ((fun _ => .junk)) 1 (.lst 1 (xs.map ci))) 2 (.s (.int .i64 lo))) 6 (.ptr 6 0)) 8 (.ptr 8 0), H := upd (upd (upd (upd ((fun _ => none)) 900002 (some (.row 88 6 (ps.map piA)))) 900001 (some (.row 2 1 (ns.map ci)))) 8 (some (.box 31 [.own 900001 ns.length, .own 900002 ps.length]))) 6 (some (.box 31 [.nil, .nil])) } ?_ fun K11 hK11 => ?_
        · refine good_seq fun K12 hK12 => ?_
          refine good_seq fun K13 hK13 => ?_
          refine good_region rfl ?_
          refine ev_q rfl (q_move (by conv => lhs; whnf) ?_)
          refine ev_q rfl (q_len tEs22 rfl ?_)
          intro n14 hn14
          try simp only [List.length_map] at hn14
          refine ev_q rfl (q_move (by conv => lhs; whnf) ?_)
          refine ev_nil (hK13 _ ?_); clear hK13
          refine good_block ?_
          refine good_loop (α := Nat) (fun i => { env := upd (upd (upd (upd (upd (upd ((fun _ => .junk)) 2 (.s (.int .i64 lo))) 6 (.ptr 6 0)) 8 (.ptr 8 0)) 34 (.lst 1 (xs.map ci))) 35 (.s (.int .i64 ((xs.length : Int))))) 36 (.s (.int .i64 i)), H := upd (upd (upd (upd ((fun _ => none)) 900002 (some (.row 88 6 ((rnL ps xs lo i).map piA)))) 900001 (some (.row 2 1 (ns.map ci)))) 8 (some (.box 31 [.own 900001 ns.length, .own 900002 ps.length]))) 6 (some (.box 31 [.nil, .nil])) }) (fun i => i ≤ xs.length) (fun i => xs.length - i) 0 ?_ ?_ ?_
          · show 0 ≤ _; omega
          · refine sub_weak ?_ ?_
            · exact weakH_box (boxEq (rfl)) rfl (weakH_boxR (boxEq (rfl)) rfl (weakH_row (rowEq (rfl)) (weakH_row (rowEq (rfl)) (weakH_none _))))
            · refine weakE_upd ?e36 ?r36 (weakE_upd ?e35 ?r35 (weakE_upd ?e34 ?r34 (weakE_upd ?e8 ?r8 (weakE_upd ?e6 ?r6 (weakE_upd ?e2 ?r2 (weakE_junk _ _))))))
              case e2 => first | rfl | exact fI (by omega) | (simp_all)
              case r2 => intro h hh; cases hh
              case e6 => first | rfl | exact fI (by omega) | (simp_all)
              case r6 => intro h hh; simp [refs] at hh; subst hh; rfl
              case e8 => first | rfl | exact fI (by omega) | (simp_all)
              case r8 => intro h hh; simp [refs] at hh; subst hh; rfl
              case e34 => first | rfl | exact fI (by omega) | (simp_all)
              case r34 => intro h hh; cases hh
              case e35 => first | rfl | exact fI (by omega) | (simp_all)
              case r35 => intro h hh; cases hh
              case e36 => first | rfl | exact fI (by omega) | (simp_all)
              case r36 => intro h hh; cases hh
          · rintro i hI
            refine good_seq fun K15 hK15 => ?_
            refine good_region rfl ?_
            refine ev_q rfl (q_int rfl rfl ?_)
            intro b16 hb16; cases b16
            · replace hb16 := dF hb16
              refine ev_nil (hK15 _ ?_); clear hK15
              refine good_seq fun K17 hK17 => ?_
              refine good_condF rfl ?_
              refine good_exit ?_
              repeat (first | refine thenQ_exit ?_ | refine blockQ_pass rfl ?_)
              refine blockQ_exit (hK12 _ ?_); clear hK12
              refine good_seq fun K18 hK18 => ?_
              refine good_region rfl ?_
              refine ev_q rfl (q_loadA tA31 rfl rfl rfl ?_)
              refine ev_k rfl (k_store sz31 rfl (by conv => lhs; whnf) rfl rfl rfl (Nat.le_of_ble_eq_true rfl) rfl ?_)
              refine ev_q rfl (q_assign (by conv => lhs; whnf) ?_)
              refine ev_nil (hK18 _ ?_); clear hK18
              refine good_ret ?_
              repeat (first | refine thenQ_ret ?_ | refine blockQ_ret ?_)
              refine fx_many rfl ?_
              refine fxs_cell tA31 rfl rfl rfl ?_
              refine fxs_tmp (by conv => lhs; whnf) ?_
              refine fx_nil ?_
              clear hK17
              first | (have hrn := rn_1 (ns := ns) (ps := ps) (ks := xs) (lo := lo) (by assumption)) | (have hrn := rn_0 (ns := ns) (ps := ps) (ks := xs) (lo := lo) (by assumption) ⟨by assumption, by omega⟩) | (have hrn := rn_2 (ns := ns) (ps := ps) (ks := xs) (lo := lo) (by assumption) (fun h => by first | exact absurd h.1 (by assumption) | (have := h.2; omega)))
              obtain ⟨e2, e, e3⟩ := hrn
              have elen := rnL_len (ps := ps) (ks := xs) (lo := lo) xs.length
              first | exact ⟨_, .tup (.cons (.agg (.cons (conv_eq (by first | rfl | (rw [e]; done) | (rw [e]; rfl) | exact ownEq (by first | omega | simp_all))) (.cons (conv_eq (by first | rfl | (rw [e]; done) | (rw [e]; rfl) | exact ownEq (by first | omega | simp_all))) (.nil)))) (.cons (conv_eq (by first | rfl | exact fI (by omega) | (exfalso; first | omega | grind))) (.nil))), weakH_row (rowEq (by first | (rw [e]; done) | (rw [e]; rfl))) (weakH_row (rowEq (by first | (rw [e3]; done) | (rw [e3]; rfl) | (rw [e3, show xs.length = i by omega]))) (weakH_none _)), refsIn_ok rfl⟩ | exact ⟨_, .tup (.cons (.agg (.cons (conv_nil rfl (by decide) (by rw [e]; rfl)) (.cons (conv_nil rfl (by decide) (by rw [e3]; rfl)) (.nil)))) (.cons (conv_eq (by first | rfl | exact fI (by omega) | (exfalso; first | omega | grind))) (.nil))), weakH_row (rowEq (by first | (rw [e]; done) | (rw [e]; rfl))) (weakH_row (rowEq (by first | (rw [e3]; done) | (rw [e3]; rfl) | (rw [e3, show xs.length = i by omega]))) (weakH_none _)), refsIn_ok rfl⟩
            · replace hb16 := dT hb16
              obtain ⟨q, hq⟩ := getL (xs := xs) (n := (i : Int)) (by omega) (by omega)
              replace hq : xs[i]? = some q := hq
              have hr : risesP xs 0 ((ps.length : Int) - 1) := by assumption
              have hkb := (hr i q hq).1
              obtain ⟨p, hpp⟩ := getL (xs := rnL ps xs lo i) (n := q) (by omega) (by rw [rnL_len]; omega)
              refine ev_nil (hK15 _ ?_); clear hK15
              refine good_seq fun K19 hK19 => ?_
              refine good_condT rfl ?_
              refine good_skip (hK19 _ ?_); clear hK19
              refine good_seq fun K20 hK20 => ?_
              refine good_block ?_
              refine good_seq fun K21 hK21 => ?_
              refine good_region rfl ?_
              refine ev_q rfl (q_idx tE22 rfl rfl (by exact Int.natCast_nonneg _) (by exact map_get hq) rfl ?_)
              refine ev_q rfl (q_load tA2 rfl ?_)
              refine ev_q rfl (q_assign (by conv => lhs; whnf) ?_)
              refine ev_nil (hK21 _ ?_); clear hK21
              refine good_draw 13 hmix (by kernel_rfl) rfl ?_
              refine qo_q rfl (q_fieldAddrP fO31_1 rfl rfl ?_)
              refine qo_q rfl (q_load tA29 rfl ?_)
              refine qo_q rfl (q_move (by conv => lhs; whnf) ?_)
              refine qo_q rfl (q_fieldAddrP fO31_1 rfl rfl ?_)
              refine qo_q rfl (q_load tA29 rfl ?_)
              refine qo_q rfl (q_move (by conv => lhs; whnf) ?_)
              refine qo_q rfl (q_idxO tE29 rfl rfl rfl (by omega) (by first | omega | (rw [rnL_len]; omega)) rfl ?_)
              refine qo_q rfl (q_fieldAddrE fO88_5 rfl rfl ?_)
              refine qo_q rfl (q_loadE tA2 rfl rfl (by exact map_get hpp) rfl ?_)
              refine qo_q rfl (q_move (by conv => lhs; whnf) ?_)
              refine qo_q rfl (q_min rfl rfl ?_)
              intro n22 hn22; simp only [mxI, mnI] at hn22
              refine qo_q rfl (q_idxO tE29 rfl rfl rfl (by omega) (by first | omega | (rw [rnL_len]; omega)) rfl ?_)
              refine qo_q rfl (q_fieldAddrE fO88_5 rfl rfl ?_)
              refine qo_nil ?_
              refine ev_k rfl (k_storeE sz2 rfl (by conv => lhs; whnf) rfl rfl rfl (Nat.le_of_ble_eq_true rfl) rfl (by exact map_get hpp) (Nat.le_of_ble_eq_true rfl) rfl ?_)
              refine ev_nil (hK20 _ ?_); clear hK20
              refine good_region rfl ?_
              refine ev_q rfl (q_int rfl rfl ?_)
              intro n23 hn23
              replace hn23 := in64 hn23 (by omega) (by omega)
              refine ev_q rfl (q_move (by conv => lhs; whnf) ?_)
              refine ev_nil ?_
              clear hK12
              refine ⟨i + 1, ?_, ?_, ?_⟩
              · show _ ≤ _; omega
              · first | omega | (simp only []; omega) | (dsimp only; omega)
              · refine sub_weak ?_ ?_
                · exact weakH_box (boxEq (rfl)) rfl (weakH_boxR (boxEq (rfl)) rfl (weakH_row (rowEq (rfl)) (weakH_row (rowEq (rnL_step hq hpp (by omega))) (weakH_none _))))
                · refine weakE_upd ?e36 ?r36 (weakE_upd ?e35 ?r35 (weakE_upd ?e34 ?r34 (weakE_upd ?e8 ?r8 (weakE_upd ?e6 ?r6 (weakE_upd ?e2 ?r2 (weakE_junk _ _))))))
                  case e2 => first | rfl | exact fI (by omega) | (simp_all)
                  case r2 => intro h hh; cases hh
                  case e6 => first | rfl | exact fI (by omega) | (simp_all)
                  case r6 => intro h hh; simp [refs] at hh; subst hh; rfl
                  case e8 => first | rfl | exact fI (by omega) | (simp_all)
                  case r8 => intro h hh; simp [refs] at hh; subst hh; rfl
                  case e34 => first | rfl | exact fI (by omega) | (simp_all)
                  case r34 => intro h hh; cases hh
                  case e35 => first | rfl | exact fI (by omega) | (simp_all)
                  case r35 => intro h hh; cases hh
                  case e36 => first | rfl | exact fI (by omega) | (simp_all)
                  case r36 => intro h hh; cases hh
        · refine good_weak (st' := { env := upd (upd (upd (upd ((fun _ => .junk)) 1 (.lst 1 (xs.map ci))) 2 (.s (.int .i64 lo))) 3 (.ptr 3 0)) 6 (.ptr 6 0), H := upd (upd ((fun _ => none)) 6 (some (.box 31 [.nil, .nil]))) 3 (some (.box 31 [.lst 1 (ns.map ci), .lst 6 (ps.map piA)])) }) ?_ ?_
          · refine sub_weak ?_ ?_
            · exact weakH_box (boxEq (rfl)) rfl (weakH_box (boxEq (rfl)) rfl (weakH_none _))
            · refine weakE_upd ?e6 ?r6 (weakE_upd ?e3 ?r3 (weakE_upd ?e2 ?r2 (weakE_upd ?e1 ?r1 (weakE_junk _ _))))
              case e1 => first | rfl | exact fI (by omega) | (rfl)
              case r1 => intro h hh; cases hh
              case e2 => first | rfl | exact fI (by omega) | (rfl)
              case r2 => intro h hh; cases hh
              case e3 => first | rfl | exact fI (by omega) | (rfl)
              case r3 => intro h hh; simp [refs] at hh; subst hh; rfl
              case e6 => first | rfl | exact fI (by omega) | (rfl)
              case r6 => intro h hh; simp [refs] at hh; subst hh; rfl
          refine good_any 9 (listed := #[false, false, false, false, false, false, false, false, false]) rfl rfl hmix rfl ?_
          refine tn_first_q (i := 0) (listed' := #[true, false, false, false, false, false, false, false, false]) rfl rfl (by kernel_rfl) rfl (q_fieldAddrP fO31_0 rfl rfl ?_)
          refine tn_first_q (i := 3) (listed' := #[true, false, false, true, false, false, false, false, false]) rfl rfl (by kernel_rfl) rfl (q_fieldAddrP fO31_1 rfl rfl ?_)
          refine tn_step [1, 4, 7] (by kernel_rfl) rfl ?_
          refine ⟨?_, ?_, ?_, trivial⟩
          · refine tn_q (listed' := #[true, true, false, true, false, false, false, false, false]) rfl rfl rfl (q_load tA22 rfl ?_)
            refine tn_step [2, 4, 7] (by kernel_rfl) rfl ?_
            refine ⟨?_, ?_, ?_, trivial⟩
            · refine tn_k (listed' := #[true, true, true, true, false, false, false, false, false]) rfl rfl rfl rfl (k_callX [(7, 900001)] (D_slices_Clone_int64_int64_X ns hn) rfl (rfl) (rfl) trivial ⟨⟨rfl, show (900001 : Nat) < 1000000 by decide⟩, trivial⟩ rfl rfl rfl ?_)
              refine tn_step [4, 7] (by kernel_rfl) rfl ?_
              refine ⟨?_, ?_, trivial⟩
              · refine tn_q (listed' := #[true, true, true, true, true, false, false, false, false]) rfl rfl rfl (q_load tA29 rfl ?_)
                refine tn_step [5, 7] (by kernel_rfl) rfl ?_
                refine ⟨?_, ?_, trivial⟩
                · refine tn_k (listed' := #[true, true, true, true, true, true, false, false, false]) rfl rfl rfl rfl (k_callX [(7, 900002)] (D_slices_Clone_impl_Pipe_impl_Pipe_X ps hp) rfl (rfl) (rfl) trivial ⟨⟨rfl, show (900002 : Nat) < 1000000 by decide⟩, trivial⟩ rfl rfl rfl ?_)
                  refine tn_step [6, 7] (by kernel_rfl) rfl ?_
                  refine ⟨?_, ?_, trivial⟩
                  · refine tn_k (listed' := #[true, true, true, true, true, true, true, false, false]) rfl rfl rfl rfl (k_build zA31 pl31 (rfl) ?_)
                    refine tn_step [7] (by kernel_rfl) rfl ?_
                    refine ⟨?_, trivial⟩
                    · refine tn_k (listed' := #[true, true, true, true, true, true, true, true, false]) rfl rfl rfl rfl (k_alloc zA31 rfl ?_)
                      refine tn_step [8] (by kernel_rfl) rfl ?_
                      refine ⟨?_, trivial⟩
                      · refine tn_k (listed' := #[true, true, true, true, true, true, true, true, true]) rfl rfl rfl rfl (k_store sz31 rfl (by conv => lhs; whnf) rfl rfl rfl (Nat.le_of_ble_eq_true rfl) rfl ?_)
                        refine tn_end (by kernel_rfl) (hK11 _ ?_); clear hK11
                        refine sub_weak ?_ ?_
                        · exact weakH_box (boxEq (rfl)) rfl (weakH_boxR (boxEq (rfl)) rfl (weakH_row (rowEq (rfl)) (weakH_row (rowEq (rfl)) (weakH_none _))))
                        · refine weakE_upd ?e8 ?r8 (weakE_upd ?e6 ?r6 (weakE_upd ?e2 ?r2 (weakE_upd ?e1 ?r1 (weakE_junk _ _))))
                          case e1 => first | rfl | exact fI (by omega) | (rfl)
                          case r1 => intro h hh; cases hh
                          case e2 => first | rfl | exact fI (by omega) | (rfl)
                          case r2 => intro h hh; cases hh
                          case e6 => first | rfl | exact fI (by omega) | (rfl)
                          case r6 => intro h hh; simp [refs] at hh; subst hh; rfl
                          case e8 => first | rfl | exact fI (by omega) | (rfl)
                          case r8 => intro h hh; simp [refs] at hh; subst hh; rfl
                  · refine tn_k (listed' := #[true, true, true, true, true, true, false, true, false]) rfl rfl rfl rfl (k_alloc zA31 rfl ?_)
                    refine tn_step [6] (by kernel_rfl) rfl ?_
                    refine ⟨?_, trivial⟩
                    · refine tn_k (listed' := #[true, true, true, true, true, true, true, true, false]) rfl rfl rfl rfl (k_build zA31 pl31 (rfl) ?_)
                      refine tn_step [8] (by kernel_rfl) rfl ?_
                      refine ⟨?_, trivial⟩
                      · refine tn_k (listed' := #[true, true, true, true, true, true, true, true, true]) rfl rfl rfl rfl (k_store sz31 rfl (by conv => lhs; whnf) rfl rfl rfl (Nat.le_of_ble_eq_true rfl) rfl ?_)
                        refine tn_end (by kernel_rfl) (hK11 _ ?_); clear hK11
                        refine sub_weak ?_ ?_
                        · exact weakH_box (boxEq (rfl)) rfl (weakH_boxR (boxEq (rfl)) rfl (weakH_row (rowEq (rfl)) (weakH_row (rowEq (rfl)) (weakH_none _))))
                        · refine weakE_upd ?e8 ?r8 (weakE_upd ?e6 ?r6 (weakE_upd ?e2 ?r2 (weakE_upd ?e1 ?r1 (weakE_junk _ _))))
                          case e1 => first | rfl | exact fI (by omega) | (rfl)
                          case r1 => intro h hh; cases hh
                          case e2 => first | rfl | exact fI (by omega) | (rfl)
                          case r2 => intro h hh; cases hh
                          case e6 => first | rfl | exact fI (by omega) | (rfl)
                          case r6 => intro h hh; simp [refs] at hh; subst hh; rfl
                          case e8 => first | rfl | exact fI (by omega) | (rfl)
                          case r8 => intro h hh; simp [refs] at hh; subst hh; rfl
                · refine tn_k (listed' := #[true, true, true, true, true, false, false, true, false]) rfl rfl rfl rfl (k_alloc zA31 rfl ?_)
                  refine tn_step [5] (by kernel_rfl) rfl ?_
                  refine ⟨?_, trivial⟩
                  · refine tn_k (listed' := #[true, true, true, true, true, true, false, true, false]) rfl rfl rfl rfl (k_callX [(7, 900002)] (D_slices_Clone_impl_Pipe_impl_Pipe_X ps hp) rfl (rfl) (rfl) trivial ⟨⟨rfl, show (900002 : Nat) < 1000000 by decide⟩, trivial⟩ rfl rfl rfl ?_)
                    refine tn_step [6] (by kernel_rfl) rfl ?_
                    refine ⟨?_, trivial⟩
                    · refine tn_k (listed' := #[true, true, true, true, true, true, true, true, false]) rfl rfl rfl rfl (k_build zA31 pl31 (rfl) ?_)
                      refine tn_step [8] (by kernel_rfl) rfl ?_
                      refine ⟨?_, trivial⟩
                      · refine tn_k (listed' := #[true, true, true, true, true, true, true, true, true]) rfl rfl rfl rfl (k_store sz31 rfl (by conv => lhs; whnf) rfl rfl rfl (Nat.le_of_ble_eq_true rfl) rfl ?_)
                        refine tn_end (by kernel_rfl) (hK11 _ ?_); clear hK11
                        refine sub_weak ?_ ?_
                        · exact weakH_box (boxEq (rfl)) rfl (weakH_boxR (boxEq (rfl)) rfl (weakH_row (rowEq (rfl)) (weakH_row (rowEq (rfl)) (weakH_none _))))
                        · refine weakE_upd ?e8 ?r8 (weakE_upd ?e6 ?r6 (weakE_upd ?e2 ?r2 (weakE_upd ?e1 ?r1 (weakE_junk _ _))))
                          case e1 => first | rfl | exact fI (by omega) | (rfl)
                          case r1 => intro h hh; cases hh
                          case e2 => first | rfl | exact fI (by omega) | (rfl)
                          case r2 => intro h hh; cases hh
                          case e6 => first | rfl | exact fI (by omega) | (rfl)
                          case r6 => intro h hh; simp [refs] at hh; subst hh; rfl
                          case e8 => first | rfl | exact fI (by omega) | (rfl)
                          case r8 => intro h hh; simp [refs] at hh; subst hh; rfl
              · refine tn_k (listed' := #[true, true, true, true, false, false, false, true, false]) rfl rfl rfl rfl (k_alloc zA31 rfl ?_)
                refine tn_first_q (i := 4) (listed' := #[true, true, true, true, true, false, false, true, false]) rfl rfl (by kernel_rfl) rfl (q_load tA29 rfl ?_)
                refine tn_step [5] (by kernel_rfl) rfl ?_
                refine ⟨?_, trivial⟩
                · refine tn_k (listed' := #[true, true, true, true, true, true, false, true, false]) rfl rfl rfl rfl (k_callX [(7, 900002)] (D_slices_Clone_impl_Pipe_impl_Pipe_X ps hp) rfl (rfl) (rfl) trivial ⟨⟨rfl, show (900002 : Nat) < 1000000 by decide⟩, trivial⟩ rfl rfl rfl ?_)
                  refine tn_step [6] (by kernel_rfl) rfl ?_
                  refine ⟨?_, trivial⟩
                  · refine tn_k (listed' := #[true, true, true, true, true, true, true, true, false]) rfl rfl rfl rfl (k_build zA31 pl31 (rfl) ?_)
                    refine tn_step [8] (by kernel_rfl) rfl ?_
                    refine ⟨?_, trivial⟩
                    · refine tn_k (listed' := #[true, true, true, true, true, true, true, true, true]) rfl rfl rfl rfl (k_store sz31 rfl (by conv => lhs; whnf) rfl rfl rfl (Nat.le_of_ble_eq_true rfl) rfl ?_)
                      refine tn_end (by kernel_rfl) (hK11 _ ?_); clear hK11
                      refine sub_weak ?_ ?_
                      · exact weakH_box (boxEq (rfl)) rfl (weakH_boxR (boxEq (rfl)) rfl (weakH_row (rowEq (rfl)) (weakH_row (rowEq (rfl)) (weakH_none _))))
                      · refine weakE_upd ?e8 ?r8 (weakE_upd ?e6 ?r6 (weakE_upd ?e2 ?r2 (weakE_upd ?e1 ?r1 (weakE_junk _ _))))
                        case e1 => first | rfl | exact fI (by omega) | (rfl)
                        case r1 => intro h hh; cases hh
                        case e2 => first | rfl | exact fI (by omega) | (rfl)
                        case r2 => intro h hh; cases hh
                        case e6 => first | rfl | exact fI (by omega) | (rfl)
                        case r6 => intro h hh; simp [refs] at hh; subst hh; rfl
                        case e8 => first | rfl | exact fI (by omega) | (rfl)
                        case r8 => intro h hh; simp [refs] at hh; subst hh; rfl
            · refine tn_q (listed' := #[true, true, false, true, true, false, false, false, false]) rfl rfl rfl (q_load tA29 rfl ?_)
              refine tn_step [2, 7] (by kernel_rfl) rfl ?_
              refine ⟨?_, ?_, trivial⟩
              · refine tn_k (listed' := #[true, true, true, true, true, false, false, false, false]) rfl rfl rfl rfl (k_callX [(7, 900001)] (D_slices_Clone_int64_int64_X ns hn) rfl (rfl) (rfl) trivial ⟨⟨rfl, show (900001 : Nat) < 1000000 by decide⟩, trivial⟩ rfl rfl rfl ?_)
                refine tn_step [5, 7] (by kernel_rfl) rfl ?_
                refine ⟨?_, ?_, trivial⟩
                · refine tn_k (listed' := #[true, true, true, true, true, true, false, false, false]) rfl rfl rfl rfl (k_callX [(7, 900002)] (D_slices_Clone_impl_Pipe_impl_Pipe_X ps hp) rfl (rfl) (rfl) trivial ⟨⟨rfl, show (900002 : Nat) < 1000000 by decide⟩, trivial⟩ rfl rfl rfl ?_)
                  refine tn_step [6, 7] (by kernel_rfl) rfl ?_
                  refine ⟨?_, ?_, trivial⟩
                  · refine tn_k (listed' := #[true, true, true, true, true, true, true, false, false]) rfl rfl rfl rfl (k_build zA31 pl31 (rfl) ?_)
                    refine tn_step [7] (by kernel_rfl) rfl ?_
                    refine ⟨?_, trivial⟩
                    · refine tn_k (listed' := #[true, true, true, true, true, true, true, true, false]) rfl rfl rfl rfl (k_alloc zA31 rfl ?_)
                      refine tn_step [8] (by kernel_rfl) rfl ?_
                      refine ⟨?_, trivial⟩
                      · refine tn_k (listed' := #[true, true, true, true, true, true, true, true, true]) rfl rfl rfl rfl (k_store sz31 rfl (by conv => lhs; whnf) rfl rfl rfl (Nat.le_of_ble_eq_true rfl) rfl ?_)
                        refine tn_end (by kernel_rfl) (hK11 _ ?_); clear hK11
                        refine sub_weak ?_ ?_
                        · exact weakH_box (boxEq (rfl)) rfl (weakH_boxR (boxEq (rfl)) rfl (weakH_row (rowEq (rfl)) (weakH_row (rowEq (rfl)) (weakH_none _))))
                        · refine weakE_upd ?e8 ?r8 (weakE_upd ?e6 ?r6 (weakE_upd ?e2 ?r2 (weakE_upd ?e1 ?r1 (weakE_junk _ _))))
                          case e1 => first | rfl | exact fI (by omega) | (rfl)
                          case r1 => intro h hh; cases hh
                          case e2 => first | rfl | exact fI (by omega) | (rfl)
                          case r2 => intro h hh; cases hh
                          case e6 => first | rfl | exact fI (by omega) | (rfl)
                          case r6 => intro h hh; simp [refs] at hh; subst hh; rfl
                          case e8 => first | rfl | exact fI (by omega) | (rfl)
                          case r8 => intro h hh; simp [refs] at hh; subst hh; rfl
                  · refine tn_k (listed' := #[true, true, true, true, true, true, false, true, false]) rfl rfl rfl rfl (k_alloc zA31 rfl ?_)
                    refine tn_step [6] (by kernel_rfl) rfl ?_
                    refine ⟨?_, trivial⟩
                    · refine tn_k (listed' := #[true, true, true, true, true, true, true, true, false]) rfl rfl rfl rfl (k_build zA31 pl31 (rfl) ?_)
                      refine tn_step [8] (by kernel_rfl) rfl ?_
                      refine ⟨?_, trivial⟩
                      · refine tn_k (listed' := #[true, true, true, true, true, true, true, true, true]) rfl rfl rfl rfl (k_store sz31 rfl (by conv => lhs; whnf) rfl rfl rfl (Nat.le_of_ble_eq_true rfl) rfl ?_)
                        refine tn_end (by kernel_rfl) (hK11 _ ?_); clear hK11
                        refine sub_weak ?_ ?_
                        · exact weakH_box (boxEq (rfl)) rfl (weakH_boxR (boxEq (rfl)) rfl (weakH_row (rowEq (rfl)) (weakH_row (rowEq (rfl)) (weakH_none _))))
                        · refine weakE_upd ?e8 ?r8 (weakE_upd ?e6 ?r6 (weakE_upd ?e2 ?r2 (weakE_upd ?e1 ?r1 (weakE_junk _ _))))
                          case e1 => first | rfl | exact fI (by omega) | (rfl)
                          case r1 => intro h hh; cases hh
                          case e2 => first | rfl | exact fI (by omega) | (rfl)
                          case r2 => intro h hh; cases hh
                          case e6 => first | rfl | exact fI (by omega) | (rfl)
                          case r6 => intro h hh; simp [refs] at hh; subst hh; rfl
                          case e8 => first | rfl | exact fI (by omega) | (rfl)
                          case r8 => intro h hh; simp [refs] at hh; subst hh; rfl
                · refine tn_k (listed' := #[true, true, true, true, true, false, false, true, false]) rfl rfl rfl rfl (k_alloc zA31 rfl ?_)
                  refine tn_step [5] (by kernel_rfl) rfl ?_
                  refine ⟨?_, trivial⟩
                  · refine tn_k (listed' := #[true, true, true, true, true, true, false, true, false]) rfl rfl rfl rfl (k_callX [(7, 900002)] (D_slices_Clone_impl_Pipe_impl_Pipe_X ps hp) rfl (rfl) (rfl) trivial ⟨⟨rfl, show (900002 : Nat) < 1000000 by decide⟩, trivial⟩ rfl rfl rfl ?_)
                    refine tn_step [6] (by kernel_rfl) rfl ?_
                    refine ⟨?_, trivial⟩
                    · refine tn_k (listed' := #[true, true, true, true, true, true, true, true, false]) rfl rfl rfl rfl (k_build zA31 pl31 (rfl) ?_)
                      refine tn_step [8] (by kernel_rfl) rfl ?_
                      refine ⟨?_, trivial⟩
                      · refine tn_k (listed' := #[true, true, true, true, true, true, true, true, true]) rfl rfl rfl rfl (k_store sz31 rfl (by conv => lhs; whnf) rfl rfl rfl (Nat.le_of_ble_eq_true rfl) rfl ?_)
                        refine tn_end (by kernel_rfl) (hK11 _ ?_); clear hK11
                        refine sub_weak ?_ ?_
                        · exact weakH_box (boxEq (rfl)) rfl (weakH_boxR (boxEq (rfl)) rfl (weakH_row (rowEq (rfl)) (weakH_row (rowEq (rfl)) (weakH_none _))))
                        · refine weakE_upd ?e8 ?r8 (weakE_upd ?e6 ?r6 (weakE_upd ?e2 ?r2 (weakE_upd ?e1 ?r1 (weakE_junk _ _))))
                          case e1 => first | rfl | exact fI (by omega) | (rfl)
                          case r1 => intro h hh; cases hh
                          case e2 => first | rfl | exact fI (by omega) | (rfl)
                          case r2 => intro h hh; cases hh
                          case e6 => first | rfl | exact fI (by omega) | (rfl)
                          case r6 => intro h hh; simp [refs] at hh; subst hh; rfl
                          case e8 => first | rfl | exact fI (by omega) | (rfl)
                          case r8 => intro h hh; simp [refs] at hh; subst hh; rfl
              · refine tn_k (listed' := #[true, true, false, true, true, false, false, true, false]) rfl rfl rfl rfl (k_alloc zA31 rfl ?_)
                refine tn_step [2] (by kernel_rfl) rfl ?_
                refine ⟨?_, trivial⟩
                · refine tn_k (listed' := #[true, true, true, true, true, false, false, true, false]) rfl rfl rfl rfl (k_callX [(7, 900001)] (D_slices_Clone_int64_int64_X ns hn) rfl (rfl) (rfl) trivial ⟨⟨rfl, show (900001 : Nat) < 1000000 by decide⟩, trivial⟩ rfl rfl rfl ?_)
                  refine tn_step [5] (by kernel_rfl) rfl ?_
                  refine ⟨?_, trivial⟩
                  · refine tn_k (listed' := #[true, true, true, true, true, true, false, true, false]) rfl rfl rfl rfl (k_callX [(7, 900002)] (D_slices_Clone_impl_Pipe_impl_Pipe_X ps hp) rfl (rfl) (rfl) trivial ⟨⟨rfl, show (900002 : Nat) < 1000000 by decide⟩, trivial⟩ rfl rfl rfl ?_)
                    refine tn_step [6] (by kernel_rfl) rfl ?_
                    refine ⟨?_, trivial⟩
                    · refine tn_k (listed' := #[true, true, true, true, true, true, true, true, false]) rfl rfl rfl rfl (k_build zA31 pl31 (rfl) ?_)
                      refine tn_step [8] (by kernel_rfl) rfl ?_
                      refine ⟨?_, trivial⟩
                      · refine tn_k (listed' := #[true, true, true, true, true, true, true, true, true]) rfl rfl rfl rfl (k_store sz31 rfl (by conv => lhs; whnf) rfl rfl rfl (Nat.le_of_ble_eq_true rfl) rfl ?_)
                        refine tn_end (by kernel_rfl) (hK11 _ ?_); clear hK11
                        refine sub_weak ?_ ?_
                        · exact weakH_box (boxEq (rfl)) rfl (weakH_boxR (boxEq (rfl)) rfl (weakH_row (rowEq (rfl)) (weakH_row (rowEq (rfl)) (weakH_none _))))
                        · refine weakE_upd ?e8 ?r8 (weakE_upd ?e6 ?r6 (weakE_upd ?e2 ?r2 (weakE_upd ?e1 ?r1 (weakE_junk _ _))))
                          case e1 => first | rfl | exact fI (by omega) | (rfl)
                          case r1 => intro h hh; cases hh
                          case e2 => first | rfl | exact fI (by omega) | (rfl)
                          case r2 => intro h hh; cases hh
                          case e6 => first | rfl | exact fI (by omega) | (rfl)
                          case r6 => intro h hh; simp [refs] at hh; subst hh; rfl
                          case e8 => first | rfl | exact fI (by omega) | (rfl)
                          case r8 => intro h hh; simp [refs] at hh; subst hh; rfl
            · refine tn_k (listed' := #[true, true, false, true, false, false, false, true, false]) rfl rfl rfl rfl (k_alloc zA31 rfl ?_)
              refine tn_step [2, 4] (by kernel_rfl) rfl ?_
              refine ⟨?_, ?_, trivial⟩
              · refine tn_k (listed' := #[true, true, true, true, false, false, false, true, false]) rfl rfl rfl rfl (k_callX [(7, 900001)] (D_slices_Clone_int64_int64_X ns hn) rfl (rfl) (rfl) trivial ⟨⟨rfl, show (900001 : Nat) < 1000000 by decide⟩, trivial⟩ rfl rfl rfl ?_)
                refine tn_first_q (i := 4) (listed' := #[true, true, true, true, true, false, false, true, false]) rfl rfl (by kernel_rfl) rfl (q_load tA29 rfl ?_)
                refine tn_step [5] (by kernel_rfl) rfl ?_
                refine ⟨?_, trivial⟩
                · refine tn_k (listed' := #[true, true, true, true, true, true, false, true, false]) rfl rfl rfl rfl (k_callX [(7, 900002)] (D_slices_Clone_impl_Pipe_impl_Pipe_X ps hp) rfl (rfl) (rfl) trivial ⟨⟨rfl, show (900002 : Nat) < 1000000 by decide⟩, trivial⟩ rfl rfl rfl ?_)
                  refine tn_step [6] (by kernel_rfl) rfl ?_
                  refine ⟨?_, trivial⟩
                  · refine tn_k (listed' := #[true, true, true, true, true, true, true, true, false]) rfl rfl rfl rfl (k_build zA31 pl31 (rfl) ?_)
                    refine tn_step [8] (by kernel_rfl) rfl ?_
                    refine ⟨?_, trivial⟩
                    · refine tn_k (listed' := #[true, true, true, true, true, true, true, true, true]) rfl rfl rfl rfl (k_store sz31 rfl (by conv => lhs; whnf) rfl rfl rfl (Nat.le_of_ble_eq_true rfl) rfl ?_)
                      refine tn_end (by kernel_rfl) (hK11 _ ?_); clear hK11
                      refine sub_weak ?_ ?_
                      · exact weakH_box (boxEq (rfl)) rfl (weakH_boxR (boxEq (rfl)) rfl (weakH_row (rowEq (rfl)) (weakH_row (rowEq (rfl)) (weakH_none _))))
                      · refine weakE_upd ?e8 ?r8 (weakE_upd ?e6 ?r6 (weakE_upd ?e2 ?r2 (weakE_upd ?e1 ?r1 (weakE_junk _ _))))
                        case e1 => first | rfl | exact fI (by omega) | (rfl)
                        case r1 => intro h hh; cases hh
                        case e2 => first | rfl | exact fI (by omega) | (rfl)
                        case r2 => intro h hh; cases hh
                        case e6 => first | rfl | exact fI (by omega) | (rfl)
                        case r6 => intro h hh; simp [refs] at hh; subst hh; rfl
                        case e8 => first | rfl | exact fI (by omega) | (rfl)
                        case r8 => intro h hh; simp [refs] at hh; subst hh; rfl
              · refine tn_q (listed' := #[true, true, false, true, true, false, false, true, false]) rfl rfl rfl (q_load tA29 rfl ?_)
                refine tn_step [2] (by kernel_rfl) rfl ?_
                refine ⟨?_, trivial⟩
                · refine tn_k (listed' := #[true, true, true, true, true, false, false, true, false]) rfl rfl rfl rfl (k_callX [(7, 900001)] (D_slices_Clone_int64_int64_X ns hn) rfl (rfl) (rfl) trivial ⟨⟨rfl, show (900001 : Nat) < 1000000 by decide⟩, trivial⟩ rfl rfl rfl ?_)
                  refine tn_step [5] (by kernel_rfl) rfl ?_
                  refine ⟨?_, trivial⟩
                  · refine tn_k (listed' := #[true, true, true, true, true, true, false, true, false]) rfl rfl rfl rfl (k_callX [(7, 900002)] (D_slices_Clone_impl_Pipe_impl_Pipe_X ps hp) rfl (rfl) (rfl) trivial ⟨⟨rfl, show (900002 : Nat) < 1000000 by decide⟩, trivial⟩ rfl rfl rfl ?_)
                    refine tn_step [6] (by kernel_rfl) rfl ?_
                    refine ⟨?_, trivial⟩
                    · refine tn_k (listed' := #[true, true, true, true, true, true, true, true, false]) rfl rfl rfl rfl (k_build zA31 pl31 (rfl) ?_)
                      refine tn_step [8] (by kernel_rfl) rfl ?_
                      refine ⟨?_, trivial⟩
                      · refine tn_k (listed' := #[true, true, true, true, true, true, true, true, true]) rfl rfl rfl rfl (k_store sz31 rfl (by conv => lhs; whnf) rfl rfl rfl (Nat.le_of_ble_eq_true rfl) rfl ?_)
                        refine tn_end (by kernel_rfl) (hK11 _ ?_); clear hK11
                        refine sub_weak ?_ ?_
                        · exact weakH_box (boxEq (rfl)) rfl (weakH_boxR (boxEq (rfl)) rfl (weakH_row (rowEq (rfl)) (weakH_row (rowEq (rfl)) (weakH_none _))))
                        · refine weakE_upd ?e8 ?r8 (weakE_upd ?e6 ?r6 (weakE_upd ?e2 ?r2 (weakE_upd ?e1 ?r1 (weakE_junk _ _))))
                          case e1 => first | rfl | exact fI (by omega) | (rfl)
                          case r1 => intro h hh; cases hh
                          case e2 => first | rfl | exact fI (by omega) | (rfl)
                          case r2 => intro h hh; cases hh
                          case e6 => first | rfl | exact fI (by omega) | (rfl)
                          case r6 => intro h hh; simp [refs] at hh; subst hh; rfl
                          case e8 => first | rfl | exact fI (by omega) | (rfl)
                          case r8 => intro h hh; simp [refs] at hh; subst hh; rfl
          · refine tn_q (listed' := #[true, false, false, true, true, false, false, false, false]) rfl rfl rfl (q_load tA29 rfl ?_)
            refine tn_step [1, 7] (by kernel_rfl) rfl ?_
            refine ⟨?_, ?_, trivial⟩
            · refine tn_q (listed' := #[true, true, false, true, true, false, false, false, false]) rfl rfl rfl (q_load tA22 rfl ?_)
              refine tn_step [2, 7] (by kernel_rfl) rfl ?_
              refine ⟨?_, ?_, trivial⟩
              · refine tn_k (listed' := #[true, true, true, true, true, false, false, false, false]) rfl rfl rfl rfl (k_callX [(7, 900001)] (D_slices_Clone_int64_int64_X ns hn) rfl (rfl) (rfl) trivial ⟨⟨rfl, show (900001 : Nat) < 1000000 by decide⟩, trivial⟩ rfl rfl rfl ?_)
                refine tn_step [5, 7] (by kernel_rfl) rfl ?_
                refine ⟨?_, ?_, trivial⟩
                · refine tn_k (listed' := #[true, true, true, true, true, true, false, false, false]) rfl rfl rfl rfl (k_callX [(7, 900002)] (D_slices_Clone_impl_Pipe_impl_Pipe_X ps hp) rfl (rfl) (rfl) trivial ⟨⟨rfl, show (900002 : Nat) < 1000000 by decide⟩, trivial⟩ rfl rfl rfl ?_)
                  refine tn_step [6, 7] (by kernel_rfl) rfl ?_
                  refine ⟨?_, ?_, trivial⟩
                  · refine tn_k (listed' := #[true, true, true, true, true, true, true, false, false]) rfl rfl rfl rfl (k_build zA31 pl31 (rfl) ?_)
                    refine tn_step [7] (by kernel_rfl) rfl ?_
                    refine ⟨?_, trivial⟩
                    · refine tn_k (listed' := #[true, true, true, true, true, true, true, true, false]) rfl rfl rfl rfl (k_alloc zA31 rfl ?_)
                      refine tn_step [8] (by kernel_rfl) rfl ?_
                      refine ⟨?_, trivial⟩
                      · refine tn_k (listed' := #[true, true, true, true, true, true, true, true, true]) rfl rfl rfl rfl (k_store sz31 rfl (by conv => lhs; whnf) rfl rfl rfl (Nat.le_of_ble_eq_true rfl) rfl ?_)
                        refine tn_end (by kernel_rfl) (hK11 _ ?_); clear hK11
                        refine sub_weak ?_ ?_
                        · exact weakH_box (boxEq (rfl)) rfl (weakH_boxR (boxEq (rfl)) rfl (weakH_row (rowEq (rfl)) (weakH_row (rowEq (rfl)) (weakH_none _))))
                        · refine weakE_upd ?e8 ?r8 (weakE_upd ?e6 ?r6 (weakE_upd ?e2 ?r2 (weakE_upd ?e1 ?r1 (weakE_junk _ _))))
                          case e1 => first | rfl | exact fI (by omega) | (rfl)
                          case r1 => intro h hh; cases hh
                          case e2 => first | rfl | exact fI (by omega) | (rfl)
                          case r2 => intro h hh; cases hh
                          case e6 => first | rfl | exact fI (by omega) | (rfl)
                          case r6 => intro h hh; simp [refs] at hh; subst hh; rfl
                          case e8 => first | rfl | exact fI (by omega) | (rfl)
                          case r8 => intro h hh; simp [refs] at hh; subst hh; rfl
                  · refine tn_k (listed' := #[true, true, true, true, true, true, false, true, false]) rfl rfl rfl rfl (k_alloc zA31 rfl ?_)
                    refine tn_step [6] (by kernel_rfl) rfl ?_
                    refine ⟨?_, trivial⟩
                    · refine tn_k (listed' := #[true, true, true, true, true, true, true, true, false]) rfl rfl rfl rfl (k_build zA31 pl31 (rfl) ?_)
                      refine tn_step [8] (by kernel_rfl) rfl ?_
                      refine ⟨?_, trivial⟩
                      · refine tn_k (listed' := #[true, true, true, true, true, true, true, true, true]) rfl rfl rfl rfl (k_store sz31 rfl (by conv => lhs; whnf) rfl rfl rfl (Nat.le_of_ble_eq_true rfl) rfl ?_)
                        refine tn_end (by kernel_rfl) (hK11 _ ?_); clear hK11
                        refine sub_weak ?_ ?_
                        · exact weakH_box (boxEq (rfl)) rfl (weakH_boxR (boxEq (rfl)) rfl (weakH_row (rowEq (rfl)) (weakH_row (rowEq (rfl)) (weakH_none _))))
                        · refine weakE_upd ?e8 ?r8 (weakE_upd ?e6 ?r6 (weakE_upd ?e2 ?r2 (weakE_upd ?e1 ?r1 (weakE_junk _ _))))
                          case e1 => first | rfl | exact fI (by omega) | (rfl)
                          case r1 => intro h hh; cases hh
                          case e2 => first | rfl | exact fI (by omega) | (rfl)
                          case r2 => intro h hh; cases hh
                          case e6 => first | rfl | exact fI (by omega) | (rfl)
                          case r6 => intro h hh; simp [refs] at hh; subst hh; rfl
                          case e8 => first | rfl | exact fI (by omega) | (rfl)
                          case r8 => intro h hh; simp [refs] at hh; subst hh; rfl
                · refine tn_k (listed' := #[true, true, true, true, true, false, false, true, false]) rfl rfl rfl rfl (k_alloc zA31 rfl ?_)
                  refine tn_step [5] (by kernel_rfl) rfl ?_
                  refine ⟨?_, trivial⟩
                  · refine tn_k (listed' := #[true, true, true, true, true, true, false, true, false]) rfl rfl rfl rfl (k_callX [(7, 900002)] (D_slices_Clone_impl_Pipe_impl_Pipe_X ps hp) rfl (rfl) (rfl) trivial ⟨⟨rfl, show (900002 : Nat) < 1000000 by decide⟩, trivial⟩ rfl rfl rfl ?_)
                    refine tn_step [6] (by kernel_rfl) rfl ?_
                    refine ⟨?_, trivial⟩
                    · refine tn_k (listed' := #[true, true, true, true, true, true, true, true, false]) rfl rfl rfl rfl (k_build zA31 pl31 (rfl) ?_)
                      refine tn_step [8] (by kernel_rfl) rfl ?_
                      refine ⟨?_, trivial⟩
                      · refine tn_k (listed' := #[true, true, true, true, true, true, true, true, true]) rfl rfl rfl rfl (k_store sz31 rfl (by conv => lhs; whnf) rfl rfl rfl (Nat.le_of_ble_eq_true rfl) rfl ?_)
                        refine tn_end (by kernel_rfl) (hK11 _ ?_); clear hK11
                        refine sub_weak ?_ ?_
                        · exact weakH_box (boxEq (rfl)) rfl (weakH_boxR (boxEq (rfl)) rfl (weakH_row (rowEq (rfl)) (weakH_row (rowEq (rfl)) (weakH_none _))))
                        · refine weakE_upd ?e8 ?r8 (weakE_upd ?e6 ?r6 (weakE_upd ?e2 ?r2 (weakE_upd ?e1 ?r1 (weakE_junk _ _))))
                          case e1 => first | rfl | exact fI (by omega) | (rfl)
                          case r1 => intro h hh; cases hh
                          case e2 => first | rfl | exact fI (by omega) | (rfl)
                          case r2 => intro h hh; cases hh
                          case e6 => first | rfl | exact fI (by omega) | (rfl)
                          case r6 => intro h hh; simp [refs] at hh; subst hh; rfl
                          case e8 => first | rfl | exact fI (by omega) | (rfl)
                          case r8 => intro h hh; simp [refs] at hh; subst hh; rfl
              · refine tn_k (listed' := #[true, true, false, true, true, false, false, true, false]) rfl rfl rfl rfl (k_alloc zA31 rfl ?_)
                refine tn_step [2] (by kernel_rfl) rfl ?_
                refine ⟨?_, trivial⟩
                · refine tn_k (listed' := #[true, true, true, true, true, false, false, true, false]) rfl rfl rfl rfl (k_callX [(7, 900001)] (D_slices_Clone_int64_int64_X ns hn) rfl (rfl) (rfl) trivial ⟨⟨rfl, show (900001 : Nat) < 1000000 by decide⟩, trivial⟩ rfl rfl rfl ?_)
                  refine tn_step [5] (by kernel_rfl) rfl ?_
                  refine ⟨?_, trivial⟩
                  · refine tn_k (listed' := #[true, true, true, true, true, true, false, true, false]) rfl rfl rfl rfl (k_callX [(7, 900002)] (D_slices_Clone_impl_Pipe_impl_Pipe_X ps hp) rfl (rfl) (rfl) trivial ⟨⟨rfl, show (900002 : Nat) < 1000000 by decide⟩, trivial⟩ rfl rfl rfl ?_)
                    refine tn_step [6] (by kernel_rfl) rfl ?_
                    refine ⟨?_, trivial⟩
                    · refine tn_k (listed' := #[true, true, true, true, true, true, true, true, false]) rfl rfl rfl rfl (k_build zA31 pl31 (rfl) ?_)
                      refine tn_step [8] (by kernel_rfl) rfl ?_
                      refine ⟨?_, trivial⟩
                      · refine tn_k (listed' := #[true, true, true, true, true, true, true, true, true]) rfl rfl rfl rfl (k_store sz31 rfl (by conv => lhs; whnf) rfl rfl rfl (Nat.le_of_ble_eq_true rfl) rfl ?_)
                        refine tn_end (by kernel_rfl) (hK11 _ ?_); clear hK11
                        refine sub_weak ?_ ?_
                        · exact weakH_box (boxEq (rfl)) rfl (weakH_boxR (boxEq (rfl)) rfl (weakH_row (rowEq (rfl)) (weakH_row (rowEq (rfl)) (weakH_none _))))
                        · refine weakE_upd ?e8 ?r8 (weakE_upd ?e6 ?r6 (weakE_upd ?e2 ?r2 (weakE_upd ?e1 ?r1 (weakE_junk _ _))))
                          case e1 => first | rfl | exact fI (by omega) | (rfl)
                          case r1 => intro h hh; cases hh
                          case e2 => first | rfl | exact fI (by omega) | (rfl)
                          case r2 => intro h hh; cases hh
                          case e6 => first | rfl | exact fI (by omega) | (rfl)
                          case r6 => intro h hh; simp [refs] at hh; subst hh; rfl
                          case e8 => first | rfl | exact fI (by omega) | (rfl)
                          case r8 => intro h hh; simp [refs] at hh; subst hh; rfl
            · refine tn_k (listed' := #[true, false, false, true, true, false, false, true, false]) rfl rfl rfl rfl (k_alloc zA31 rfl ?_)
              refine tn_first_q (i := 1) (listed' := #[true, true, false, true, true, false, false, true, false]) rfl rfl (by kernel_rfl) rfl (q_load tA22 rfl ?_)
              refine tn_step [2] (by kernel_rfl) rfl ?_
              refine ⟨?_, trivial⟩
              · refine tn_k (listed' := #[true, true, true, true, true, false, false, true, false]) rfl rfl rfl rfl (k_callX [(7, 900001)] (D_slices_Clone_int64_int64_X ns hn) rfl (rfl) (rfl) trivial ⟨⟨rfl, show (900001 : Nat) < 1000000 by decide⟩, trivial⟩ rfl rfl rfl ?_)
                refine tn_step [5] (by kernel_rfl) rfl ?_
                refine ⟨?_, trivial⟩
                · refine tn_k (listed' := #[true, true, true, true, true, true, false, true, false]) rfl rfl rfl rfl (k_callX [(7, 900002)] (D_slices_Clone_impl_Pipe_impl_Pipe_X ps hp) rfl (rfl) (rfl) trivial ⟨⟨rfl, show (900002 : Nat) < 1000000 by decide⟩, trivial⟩ rfl rfl rfl ?_)
                  refine tn_step [6] (by kernel_rfl) rfl ?_
                  refine ⟨?_, trivial⟩
                  · refine tn_k (listed' := #[true, true, true, true, true, true, true, true, false]) rfl rfl rfl rfl (k_build zA31 pl31 (rfl) ?_)
                    refine tn_step [8] (by kernel_rfl) rfl ?_
                    refine ⟨?_, trivial⟩
                    · refine tn_k (listed' := #[true, true, true, true, true, true, true, true, true]) rfl rfl rfl rfl (k_store sz31 rfl (by conv => lhs; whnf) rfl rfl rfl (Nat.le_of_ble_eq_true rfl) rfl ?_)
                      refine tn_end (by kernel_rfl) (hK11 _ ?_); clear hK11
                      refine sub_weak ?_ ?_
                      · exact weakH_box (boxEq (rfl)) rfl (weakH_boxR (boxEq (rfl)) rfl (weakH_row (rowEq (rfl)) (weakH_row (rowEq (rfl)) (weakH_none _))))
                      · refine weakE_upd ?e8 ?r8 (weakE_upd ?e6 ?r6 (weakE_upd ?e2 ?r2 (weakE_upd ?e1 ?r1 (weakE_junk _ _))))
                        case e1 => first | rfl | exact fI (by omega) | (rfl)
                        case r1 => intro h hh; cases hh
                        case e2 => first | rfl | exact fI (by omega) | (rfl)
                        case r2 => intro h hh; cases hh
                        case e6 => first | rfl | exact fI (by omega) | (rfl)
                        case r6 => intro h hh; simp [refs] at hh; subst hh; rfl
                        case e8 => first | rfl | exact fI (by omega) | (rfl)
                        case r8 => intro h hh; simp [refs] at hh; subst hh; rfl
          · refine tn_k (listed' := #[true, false, false, true, false, false, false, true, false]) rfl rfl rfl rfl (k_alloc zA31 rfl ?_)
            refine tn_first_q (i := 1) (listed' := #[true, true, false, true, false, false, false, true, false]) rfl rfl (by kernel_rfl) rfl (q_load tA22 rfl ?_)
            refine tn_step [2, 4] (by kernel_rfl) rfl ?_
            refine ⟨?_, ?_, trivial⟩
            · refine tn_k (listed' := #[true, true, true, true, false, false, false, true, false]) rfl rfl rfl rfl (k_callX [(7, 900001)] (D_slices_Clone_int64_int64_X ns hn) rfl (rfl) (rfl) trivial ⟨⟨rfl, show (900001 : Nat) < 1000000 by decide⟩, trivial⟩ rfl rfl rfl ?_)
              refine tn_first_q (i := 4) (listed' := #[true, true, true, true, true, false, false, true, false]) rfl rfl (by kernel_rfl) rfl (q_load tA29 rfl ?_)
              refine tn_step [5] (by kernel_rfl) rfl ?_
              refine ⟨?_, trivial⟩
              · refine tn_k (listed' := #[true, true, true, true, true, true, false, true, false]) rfl rfl rfl rfl (k_callX [(7, 900002)] (D_slices_Clone_impl_Pipe_impl_Pipe_X ps hp) rfl (rfl) (rfl) trivial ⟨⟨rfl, show (900002 : Nat) < 1000000 by decide⟩, trivial⟩ rfl rfl rfl ?_)
                refine tn_step [6] (by kernel_rfl) rfl ?_
                refine ⟨?_, trivial⟩
                · refine tn_k (listed' := #[true, true, true, true, true, true, true, true, false]) rfl rfl rfl rfl (k_build zA31 pl31 (rfl) ?_)
                  refine tn_step [8] (by kernel_rfl) rfl ?_
                  refine ⟨?_, trivial⟩
                  · refine tn_k (listed' := #[true, true, true, true, true, true, true, true, true]) rfl rfl rfl rfl (k_store sz31 rfl (by conv => lhs; whnf) rfl rfl rfl (Nat.le_of_ble_eq_true rfl) rfl ?_)
                    refine tn_end (by kernel_rfl) (hK11 _ ?_); clear hK11
                    refine sub_weak ?_ ?_
                    · exact weakH_box (boxEq (rfl)) rfl (weakH_boxR (boxEq (rfl)) rfl (weakH_row (rowEq (rfl)) (weakH_row (rowEq (rfl)) (weakH_none _))))
                    · refine weakE_upd ?e8 ?r8 (weakE_upd ?e6 ?r6 (weakE_upd ?e2 ?r2 (weakE_upd ?e1 ?r1 (weakE_junk _ _))))
                      case e1 => first | rfl | exact fI (by omega) | (rfl)
                      case r1 => intro h hh; cases hh
                      case e2 => first | rfl | exact fI (by omega) | (rfl)
                      case r2 => intro h hh; cases hh
                      case e6 => first | rfl | exact fI (by omega) | (rfl)
                      case r6 => intro h hh; simp [refs] at hh; subst hh; rfl
                      case e8 => first | rfl | exact fI (by omega) | (rfl)
                      case r8 => intro h hh; simp [refs] at hh; subst hh; rfl
            · refine tn_q (listed' := #[true, true, false, true, true, false, false, true, false]) rfl rfl rfl (q_load tA29 rfl ?_)
              refine tn_step [2] (by kernel_rfl) rfl ?_
              refine ⟨?_, trivial⟩
              · refine tn_k (listed' := #[true, true, true, true, true, false, false, true, false]) rfl rfl rfl rfl (k_callX [(7, 900001)] (D_slices_Clone_int64_int64_X ns hn) rfl (rfl) (rfl) trivial ⟨⟨rfl, show (900001 : Nat) < 1000000 by decide⟩, trivial⟩ rfl rfl rfl ?_)
                refine tn_step [5] (by kernel_rfl) rfl ?_
                refine ⟨?_, trivial⟩
                · refine tn_k (listed' := #[true, true, true, true, true, true, false, true, false]) rfl rfl rfl rfl (k_callX [(7, 900002)] (D_slices_Clone_impl_Pipe_impl_Pipe_X ps hp) rfl (rfl) (rfl) trivial ⟨⟨rfl, show (900002 : Nat) < 1000000 by decide⟩, trivial⟩ rfl rfl rfl ?_)
                  refine tn_step [6] (by kernel_rfl) rfl ?_
                  refine ⟨?_, trivial⟩
                  · refine tn_k (listed' := #[true, true, true, true, true, true, true, true, false]) rfl rfl rfl rfl (k_build zA31 pl31 (rfl) ?_)
                    refine tn_step [8] (by kernel_rfl) rfl ?_
                    refine ⟨?_, trivial⟩
                    · refine tn_k (listed' := #[true, true, true, true, true, true, true, true, true]) rfl rfl rfl rfl (k_store sz31 rfl (by conv => lhs; whnf) rfl rfl rfl (Nat.le_of_ble_eq_true rfl) rfl ?_)
                      refine tn_end (by kernel_rfl) (hK11 _ ?_); clear hK11
                      refine sub_weak ?_ ?_
                      · exact weakH_box (boxEq (rfl)) rfl (weakH_boxR (boxEq (rfl)) rfl (weakH_row (rowEq (rfl)) (weakH_row (rowEq (rfl)) (weakH_none _))))
                      · refine weakE_upd ?e8 ?r8 (weakE_upd ?e6 ?r6 (weakE_upd ?e2 ?r2 (weakE_upd ?e1 ?r1 (weakE_junk _ _))))
                        case e1 => first | rfl | exact fI (by omega) | (rfl)
                        case r1 => intro h hh; cases hh
                        case e2 => first | rfl | exact fI (by omega) | (rfl)
                        case r2 => intro h hh; cases hh
                        case e6 => first | rfl | exact fI (by omega) | (rfl)
                        case r6 => intro h hh; simp [refs] at hh; subst hh; rfl
                        case e8 => first | rfl | exact fI (by omega) | (rfl)
                        case r8 => intro h hh; simp [refs] at hh; subst hh; rfl
theorem D_impl_RenewPipes (ns : List Int) (ps : List Pi) (xs : List Int) (lo : Int) (hn : ns.length ≤ 17592186044416) (hp : ps.length ≤ 2513169434843) (hz : idSz ps) (hx : xs.length ≤ 17592186044416) : Den Try.prog 27 [.agg [.lst 1 (ns.map ci), .lst 6 (ps.map piA)], .lst 1 (xs.map ci), .s (.int .i64 lo)] (.tup [.agg [.lst 1 ((rnN ns ps xs lo).map ci), .lst 6 ((rnP ns ps xs lo).map piA)], .s (.int .i64 (rnC ns ps xs lo))]) :=
  den_of_denX (D_impl_RenewPipes_X ns ps xs lo hn hp hz hx) (by change (some (.tup [.agg [.lst 1 (List.take (rnN ns ps xs lo).length ((rnN ns ps xs lo).map ci)), .lst 6 (List.take (rnP ns ps xs lo).length ((rnP ns ps xs lo).map piA))], .s (.int .i64 (rnC ns ps xs lo))]) : Option AV) = some (.tup [.agg [.lst 1 ((rnN ns ps xs lo).map ci), .lst 6 ((rnP ns ps xs lo).map piA)], .s (.int .i64 (rnC ns ps xs lo))]); simp only [takeMap])

-- laws.markInt64S
set_option maxRecDepth 20000 in
set_option maxHeartbeats 2000000 in
theorem D_laws_markInt64S (xs : List Int) (k : Int) (hx : xs.length ≤ 17592186044416) (hk : 0 ≤ k ∧ k ≤ 1000000000000000) : DenX Try.prog 24 [(1000000, .row 2 1 (xs.map ci))] [.own 1000000 xs.length, .s (.int .i64 k)] [(1000000, .row 2 1 (mkC k xs xs.length))] (.s (.int .i64 (k + xs.length))) := by
  refine denX_of_good Try.func24 (by decide) rfl (Nat.le_of_ble_eq_true rfl) (Nat.le_of_ble_eq_true rfl) rfl ?_
  refine good_seq fun K1 hK1 => ?_
  refine good_region rfl ?_
  refine ev_q rfl (q_assign (by conv => lhs; whnf) ?_)
  refine ev_nil (hK1 _ ?_); clear hK1
  refine good_seq fun K2 hK2 => ?_
  refine good_seq fun K3 hK3 => ?_
  refine good_region rfl ?_
  refine ev_q rfl (q_assign (by conv => lhs; whnf) ?_)
  refine ev_nil (hK3 _ ?_); clear hK3
  refine good_block ?_
  refine good_loop (α := Nat) (fun i => { env := upd (upd (upd ((fun _ => .junk)) 0 (.own 1000000 xs.length)) 1 (.s (.int .i64 (k + i)))) 5 (.s (.int .i64 i)), H := upd ((fun _ => none)) 1000000 (some (.row 2 1 (mkC k xs i))) }) (fun i => i ≤ xs.length) (fun i => xs.length - i) 0 ?_ ?_ ?_
  · show 0 ≤ _; omega
  · refine sub_weak ?_ ?_
    · exact weakH_row (rowEq (mkC0.symm)) (weakH_none _)
    · refine weakE_upd ?e5 ?r5 (weakE_upd ?e1 ?r1 (weakE_upd ?e0 ?r0 (weakE_junk _ _)))
      case e0 => first | rfl | exact fI (by omega) | (simp_all)
      case r0 => intro h hh; simp [refs] at hh; subst hh; rfl
      case e1 => first | rfl | exact fI (by omega) | (simp_all)
      case r1 => intro h hh; cases hh
      case e5 => first | rfl | exact fI (by omega) | (simp_all)
      case r5 => intro h hh; cases hh
  · rintro i hI
    refine good_seq fun K4 hK4 => ?_
    refine good_seq fun K5 hK5 => ?_
    refine good_region rfl ?_
    refine ev_q rfl (q_move (by conv => lhs; whnf) ?_)
    refine ev_q rfl (q_move (by conv => lhs; whnf) ?_)
    refine ev_q rfl (q_len tEs22 rfl ?_)
    intro n6 hn6
    try simp only [List.length_map] at hn6
    refine ev_q rfl (q_int rfl rfl ?_)
    intro b7 hb7; cases b7
    · replace hb7 := dF hb7
      refine ev_nil (hK5 _ ?_); clear hK5
      refine good_condF rfl ?_
      refine good_exit ?_
      repeat (first | refine thenQ_exit ?_ | refine blockQ_pass rfl ?_)
      refine blockQ_exit (hK2 _ ?_); clear hK2
      refine good_seq fun K8 hK8 => ?_
      refine good_region rfl ?_
      refine ev_q rfl (q_move (by conv => lhs; whnf) ?_)
      refine ev_q rfl (q_assign (by conv => lhs; whnf) ?_)
      refine ev_nil (hK8 _ ?_); clear hK8
      refine good_ret ?_
      repeat (first | refine thenQ_ret ?_ | refine blockQ_ret ?_)
      refine fx_tmp rfl (by conv => lhs; whnf) ?_
      clear hK4
      exact ⟨_, conv_eq (by first | rfl | exact fI (by first | omega | grind) | (exfalso; first | omega | grind)), weakH_row (rowEq (by rw [show i = xs.length by omega])) (weakH_none _), refsIn_ok rfl⟩
    · replace hb7 := dT hb7
      obtain ⟨p, hp⟩ := getL (xs := xs) (n := (i : Int)) (by omega) (by omega)
      refine ev_nil (hK5 _ ?_); clear hK5
      refine good_condT rfl ?_
      refine good_skip (hK4 _ ?_); clear hK4
      refine good_seq fun K9 hK9 => ?_
      refine good_block ?_
      refine good_seq fun K10 hK10 => ?_
      refine good_region rfl ?_
      refine ev_q rfl (q_move (by conv => lhs; whnf) ?_)
      refine ev_q rfl (q_move (by conv => lhs; whnf) ?_)
      refine ev_q rfl (q_move (by conv => lhs; whnf) ?_)
      refine ev_q rfl (q_idxO tE22 rfl rfl rfl (by exact Int.natCast_nonneg _) (by omega) rfl ?_)
      refine ev_k rfl (k_storeE sz2 rfl (by conv => lhs; whnf) rfl rfl rfl (Nat.le_of_ble_eq_true rfl) rfl (by exact mkC_get hp) (Nat.le_of_ble_eq_true rfl) rfl ?_)
      refine ev_nil (hK10 _ ?_); clear hK10
      refine good_region rfl ?_
      refine ev_q rfl (q_move (by conv => lhs; whnf) ?_)
      refine ev_q rfl (q_int rfl rfl ?_)
      intro n11 hn11
      replace hn11 := in64 hn11 (by omega) (by omega)
      refine ev_q rfl (q_assign (by conv => lhs; whnf) ?_)
      refine ev_nil (hK9 _ ?_); clear hK9
      refine good_region rfl ?_
      refine ev_q rfl (q_move (by conv => lhs; whnf) ?_)
      refine ev_q rfl (q_int rfl rfl ?_)
      intro n12 hn12
      replace hn12 := in64 hn12 (by omega) (by omega)
      refine ev_q rfl (q_assign (by conv => lhs; whnf) ?_)
      refine ev_nil ?_
      clear hK2
      refine ⟨i + 1, ?_, ?_, ?_⟩
      · show _ ≤ _; omega
      · first | omega | (simp only []; omega) | (dsimp only; omega)
      · refine sub_weak ?_ ?_
        · exact weakH_row (rowEq (mkC_set (by omega))) (weakH_none _)
        · refine weakE_upd ?e5 ?r5 (weakE_upd ?e1 ?r1 (weakE_upd ?e0 ?r0 (weakE_junk _ _)))
          case e0 => first | rfl | exact fI (by omega) | (simp_all)
          case r0 => intro h hh; simp [refs] at hh; subst hh; rfl
          case e1 => first | rfl | exact fI (by omega) | (simp_all)
          case r1 => intro h hh; cases hh
          case e5 => first | rfl | exact fI (by omega) | (simp_all)
          case r5 => intro h hh; cases hh

-- laws.heldInt64S
set_option maxRecDepth 20000 in
set_option maxHeartbeats 2000000 in
theorem D_laws_heldInt64S (xs : List Int) (k : Int) (hx : xs.length ≤ 17592186044416) (hk : 0 ≤ k ∧ k ≤ 1000000000000000) : Den Try.prog 25 [.lst 1 (mkC k xs xs.length), .s (.int .i64 k)] (.s (.int .i64 (k + xs.length))) := by
  have hl := mkC_len (k := k) (xs := xs) (Nat.le_refl _)
  refine den_of_good Try.func25 (by decide) rfl (Nat.le_of_ble_eq_true rfl) (Nat.le_of_ble_eq_true rfl) ?_
  refine good_seq fun K1 hK1 => ?_
  refine good_region rfl ?_
  refine ev_q rfl (q_assign (by conv => lhs; whnf) ?_)
  refine ev_nil (hK1 _ ?_); clear hK1
  refine good_seq fun K2 hK2 => ?_
  refine good_seq fun K3 hK3 => ?_
  refine good_region rfl ?_
  refine ev_q rfl (q_assign (by conv => lhs; whnf) ?_)
  refine ev_nil (hK3 _ ?_); clear hK3
  refine good_block ?_
  refine good_loop (α := Nat) (fun i => { env := upd (upd (upd ((fun _ => .junk)) 0 (.lst 1 (mkC k xs xs.length))) 1 (.s (.int .i64 (k + i)))) 5 (.s (.int .i64 i)), H := fun _ => none }) (fun i => i ≤ xs.length) (fun i => xs.length - i) 0 ?_ ?_ ?_
  · show 0 ≤ _; omega
  · refine sub_weak ?_ ?_
    · exact weakH_none _
    · refine weakE_upd ?e5 ?r5 (weakE_upd ?e1 ?r1 (weakE_upd ?e0 ?r0 (weakE_junk _ _)))
      case e0 => first | rfl | exact fI (by omega) | (simp_all)
      case r0 => intro h hh; cases hh
      case e1 => first | rfl | exact fI (by omega) | (simp_all)
      case r1 => intro h hh; cases hh
      case e5 => first | rfl | exact fI (by omega) | (simp_all)
      case r5 => intro h hh; cases hh
  · rintro i hI
    refine good_seq fun K4 hK4 => ?_
    refine good_seq fun K5 hK5 => ?_
    refine good_region rfl ?_
    refine ev_q rfl (q_move (by conv => lhs; whnf) ?_)
    refine ev_q rfl (q_move (by conv => lhs; whnf) ?_)
    refine ev_q rfl (q_len tEs22 rfl ?_)
    intro n6 hn6
    try simp only [List.length_map] at hn6
    refine ev_q rfl (q_int rfl rfl ?_)
    intro b7 hb7; cases b7
    · replace hb7 := dF hb7
      refine ev_nil (hK5 _ ?_); clear hK5
      refine good_condF rfl ?_
      refine good_exit ?_
      repeat (first | refine thenQ_exit ?_ | refine blockQ_pass rfl ?_)
      refine blockQ_exit (hK2 _ ?_); clear hK2
      refine good_seq fun K8 hK8 => ?_
      refine good_region rfl ?_
      refine ev_q rfl (q_move (by conv => lhs; whnf) ?_)
      refine ev_q rfl (q_assign (by conv => lhs; whnf) ?_)
      refine ev_nil (hK8 _ ?_); clear hK8
      refine good_ret ?_
      repeat (first | refine thenQ_ret ?_ | refine blockQ_ret ?_)
      refine ret_tmp (st := _) rfl (by conv => lhs; whnf) rfl ?_
      clear hK4
      first | rfl | exact fI (by first | omega | grind) | (exfalso; first | omega | grind)
    · replace hb7 := dT hb7
      refine ev_nil (hK5 _ ?_); clear hK5
      refine good_condT rfl ?_
      refine good_skip (hK4 _ ?_); clear hK4
      refine good_seq fun K9 hK9 => ?_
      refine good_block ?_
      refine good_seq fun K10 hK10 => ?_
      refine good_seq fun K11 hK11 => ?_
      refine good_region rfl ?_
      refine ev_q rfl (q_move (by conv => lhs; whnf) ?_)
      refine ev_q rfl (q_move (by conv => lhs; whnf) ?_)
      refine ev_q rfl (q_idx tE22 rfl rfl (by exact Int.natCast_nonneg _) (by exact mkC_held (by omega)) rfl ?_)
      refine ev_q rfl (q_load tA2 rfl ?_)
      refine ev_q rfl (q_move (by conv => lhs; whnf) ?_)
      refine ev_q rfl (q_int rfl rfl ?_)
      intro b12 hb12; cases b12
      · replace hb12 := neF hb12
        refine ev_nil (hK11 _ ?_); clear hK11
        refine good_condF rfl ?_
        refine good_skip (hK10 _ ?_); clear hK10
        refine good_region rfl ?_
        refine ev_q rfl (q_move (by conv => lhs; whnf) ?_)
        refine ev_q rfl (q_int rfl rfl ?_)
        intro n13 hn13
        replace hn13 := in64 hn13 (by omega) (by omega)
        refine ev_q rfl (q_assign (by conv => lhs; whnf) ?_)
        refine ev_nil (hK9 _ ?_); clear hK9
        refine good_region rfl ?_
        refine ev_q rfl (q_move (by conv => lhs; whnf) ?_)
        refine ev_q rfl (q_int rfl rfl ?_)
        intro n14 hn14
        replace hn14 := in64 hn14 (by omega) (by omega)
        refine ev_q rfl (q_assign (by conv => lhs; whnf) ?_)
        refine ev_nil ?_
        clear hK2
        refine ⟨i + 1, ?_, ?_, ?_⟩
        · show _ ≤ _; omega
        · first | omega | (simp only []; omega) | (dsimp only; omega)
        · refine sub_weak ?_ ?_
          · exact weakH_none _
          · refine weakE_upd ?e5 ?r5 (weakE_upd ?e1 ?r1 (weakE_upd ?e0 ?r0 (weakE_junk _ _)))
            case e0 => first | rfl | exact fI (by omega) | (simp_all)
            case r0 => intro h hh; cases hh
            case e1 => first | rfl | exact fI (by omega) | (simp_all)
            case r1 => intro h hh; cases hh
            case e5 => first | rfl | exact fI (by omega) | (simp_all)
            case r5 => intro h hh; cases hh
      · replace hb12 := neT hb12
        refine ev_nil (hK11 _ ?_); clear hK11
        refine good_condT rfl ?_
        refine good_seq fun K15 hK15 => ?_
        refine good_region rfl ?_
        refine ev_q rfl (q_assign (by conv => lhs; whnf) ?_)
        refine ev_nil (hK15 _ ?_); clear hK15
        refine good_ret ?_
        repeat (first | refine thenQ_ret ?_ | refine blockQ_ret ?_)
        refine ret_tmp (st := _) rfl (by conv => lhs; whnf) rfl ?_
        clear hK2 hK9 hK10
        first | rfl | exact fI (by first | omega | grind) | (exfalso; first | omega | grind)

-- laws.markText
set_option maxRecDepth 20000 in
set_option maxHeartbeats 2000000 in
theorem D_laws_markText (k : Int) (hk : k ≤ 100000000000000) : Den Try.prog 118 [.s (.int .i64 k)] (.s (.string (mkT k))) := by
  refine den_of_good Try.func118 (by decide) rfl (Nat.le_of_ble_eq_true rfl) (Nat.le_of_ble_eq_true rfl) ?_
  refine good_seq fun K1 hK1 => ?_
  refine good_region rfl ?_
  refine ev_q rfl (q_assign (by conv => lhs; whnf) ?_)
  refine ev_nil (hK1 _ ?_); clear hK1
  refine good_seq fun K2 hK2 => ?_
  refine good_seq fun K3 hK3 => ?_
  refine good_region rfl ?_
  refine ev_q rfl (q_move (by conv => lhs; whnf) ?_)
  refine ev_q rfl (q_int rfl rfl ?_)
  intro b4 hb4; cases b4
  · replace hb4 := dF hb4
    refine ev_nil (hK3 _ ?_); clear hK3
    refine good_condF rfl ?_
    refine good_skip (hK2 _ ?_); clear hK2
    refine good_seq fun K5 hK5 => ?_
    refine good_region rfl ?_
    refine ev_q rfl (q_assign (by conv => lhs; whnf) ?_)
    refine ev_nil (hK5 _ ?_); clear hK5
    refine good_seq fun K6 hK6 => ?_
    refine good_block ?_
    refine good_loop (α := Nat × ByteArray) (fun (n, o) => { env := upd (upd ((fun _ => .junk)) 0 (.s (.int .i64 ((n : Int))))) 3 (.s (.string o)), H := fun _ => none }) (fun (n, o) => mkD n o = mkD k.toNat ⟨#[]⟩ ∧ (o.size : Int) + n ≤ k) (fun (n, o) => n) (k.toNat, ⟨#[]⟩) ?_ ?_ ?_
    · exact ⟨rfl, by show ((0 : Nat) : Int) + _ ≤ _; omega⟩
    · refine sub_weak ?_ ?_
      · exact weakH_none _
      · refine weakE_upd ?e3 ?r3 (weakE_upd ?e0 ?r0 (weakE_junk _ _))
        case e0 => first | rfl | exact fI (by omega) | (exact fI (by omega))
        case r0 => intro h hh; cases hh
        case e3 => first | rfl | exact fI (by omega) | (rfl)
        case r3 => intro h hh; cases hh
    · rintro ⟨n, o⟩ ⟨hI, hJ⟩
      refine good_seq fun K7 hK7 => ?_
      refine good_seq fun K8 hK8 => ?_
      refine good_region rfl ?_
      refine ev_q rfl (q_move (by conv => lhs; whnf) ?_)
      refine ev_q rfl (q_int rfl rfl ?_)
      intro b9 hb9; cases b9
      · replace hb9 := dF hb9
        refine ev_nil (hK8 _ ?_); clear hK8
        refine good_condF rfl ?_
        refine good_exit ?_
        repeat (first | refine thenQ_exit ?_ | refine blockQ_pass rfl ?_)
        refine blockQ_exit (hK6 _ ?_); clear hK6
        refine good_seq fun K10 hK10 => ?_
        refine good_region rfl ?_
        refine ev_q rfl (q_move (by conv => lhs; whnf) ?_)
        refine ev_q rfl (q_str rfl rfl ⟨by have : (⟨#[109]⟩ : ByteArray).size = 1 := rfl; omega, ?_⟩)
        intro s11 hs11
        refine ev_q rfl (q_assign (by conv => lhs; whnf) ?_)
        refine ev_nil (hK10 _ ?_); clear hK10
        refine good_ret ?_
        repeat (first | refine thenQ_ret ?_ | refine blockQ_ret ?_)
        refine ret_tmp (st := _) rfl (by conv => lhs; whnf) rfl ?_
        clear hK7
        first | exact congrArg (fun s => AV.s (Value.string s)) (mkT0 (k := k) (by omega)).symm | (have e := mkT1 (k := k) (by omega); rw [mkD_end (by omega)] at hI; rw [e, ← hI]; simp_all)
      · replace hb9 := dT hb9
        refine ev_nil (hK8 _ ?_); clear hK8
        refine good_condT rfl ?_
        refine good_skip (hK7 _ ?_); clear hK7
        refine good_block ?_
        refine good_seq fun K12 hK12 => ?_
        refine good_region rfl ?_
        refine ev_q rfl (q_move (by conv => lhs; whnf) ?_)
        refine ev_q rfl (q_int rfl rfl ⟨by omega, ?_⟩)
        intro n13 hn13
        first | replace hn13 := remE hn13 (by omega) | skip
        refine ev_q rfl (q_int rfl rfl ?_)
        intro n14 hn14
        replace hn14 := in64 hn14 (by omega) (by omega)
        refine ev_q rfl (q_conv tK3 tK5 rfl ?_)
        intro n15 hn15
        replace hn15 := wrap8 hn15 (by omega) (by omega)
        refine ev_k rfl (k_lit tE59 zA5 rfl rfl (by decide) (by decide) rfl rfl rfl ?_)
        refine ev_q rfl (q_txtO tByS59 tStr9 rfl rfl (by rfl) ?_)
        intro s16 hs16
        refine ev_q rfl (q_move (by conv => lhs; whnf) ?_)
        refine ev_q rfl (q_str rfl rfl ⟨by have := congrArg ByteArray.size hs16; rw [strOfNums_size] at this; simp at this; omega, ?_⟩)
        intro s17 hs17
        refine ev_q rfl (q_assign (by conv => lhs; whnf) ?_)
        refine ev_nil (hK12 _ ?_); clear hK12
        refine good_region rfl ?_
        refine ev_q rfl (q_move (by conv => lhs; whnf) ?_)
        refine ev_q rfl (q_int rfl rfl ⟨by omega, ?_⟩)
        intro n18 hn18
        first | replace hn18 := quoE hn18 (by omega) (by omega) | replace hn18 := quoT hn18 (by omega) (by omega)
        refine ev_q rfl (q_assign (by conv => lhs; whnf) ?_)
        refine ev_nil ?_
        clear hK6
        refine ⟨(n18.toNat, s17), ?_, ?_, ?_⟩
        · have e15 : s17 = strOfNums [n15] ++ o := by rw [hs17, hs16]
          have hz := str1_size e15
          exact ⟨(mkD_step (by omega) (by omega) (by omega) e15).trans hI, by first | omega | (dsimp only; omega)⟩
        · first | omega | (dsimp only; omega)
        · refine sub_weak ?_ ?_
          · exact weakH_none _
          · refine weakE_upd ?e3 ?r3 (weakE_upd ?e0 ?r0 (weakE_junk _ _))
            case e0 => first | rfl | exact fI (by omega) | (exact fI (by omega))
            case r0 => intro h hh; cases hh
            case e3 => first | rfl | exact fI (by omega) | (rfl)
            case r3 => intro h hh; cases hh
  · replace hb4 := dT hb4
    refine ev_nil (hK3 _ ?_); clear hK3
    refine good_condT rfl ?_
    refine good_seq fun K19 hK19 => ?_
    refine good_region rfl ?_
    refine ev_q rfl (q_assign (by conv => lhs; whnf) ?_)
    refine ev_nil (hK19 _ ?_); clear hK19
    refine good_ret ?_
    repeat (first | refine thenQ_ret ?_ | refine blockQ_ret ?_)
    refine ret_tmp (st := _) rfl (by conv => lhs; whnf) rfl ?_
    clear hK2
    first | exact congrArg (fun s => AV.s (Value.string s)) (mkT0 (k := k) (by omega)).symm | (have e := mkT1 (k := k) (by omega); rw [mkD_end (by omega)] at hI; rw [e, ← hI]; simp_all)

-- laws.toNetwork
set_option maxRecDepth 20000 in
set_option maxHeartbeats 2000000 in
theorem D_laws_toNetwork_X (ns : List Int) (ps : List Pi) (hn : ns.length ≤ 17592186044416) (hp : ps.length ≤ 2513169434843) : DenX Try.prog 14 [] [.agg [.lst 1 (ns.map ci), .lst 6 (ps.map piA)]] [(900001, .row 2 1 (ns.map ci)), (900002, .row 88 6 (ps.map piA))] (.agg [.own 900001 ns.length, .own 900002 ps.length]) := by
  refine denX_of_good Try.func14 (by decide) rfl (Nat.le_of_ble_eq_true rfl) (Nat.le_of_ble_eq_true rfl) rfl ?_
  refine good_seq fun K1 hK1 => ?_
  refine good_region rfl ?_
  refine ev_k rfl (k_box (by conv => lhs; whnf) rfl rfl rfl ?_)
  refine ev_k rfl (k_alloc zA31 rfl ?_)
  refine ev_nil (hK1 _ ?_); clear hK1
  refine good_seq fun K2 hK2 => ?_
  refine good_region rfl ?_
  refine ev_k rfl (k_alloc zA31 rfl ?_)
  refine ev_nil (hK2 _ ?_); clear hK2
  refine good_seq fun K3 hK3 => ?_
  refine good_region rfl ?_
  refine ev_q rfl (q_fieldAddrP fO25_0 rfl rfl ?_)
  refine ev_q rfl (q_load tA22 rfl ?_)
  refine ev_k rfl (k_callX [(7, 900001)] (D_laws_toInt64S_X _ hn) rfl (rfl) (rfl) trivial ⟨⟨rfl, show (900001 : Nat) < 1000000 by decide⟩, trivial⟩ rfl rfl rfl ?_)
  refine ev_q rfl (q_fieldAddrP fO31_0 rfl rfl ?_)
  refine ev_k rfl (k_store sz22 rfl (by conv => lhs; whnf) rfl rfl rfl (Nat.le_of_ble_eq_true rfl) rfl ?_)
  refine ev_nil (hK3 _ ?_); clear hK3
  refine good_seq fun K4 hK4 => ?_
  refine good_region rfl ?_
  refine ev_q rfl (q_fieldAddrP fO25_1 rfl rfl ?_)
  refine ev_q rfl (q_load tA23 rfl ?_)
  refine ev_k rfl (k_callX [(7, 900002)] (D_laws_toPipeS_X _ hp) rfl (rfl) (rfl) trivial ⟨⟨rfl, show (900002 : Nat) < 1000000 by decide⟩, trivial⟩ rfl rfl rfl ?_)
  refine ev_q rfl (q_fieldAddrP fO31_1 rfl rfl ?_)
  refine ev_k rfl (k_store sz29 rfl (by conv => lhs; whnf) rfl rfl rfl (Nat.le_of_ble_eq_true rfl) rfl ?_)
  refine ev_nil (hK4 _ ?_); clear hK4
  refine good_seq fun K5 hK5 => ?_
  refine good_region rfl ?_
  refine ev_q rfl (q_loadA tA31 rfl rfl rfl ?_)
  refine ev_k rfl (k_store sz31 rfl (by conv => lhs; whnf) rfl rfl rfl (Nat.le_of_ble_eq_true rfl) rfl ?_)
  refine ev_nil (hK5 _ ?_); clear hK5
  refine good_ret ?_
  repeat (first | refine thenQ_ret ?_ | refine blockQ_ret ?_)
  refine fx_cell rfl tA31 rfl rfl rfl ?_
  exact ⟨_, conv_eq (by first | rfl | exact fAgg1 (by first | rfl | exact ownEq (by first | done | omega | (simp; done)) | (simp_all; done)) (fAgg1 (by first | rfl | exact ownEq (by first | done | omega | (simp; done)) | (simp_all; done)) (rfl))), weakH_row (rowEq (by first | rfl | (rw [e]; done) | (rw [e]; rfl) | (simp_all; done))) (weakH_row (rowEq (by first | rfl | (rw [e]; done) | (rw [e]; rfl) | (simp_all; done))) (weakH_none _)), refsIn_ok rfl⟩

-- laws.markPipeS
set_option maxRecDepth 20000 in
set_option maxHeartbeats 2000000 in
theorem D_laws_markPipeS (ps : List Pi) (k : Int) (hp : ps.length ≤ 2513169434843) (hk : 0 ≤ k ∧ k ≤ 20000000000000) : DenX Try.prog 71 [(1000000, .row 88 6 (ps.map piA))] [.own 1000000 ps.length, .s (.int .i64 k)] [(1000000, .row 88 6 (mkP k ps ps.length))] (.s (.int .i64 (k + 6 * ps.length))) := by
  refine denX_of_good Try.func71 (by decide) rfl (Nat.le_of_ble_eq_true rfl) (Nat.le_of_ble_eq_true rfl) rfl ?_
  refine good_seq fun K1 hK1 => ?_
  refine good_region rfl ?_
  refine ev_q rfl (q_assign (by conv => lhs; whnf) ?_)
  refine ev_nil (hK1 _ ?_); clear hK1
  refine good_seq fun K2 hK2 => ?_
  refine good_seq fun K3 hK3 => ?_
  refine good_region rfl ?_
  refine ev_q rfl (q_assign (by conv => lhs; whnf) ?_)
  refine ev_nil (hK3 _ ?_); clear hK3
  refine good_block ?_
  refine good_loop (α := Nat) (fun i => { env := upd (upd (upd ((fun _ => .junk)) 0 (.own 1000000 ps.length)) 1 (.s (.int .i64 (k + 6 * i)))) 5 (.s (.int .i64 i)), H := upd ((fun _ => none)) 1000000 (some (.row 88 6 (mkP k ps i))) }) (fun i => i ≤ ps.length) (fun i => ps.length - i) 0 ?_ ?_ ?_
  · show 0 ≤ _; omega
  · refine sub_weak ?_ ?_
    · exact weakH_row (rowEq (mkP0.symm)) (weakH_none _)
    · refine weakE_upd ?e5 ?r5 (weakE_upd ?e1 ?r1 (weakE_upd ?e0 ?r0 (weakE_junk _ _)))
      case e0 => first | rfl | exact fI (by omega) | (simp_all)
      case r0 => intro h hh; simp [refs] at hh; subst hh; rfl
      case e1 => first | rfl | exact fI (by omega) | (simp_all)
      case r1 => intro h hh; cases hh
      case e5 => first | rfl | exact fI (by omega) | (simp_all)
      case r5 => intro h hh; cases hh
  · rintro i hI
    refine good_seq fun K4 hK4 => ?_
    refine good_seq fun K5 hK5 => ?_
    refine good_region rfl ?_
    refine ev_q rfl (q_move (by conv => lhs; whnf) ?_)
    refine ev_q rfl (q_move (by conv => lhs; whnf) ?_)
    refine ev_q rfl (q_len tEs29 rfl ?_)
    intro n6 hn6
    try simp only [List.length_map] at hn6
    refine ev_q rfl (q_int rfl rfl ?_)
    intro b7 hb7; cases b7
    · replace hb7 := dF hb7
      refine ev_nil (hK5 _ ?_); clear hK5
      refine good_condF rfl ?_
      refine good_exit ?_
      repeat (first | refine thenQ_exit ?_ | refine blockQ_pass rfl ?_)
      refine blockQ_exit (hK2 _ ?_); clear hK2
      refine good_seq fun K8 hK8 => ?_
      refine good_region rfl ?_
      refine ev_q rfl (q_move (by conv => lhs; whnf) ?_)
      refine ev_q rfl (q_assign (by conv => lhs; whnf) ?_)
      refine ev_nil (hK8 _ ?_); clear hK8
      refine good_ret ?_
      repeat (first | refine thenQ_ret ?_ | refine blockQ_ret ?_)
      refine fx_tmp rfl (by conv => lhs; whnf) ?_
      clear hK4
      exact ⟨_, conv_eq (by first | rfl | exact fI (by first | omega | grind) | (exfalso; first | omega | grind)), weakH_row (rowEq (by rw [show i = ps.length by omega])) (weakH_none _), refsIn_ok rfl⟩
    · replace hb7 := dT hb7
      obtain ⟨p, hpp⟩ := getL (xs := ps) (n := (i : Int)) (by omega) (by omega)
      replace hpp : ps[i]? = some p := hpp
      refine ev_nil (hK5 _ ?_); clear hK5
      refine good_condT rfl ?_
      refine good_skip (hK4 _ ?_); clear hK4
      refine good_seq fun K9 hK9 => ?_
      refine good_block ?_
      refine good_seq fun K10 hK10 => ?_
      refine good_region rfl ?_
      refine ev_q rfl (q_move (by conv => lhs; whnf) ?_)
      refine ev_q rfl (q_move (by conv => lhs; whnf) ?_)
      refine ev_q rfl (q_move (by conv => lhs; whnf) ?_)
      refine ev_q rfl (q_call rfl rfl (rfl) (D_laws_markText _ (by omega)) rfl ?_)
      refine ev_q rfl (q_idxO tE29 rfl rfl rfl (by exact Int.natCast_nonneg _) (by omega) rfl ?_)
      refine ev_q rfl (q_fieldAddrE fO88_0 rfl rfl ?_)
      refine ev_k rfl (k_storeE sz9 rfl (by conv => lhs; whnf) rfl rfl rfl (Nat.le_of_ble_eq_true rfl) rfl (by first | exact mkP_get hpp | exact setGet (by (try simp only [List.length_set]); rw [mkP_len (by omega)]; omega)) (Nat.le_of_ble_eq_true rfl) rfl ?_)
      refine ev_nil (hK10 _ ?_); clear hK10
      refine good_seq fun K11 hK11 => ?_
      refine good_region rfl ?_
      refine ev_q rfl (q_move (by conv => lhs; whnf) ?_)
      refine ev_q rfl (q_int rfl rfl ?_)
      intro n12 hn12
      replace hn12 := in64 hn12 (by omega) (by omega)
      refine ev_q rfl (q_assign (by conv => lhs; whnf) ?_)
      refine ev_nil (hK11 _ ?_); clear hK11
      refine good_seq fun K13 hK13 => ?_
      refine good_region rfl ?_
      refine ev_q rfl (q_move (by conv => lhs; whnf) ?_)
      refine ev_q rfl (q_move (by conv => lhs; whnf) ?_)
      refine ev_q rfl (q_move (by conv => lhs; whnf) ?_)
      refine ev_q rfl (q_idxO tE29 rfl rfl rfl (by exact Int.natCast_nonneg _) (by omega) rfl ?_)
      refine ev_q rfl (q_fieldAddrE fO88_1 rfl rfl ?_)
      refine ev_k rfl (k_storeE sz2 rfl (by conv => lhs; whnf) rfl rfl rfl (Nat.le_of_ble_eq_true rfl) rfl (by first | exact mkP_get hpp | exact setGet (by (try simp only [List.length_set]); rw [mkP_len (by omega)]; omega)) (Nat.le_of_ble_eq_true rfl) rfl ?_)
      refine ev_nil (hK13 _ ?_); clear hK13
      refine good_seq fun K14 hK14 => ?_
      refine good_region rfl ?_
      refine ev_q rfl (q_move (by conv => lhs; whnf) ?_)
      refine ev_q rfl (q_int rfl rfl ?_)
      intro n15 hn15
      replace hn15 := in64 hn15 (by omega) (by omega)
      refine ev_q rfl (q_assign (by conv => lhs; whnf) ?_)
      refine ev_nil (hK14 _ ?_); clear hK14
      refine good_seq fun K16 hK16 => ?_
      refine good_region rfl ?_
      refine ev_q rfl (q_move (by conv => lhs; whnf) ?_)
      refine ev_q rfl (q_move (by conv => lhs; whnf) ?_)
      refine ev_q rfl (q_move (by conv => lhs; whnf) ?_)
      refine ev_q rfl (q_idxO tE29 rfl rfl rfl (by exact Int.natCast_nonneg _) (by omega) rfl ?_)
      refine ev_q rfl (q_fieldAddrE fO88_2 rfl rfl ?_)
      refine ev_k rfl (k_storeE sz2 rfl (by conv => lhs; whnf) rfl rfl rfl (Nat.le_of_ble_eq_true rfl) rfl (by first | exact mkP_get hpp | exact setGet (by (try simp only [List.length_set]); rw [mkP_len (by omega)]; omega)) (Nat.le_of_ble_eq_true rfl) rfl ?_)
      refine ev_nil (hK16 _ ?_); clear hK16
      refine good_seq fun K17 hK17 => ?_
      refine good_region rfl ?_
      refine ev_q rfl (q_move (by conv => lhs; whnf) ?_)
      refine ev_q rfl (q_int rfl rfl ?_)
      intro n18 hn18
      replace hn18 := in64 hn18 (by omega) (by omega)
      refine ev_q rfl (q_assign (by conv => lhs; whnf) ?_)
      refine ev_nil (hK17 _ ?_); clear hK17
      refine good_seq fun K19 hK19 => ?_
      refine good_region rfl ?_
      refine ev_q rfl (q_move (by conv => lhs; whnf) ?_)
      refine ev_q rfl (q_move (by conv => lhs; whnf) ?_)
      refine ev_q rfl (q_move (by conv => lhs; whnf) ?_)
      refine ev_q rfl (q_idxO tE29 rfl rfl rfl (by exact Int.natCast_nonneg _) (by omega) rfl ?_)
      refine ev_q rfl (q_fieldAddrE fO88_3 rfl rfl ?_)
      refine ev_k rfl (k_storeE sz2 rfl (by conv => lhs; whnf) rfl rfl rfl (Nat.le_of_ble_eq_true rfl) rfl (by first | exact mkP_get hpp | exact setGet (by (try simp only [List.length_set]); rw [mkP_len (by omega)]; omega)) (Nat.le_of_ble_eq_true rfl) rfl ?_)
      refine ev_nil (hK19 _ ?_); clear hK19
      refine good_seq fun K20 hK20 => ?_
      refine good_region rfl ?_
      refine ev_q rfl (q_move (by conv => lhs; whnf) ?_)
      refine ev_q rfl (q_int rfl rfl ?_)
      intro n21 hn21
      replace hn21 := in64 hn21 (by omega) (by omega)
      refine ev_q rfl (q_assign (by conv => lhs; whnf) ?_)
      refine ev_nil (hK20 _ ?_); clear hK20
      refine good_seq fun K22 hK22 => ?_
      refine good_region rfl ?_
      refine ev_q rfl (q_move (by conv => lhs; whnf) ?_)
      refine ev_q rfl (q_move (by conv => lhs; whnf) ?_)
      refine ev_q rfl (q_move (by conv => lhs; whnf) ?_)
      refine ev_q rfl (q_idxO tE29 rfl rfl rfl (by exact Int.natCast_nonneg _) (by omega) rfl ?_)
      refine ev_q rfl (q_fieldAddrE fO88_4 rfl rfl ?_)
      refine ev_k rfl (k_storeE sz2 rfl (by conv => lhs; whnf) rfl rfl rfl (Nat.le_of_ble_eq_true rfl) rfl (by first | exact mkP_get hpp | exact setGet (by (try simp only [List.length_set]); rw [mkP_len (by omega)]; omega)) (Nat.le_of_ble_eq_true rfl) rfl ?_)
      refine ev_nil (hK22 _ ?_); clear hK22
      refine good_seq fun K23 hK23 => ?_
      refine good_region rfl ?_
      refine ev_q rfl (q_move (by conv => lhs; whnf) ?_)
      refine ev_q rfl (q_int rfl rfl ?_)
      intro n24 hn24
      replace hn24 := in64 hn24 (by omega) (by omega)
      refine ev_q rfl (q_assign (by conv => lhs; whnf) ?_)
      refine ev_nil (hK23 _ ?_); clear hK23
      refine good_seq fun K25 hK25 => ?_
      refine good_region rfl ?_
      refine ev_q rfl (q_move (by conv => lhs; whnf) ?_)
      refine ev_q rfl (q_move (by conv => lhs; whnf) ?_)
      refine ev_q rfl (q_move (by conv => lhs; whnf) ?_)
      refine ev_q rfl (q_idxO tE29 rfl rfl rfl (by exact Int.natCast_nonneg _) (by omega) rfl ?_)
      refine ev_q rfl (q_fieldAddrE fO88_5 rfl rfl ?_)
      refine ev_k rfl (k_storeE sz2 rfl (by conv => lhs; whnf) rfl rfl rfl (Nat.le_of_ble_eq_true rfl) rfl (by first | exact mkP_get hpp | exact setGet (by (try simp only [List.length_set]); rw [mkP_len (by omega)]; omega)) (Nat.le_of_ble_eq_true rfl) rfl ?_)
      refine ev_nil (hK25 _ ?_); clear hK25
      refine good_region rfl ?_
      refine ev_q rfl (q_move (by conv => lhs; whnf) ?_)
      refine ev_q rfl (q_int rfl rfl ?_)
      intro n26 hn26
      replace hn26 := in64 hn26 (by omega) (by omega)
      refine ev_q rfl (q_assign (by conv => lhs; whnf) ?_)
      refine ev_nil (hK9 _ ?_); clear hK9
      refine good_region rfl ?_
      refine ev_q rfl (q_move (by conv => lhs; whnf) ?_)
      refine ev_q rfl (q_int rfl rfl ?_)
      intro n27 hn27
      replace hn27 := in64 hn27 (by omega) (by omega)
      refine ev_q rfl (q_assign (by conv => lhs; whnf) ?_)
      refine ev_nil ?_
      clear hK2
      refine ⟨i + 1, ?_, ?_, ?_⟩
      · show _ ≤ _; omega
      · first | omega | (simp only []; omega) | (dsimp only; omega)
      · refine sub_weak ?_ ?_
        · exact weakH_row (rowEq (mkP_step (by omega) (by omega) (by omega) (by omega) (by omega) (by omega))) (weakH_none _)
        · refine weakE_upd ?e5 ?r5 (weakE_upd ?e1 ?r1 (weakE_upd ?e0 ?r0 (weakE_junk _ _)))
          case e0 => first | rfl | exact fI (by omega) | (simp_all)
          case r0 => intro h hh; simp [refs] at hh; subst hh; rfl
          case e1 => first | rfl | exact fI (by omega) | (simp_all)
          case r1 => intro h hh; cases hh
          case e5 => first | rfl | exact fI (by omega) | (simp_all)
          case r5 => intro h hh; cases hh

-- laws.markNetwork
set_option maxRecDepth 20000 in
set_option maxHeartbeats 2000000 in
theorem D_laws_markNetwork (ns : List Int) (ps : List Pi) (k : Int) (hn : ns.length ≤ 17592186044416) (hp : ps.length ≤ 2513169434843) (hk : 0 ≤ k ∧ k ≤ 1000000) : DenX Try.prog 23 [(1000000, .row 2 1 (ns.map ci)), (1000001, .row 88 6 (ps.map piA))] [.agg [.own 1000000 ns.length, .own 1000001 ps.length], .s (.int .i64 k)] [(1000000, .row 2 1 (mkC k ns ns.length)), (1000001, .row 88 6 (mkP (k + ns.length) ps ps.length))] (.s (.int .i64 (k + ns.length + 6 * ps.length))) := by
  refine denX_of_good Try.func23 (by decide) rfl (Nat.le_of_ble_eq_true rfl) (Nat.le_of_ble_eq_true rfl) rfl ?_
  refine good_seq fun K1 hK1 => ?_
  refine good_region rfl ?_
  refine ev_k rfl (k_box (by conv => lhs; whnf) rfl rfl rfl ?_)
  refine ev_q rfl (q_assign (by conv => lhs; whnf) ?_)
  refine ev_nil (hK1 _ ?_); clear hK1
  refine good_seq fun K2 hK2 => ?_
  refine good_region rfl ?_
  refine ev_q rfl (q_fieldAddrP fO31_0 rfl rfl ?_)
  refine ev_q rfl (q_load tA22 rfl ?_)
  refine ev_q rfl (q_move (by conv => lhs; whnf) ?_)
  refine ev_k rfl (k_callXI [(1000000, 1000000)] (D_laws_markInt64S ns _ hn (by omega)) rfl (rfl) (rfl) ⟨rfl, trivial⟩ ⟨rfl, ⟨rfl, rfl, by rw [mkC_len (Nat.le_refl _)]; simp⟩, trivial⟩ rfl rfl rfl ?_)
  intro n3 hn3
  refine ev_q rfl (q_assign (by conv => lhs; whnf) ?_)
  refine ev_nil (hK2 _ ?_); clear hK2
  refine good_seq fun K4 hK4 => ?_
  refine good_region rfl ?_
  refine ev_q rfl (q_fieldAddrP fO31_1 rfl rfl ?_)
  refine ev_q rfl (q_load tA29 rfl ?_)
  refine ev_q rfl (q_move (by conv => lhs; whnf) ?_)
  refine ev_k rfl (k_callXI [(1000000, 1000001)] (D_laws_markPipeS ps _ hp (by omega)) rfl (rfl) (rfl) ⟨rfl, trivial⟩ ⟨rfl, ⟨rfl, rfl, by rw [mkP_len (Nat.le_refl _)]; simp⟩, trivial⟩ rfl rfl rfl ?_)
  intro n5 hn5
  refine ev_q rfl (q_assign (by conv => lhs; whnf) ?_)
  refine ev_nil (hK4 _ ?_); clear hK4
  refine good_seq fun K6 hK6 => ?_
  refine good_region rfl ?_
  refine ev_q rfl (q_move (by conv => lhs; whnf) ?_)
  refine ev_q rfl (q_assign (by conv => lhs; whnf) ?_)
  refine ev_nil (hK6 _ ?_); clear hK6
  refine good_ret ?_
  repeat (first | refine thenQ_ret ?_ | refine blockQ_ret ?_)
  refine fx_tmp rfl (by conv => lhs; whnf) ?_
  exact ⟨_, conv_eq (by first | rfl | exact fI (by first | omega | grind) | (exfalso; first | omega | grind)), weakH_row (rowEq (by first | rfl | (rw [e]; done) | (rw [e]; rfl) | (simp_all; done))) (weakH_row (rowEq (by first | rfl | (rw [e]; done) | (rw [e]; rfl) | (simp_all; done))) (weakH_none _)), refsIn_ok rfl⟩

-- laws.heldPipeS
set_option maxRecDepth 20000 in
set_option maxHeartbeats 2000000 in
theorem D_laws_heldPipeS (ps : List Pi) (k : Int) (hp : ps.length ≤ 2513169434843) (hk : 0 ≤ k ∧ k ≤ 20000000000000) : Den Try.prog 79 [.lst 6 (mkP k ps ps.length), .s (.int .i64 k)] (.s (.int .i64 (k + 6 * ps.length))) := by
  have hln := mkP_len (k := k) (xs := ps) (Nat.le_refl _)
  refine den_of_good Try.func79 (by decide) rfl (Nat.le_of_ble_eq_true rfl) (Nat.le_of_ble_eq_true rfl) ?_
  refine good_seq fun K1 hK1 => ?_
  refine good_region rfl ?_
  refine ev_q rfl (q_assign (by conv => lhs; whnf) ?_)
  refine ev_nil (hK1 _ ?_); clear hK1
  refine good_seq fun K2 hK2 => ?_
  refine good_seq fun K3 hK3 => ?_
  refine good_region rfl ?_
  refine ev_q rfl (q_assign (by conv => lhs; whnf) ?_)
  refine ev_nil (hK3 _ ?_); clear hK3
  refine good_block ?_
  refine good_loop (α := Nat) (fun i => { env := upd (upd (upd ((fun _ => .junk)) 0 (.lst 6 (mkP k ps ps.length))) 1 (.s (.int .i64 (k + 6 * i)))) 5 (.s (.int .i64 i)), H := fun _ => none }) (fun i => i ≤ ps.length) (fun i => ps.length - i) 0 ?_ ?_ ?_
  · show 0 ≤ _; omega
  · refine sub_weak ?_ ?_
    · exact weakH_none _
    · refine weakE_upd ?e5 ?r5 (weakE_upd ?e1 ?r1 (weakE_upd ?e0 ?r0 (weakE_junk _ _)))
      case e0 => first | rfl | exact fI (by omega) | (simp_all)
      case r0 => intro h hh; cases hh
      case e1 => first | rfl | exact fI (by omega) | (simp_all)
      case r1 => intro h hh; cases hh
      case e5 => first | rfl | exact fI (by omega) | (simp_all)
      case r5 => intro h hh; cases hh
  · rintro i hI
    refine good_seq fun K4 hK4 => ?_
    refine good_seq fun K5 hK5 => ?_
    refine good_region rfl ?_
    refine ev_q rfl (q_move (by conv => lhs; whnf) ?_)
    refine ev_q rfl (q_move (by conv => lhs; whnf) ?_)
    refine ev_q rfl (q_len tEs29 rfl ?_)
    intro n6 hn6
    try simp only [List.length_map] at hn6
    rw [hln] at hn6
    refine ev_q rfl (q_int rfl rfl ?_)
    intro b7 hb7; cases b7
    · replace hb7 := dF hb7
      refine ev_nil (hK5 _ ?_); clear hK5
      refine good_condF rfl ?_
      refine good_exit ?_
      repeat (first | refine thenQ_exit ?_ | refine blockQ_pass rfl ?_)
      refine blockQ_exit (hK2 _ ?_); clear hK2
      refine good_seq fun K8 hK8 => ?_
      refine good_region rfl ?_
      refine ev_q rfl (q_move (by conv => lhs; whnf) ?_)
      refine ev_q rfl (q_assign (by conv => lhs; whnf) ?_)
      refine ev_nil (hK8 _ ?_); clear hK8
      refine good_ret ?_
      repeat (first | refine thenQ_ret ?_ | refine blockQ_ret ?_)
      refine ret_tmp (st := _) rfl (by conv => lhs; whnf) rfl ?_
      clear hK4
      first | exact fI (by omega) | (exfalso; first | omega | contradiction)
    · replace hb7 := dT hb7
      refine ev_nil (hK5 _ ?_); clear hK5
      refine good_condT rfl ?_
      refine good_skip (hK4 _ ?_); clear hK4
      refine good_seq fun K9 hK9 => ?_
      refine good_block ?_
      refine good_seq fun K10 hK10 => ?_
      refine good_seq fun K11 hK11 => ?_
      refine good_draw 8 hmix (by kernel_rfl) rfl ?_
      refine qo_q rfl (q_move (by conv => lhs; whnf) ?_)
      refine qo_q rfl (q_move (by conv => lhs; whnf) ?_)
      refine qo_q rfl (q_idx tE29 rfl rfl (by exact Int.natCast_nonneg _) (by exact mkP_at (by omega)) rfl ?_)
      refine qo_q rfl (q_fieldAddr fO88_0 rfl rfl ?_)
      refine qo_q rfl (q_load tA9 rfl ?_)
      refine qo_q rfl (q_move (by conv => lhs; whnf) ?_)
      refine qo_q rfl (q_call rfl rfl (rfl) (D_laws_markText _ (by omega)) rfl ?_)
      refine qo_q rfl (q_str rfl rfl ?_)
      intro b12 hb12; cases b12
      · replace hb12 := snF hb12
        refine qo_nil ?_
        refine ev_nil (hK11 _ ?_); clear hK11
        refine good_condF rfl ?_
        refine good_skip (hK10 _ ?_); clear hK10
        refine good_seq fun K13 hK13 => ?_
        refine good_region rfl ?_
        refine ev_q rfl (q_move (by conv => lhs; whnf) ?_)
        refine ev_q rfl (q_int rfl rfl ?_)
        intro n14 hn14
        replace hn14 := in64 hn14 (by omega) (by omega)
        refine ev_q rfl (q_assign (by conv => lhs; whnf) ?_)
        refine ev_nil (hK13 _ ?_); clear hK13
        refine good_seq fun K15 hK15 => ?_
        refine good_seq fun K16 hK16 => ?_
        refine good_region rfl ?_
        refine ev_q rfl (q_move (by conv => lhs; whnf) ?_)
        refine ev_q rfl (q_move (by conv => lhs; whnf) ?_)
        refine ev_q rfl (q_idx tE29 rfl rfl (by exact Int.natCast_nonneg _) (by exact mkP_at (by omega)) rfl ?_)
        refine ev_q rfl (q_fieldAddr fO88_1 rfl rfl ?_)
        refine ev_q rfl (q_load tA2 rfl ?_)
        refine ev_q rfl (q_move (by conv => lhs; whnf) ?_)
        refine ev_q rfl (q_int rfl rfl ?_)
        intro b17 hb17; cases b17
        · replace hb17 := neF hb17
          refine ev_nil (hK16 _ ?_); clear hK16
          refine good_condF rfl ?_
          refine good_skip (hK15 _ ?_); clear hK15
          refine good_seq fun K18 hK18 => ?_
          refine good_region rfl ?_
          refine ev_q rfl (q_move (by conv => lhs; whnf) ?_)
          refine ev_q rfl (q_int rfl rfl ?_)
          intro n19 hn19
          replace hn19 := in64 hn19 (by omega) (by omega)
          refine ev_q rfl (q_assign (by conv => lhs; whnf) ?_)
          refine ev_nil (hK18 _ ?_); clear hK18
          refine good_seq fun K20 hK20 => ?_
          refine good_seq fun K21 hK21 => ?_
          refine good_region rfl ?_
          refine ev_q rfl (q_move (by conv => lhs; whnf) ?_)
          refine ev_q rfl (q_move (by conv => lhs; whnf) ?_)
          refine ev_q rfl (q_idx tE29 rfl rfl (by exact Int.natCast_nonneg _) (by exact mkP_at (by omega)) rfl ?_)
          refine ev_q rfl (q_fieldAddr fO88_2 rfl rfl ?_)
          refine ev_q rfl (q_load tA2 rfl ?_)
          refine ev_q rfl (q_move (by conv => lhs; whnf) ?_)
          refine ev_q rfl (q_int rfl rfl ?_)
          intro b22 hb22; cases b22
          · replace hb22 := neF hb22
            refine ev_nil (hK21 _ ?_); clear hK21
            refine good_condF rfl ?_
            refine good_skip (hK20 _ ?_); clear hK20
            refine good_seq fun K23 hK23 => ?_
            refine good_region rfl ?_
            refine ev_q rfl (q_move (by conv => lhs; whnf) ?_)
            refine ev_q rfl (q_int rfl rfl ?_)
            intro n24 hn24
            replace hn24 := in64 hn24 (by omega) (by omega)
            refine ev_q rfl (q_assign (by conv => lhs; whnf) ?_)
            refine ev_nil (hK23 _ ?_); clear hK23
            refine good_seq fun K25 hK25 => ?_
            refine good_seq fun K26 hK26 => ?_
            refine good_region rfl ?_
            refine ev_q rfl (q_move (by conv => lhs; whnf) ?_)
            refine ev_q rfl (q_move (by conv => lhs; whnf) ?_)
            refine ev_q rfl (q_idx tE29 rfl rfl (by exact Int.natCast_nonneg _) (by exact mkP_at (by omega)) rfl ?_)
            refine ev_q rfl (q_fieldAddr fO88_3 rfl rfl ?_)
            refine ev_q rfl (q_load tA2 rfl ?_)
            refine ev_q rfl (q_move (by conv => lhs; whnf) ?_)
            refine ev_q rfl (q_int rfl rfl ?_)
            intro b27 hb27; cases b27
            · replace hb27 := neF hb27
              refine ev_nil (hK26 _ ?_); clear hK26
              refine good_condF rfl ?_
              refine good_skip (hK25 _ ?_); clear hK25
              refine good_seq fun K28 hK28 => ?_
              refine good_region rfl ?_
              refine ev_q rfl (q_move (by conv => lhs; whnf) ?_)
              refine ev_q rfl (q_int rfl rfl ?_)
              intro n29 hn29
              replace hn29 := in64 hn29 (by omega) (by omega)
              refine ev_q rfl (q_assign (by conv => lhs; whnf) ?_)
              refine ev_nil (hK28 _ ?_); clear hK28
              refine good_seq fun K30 hK30 => ?_
              refine good_seq fun K31 hK31 => ?_
              refine good_region rfl ?_
              refine ev_q rfl (q_move (by conv => lhs; whnf) ?_)
              refine ev_q rfl (q_move (by conv => lhs; whnf) ?_)
              refine ev_q rfl (q_idx tE29 rfl rfl (by exact Int.natCast_nonneg _) (by exact mkP_at (by omega)) rfl ?_)
              refine ev_q rfl (q_fieldAddr fO88_4 rfl rfl ?_)
              refine ev_q rfl (q_load tA2 rfl ?_)
              refine ev_q rfl (q_move (by conv => lhs; whnf) ?_)
              refine ev_q rfl (q_int rfl rfl ?_)
              intro b32 hb32; cases b32
              · replace hb32 := neF hb32
                refine ev_nil (hK31 _ ?_); clear hK31
                refine good_condF rfl ?_
                refine good_skip (hK30 _ ?_); clear hK30
                refine good_seq fun K33 hK33 => ?_
                refine good_region rfl ?_
                refine ev_q rfl (q_move (by conv => lhs; whnf) ?_)
                refine ev_q rfl (q_int rfl rfl ?_)
                intro n34 hn34
                replace hn34 := in64 hn34 (by omega) (by omega)
                refine ev_q rfl (q_assign (by conv => lhs; whnf) ?_)
                refine ev_nil (hK33 _ ?_); clear hK33
                refine good_seq fun K35 hK35 => ?_
                refine good_seq fun K36 hK36 => ?_
                refine good_region rfl ?_
                refine ev_q rfl (q_move (by conv => lhs; whnf) ?_)
                refine ev_q rfl (q_move (by conv => lhs; whnf) ?_)
                refine ev_q rfl (q_idx tE29 rfl rfl (by exact Int.natCast_nonneg _) (by exact mkP_at (by omega)) rfl ?_)
                refine ev_q rfl (q_fieldAddr fO88_5 rfl rfl ?_)
                refine ev_q rfl (q_load tA2 rfl ?_)
                refine ev_q rfl (q_move (by conv => lhs; whnf) ?_)
                refine ev_q rfl (q_int rfl rfl ?_)
                intro b37 hb37; cases b37
                · replace hb37 := neF hb37
                  refine ev_nil (hK36 _ ?_); clear hK36
                  refine good_condF rfl ?_
                  refine good_skip (hK35 _ ?_); clear hK35
                  refine good_region rfl ?_
                  refine ev_q rfl (q_move (by conv => lhs; whnf) ?_)
                  refine ev_q rfl (q_int rfl rfl ?_)
                  intro n38 hn38
                  replace hn38 := in64 hn38 (by omega) (by omega)
                  refine ev_q rfl (q_assign (by conv => lhs; whnf) ?_)
                  refine ev_nil (hK9 _ ?_); clear hK9
                  refine good_region rfl ?_
                  refine ev_q rfl (q_move (by conv => lhs; whnf) ?_)
                  refine ev_q rfl (q_int rfl rfl ?_)
                  intro n39 hn39
                  replace hn39 := in64 hn39 (by omega) (by omega)
                  refine ev_q rfl (q_assign (by conv => lhs; whnf) ?_)
                  refine ev_nil ?_
                  clear hK2
                  refine ⟨i + 1, ?_, ?_, ?_⟩
                  · show _ ≤ _; omega
                  · first | omega | (simp only []; omega) | (dsimp only; omega)
                  · refine sub_weak ?_ ?_
                    · exact weakH_none _
                    · refine weakE_upd ?e5 ?r5 (weakE_upd ?e1 ?r1 (weakE_upd ?e0 ?r0 (weakE_junk _ _)))
                      case e0 => first | rfl | exact fI (by omega) | (simp_all)
                      case r0 => intro h hh; cases hh
                      case e1 => first | rfl | exact fI (by omega) | (simp_all)
                      case r1 => intro h hh; cases hh
                      case e5 => first | rfl | exact fI (by omega) | (simp_all)
                      case r5 => intro h hh; cases hh
                · replace hb37 := neT hb37
                  refine ev_nil (hK36 _ ?_); clear hK36
                  refine good_condT rfl ?_
                  refine good_seq fun K40 hK40 => ?_
                  refine good_region rfl ?_
                  refine ev_q rfl (q_assign (by conv => lhs; whnf) ?_)
                  refine ev_nil (hK40 _ ?_); clear hK40
                  refine good_ret ?_
                  repeat (first | refine thenQ_ret ?_ | refine blockQ_ret ?_)
                  refine ret_tmp (st := _) rfl (by conv => lhs; whnf) rfl ?_
                  clear hK2 hK9 hK35
                  first | exact fI (by omega) | (exfalso; first | omega | contradiction)
              · replace hb32 := neT hb32
                refine ev_nil (hK31 _ ?_); clear hK31
                refine good_condT rfl ?_
                refine good_seq fun K41 hK41 => ?_
                refine good_region rfl ?_
                refine ev_q rfl (q_assign (by conv => lhs; whnf) ?_)
                refine ev_nil (hK41 _ ?_); clear hK41
                refine good_ret ?_
                repeat (first | refine thenQ_ret ?_ | refine blockQ_ret ?_)
                refine ret_tmp (st := _) rfl (by conv => lhs; whnf) rfl ?_
                clear hK2 hK9 hK30
                first | exact fI (by omega) | (exfalso; first | omega | contradiction)
            · replace hb27 := neT hb27
              refine ev_nil (hK26 _ ?_); clear hK26
              refine good_condT rfl ?_
              refine good_seq fun K42 hK42 => ?_
              refine good_region rfl ?_
              refine ev_q rfl (q_assign (by conv => lhs; whnf) ?_)
              refine ev_nil (hK42 _ ?_); clear hK42
              refine good_ret ?_
              repeat (first | refine thenQ_ret ?_ | refine blockQ_ret ?_)
              refine ret_tmp (st := _) rfl (by conv => lhs; whnf) rfl ?_
              clear hK2 hK9 hK25
              first | exact fI (by omega) | (exfalso; first | omega | contradiction)
          · replace hb22 := neT hb22
            refine ev_nil (hK21 _ ?_); clear hK21
            refine good_condT rfl ?_
            refine good_seq fun K43 hK43 => ?_
            refine good_region rfl ?_
            refine ev_q rfl (q_assign (by conv => lhs; whnf) ?_)
            refine ev_nil (hK43 _ ?_); clear hK43
            refine good_ret ?_
            repeat (first | refine thenQ_ret ?_ | refine blockQ_ret ?_)
            refine ret_tmp (st := _) rfl (by conv => lhs; whnf) rfl ?_
            clear hK2 hK9 hK20
            first | exact fI (by omega) | (exfalso; first | omega | contradiction)
        · replace hb17 := neT hb17
          refine ev_nil (hK16 _ ?_); clear hK16
          refine good_condT rfl ?_
          refine good_seq fun K44 hK44 => ?_
          refine good_region rfl ?_
          refine ev_q rfl (q_assign (by conv => lhs; whnf) ?_)
          refine ev_nil (hK44 _ ?_); clear hK44
          refine good_ret ?_
          repeat (first | refine thenQ_ret ?_ | refine blockQ_ret ?_)
          refine ret_tmp (st := _) rfl (by conv => lhs; whnf) rfl ?_
          clear hK2 hK9 hK15
          first | exact fI (by omega) | (exfalso; first | omega | contradiction)
      · replace hb12 := snT hb12
        refine qo_nil ?_
        refine ev_nil (hK11 _ ?_); clear hK11
        refine good_condT rfl ?_
        refine good_seq fun K45 hK45 => ?_
        refine good_region rfl ?_
        refine ev_q rfl (q_assign (by conv => lhs; whnf) ?_)
        refine ev_nil (hK45 _ ?_); clear hK45
        refine good_ret ?_
        repeat (first | refine thenQ_ret ?_ | refine blockQ_ret ?_)
        refine ret_tmp (st := _) rfl (by conv => lhs; whnf) rfl ?_
        clear hK2 hK9 hK10
        first | exact fI (by omega) | (exfalso; first | omega | contradiction)

-- laws.heldNetwork
set_option maxRecDepth 20000 in
set_option maxHeartbeats 2000000 in
theorem D_laws_heldNetwork (ns : List Int) (ps : List Pi) (k : Int) (hn : ns.length ≤ 17592186044416) (hp : ps.length ≤ 2513169434843) (hk : 0 ≤ k ∧ k ≤ 1000000) : Den Try.prog 28 [.agg [.lst 1 (mkC k ns ns.length), .lst 6 (mkP (k + ns.length) ps ps.length)], .s (.int .i64 k)] (.s (.int .i64 (k + ns.length + 6 * ps.length))) := by
  refine den_of_good Try.func28 (by decide) rfl (Nat.le_of_ble_eq_true rfl) (Nat.le_of_ble_eq_true rfl) ?_
  refine good_seq fun K1 hK1 => ?_
  refine good_region rfl ?_
  refine ev_k rfl (k_box (by conv => lhs; whnf) rfl rfl rfl ?_)
  refine ev_q rfl (q_assign (by conv => lhs; whnf) ?_)
  refine ev_nil (hK1 _ ?_); clear hK1
  refine good_seq fun K2 hK2 => ?_
  refine good_region rfl ?_
  refine ev_q rfl (q_fieldAddrP fO31_0 rfl rfl ?_)
  refine ev_q rfl (q_load tA22 rfl ?_)
  refine ev_q rfl (q_move (by conv => lhs; whnf) ?_)
  refine ev_q rfl (q_callI rfl rfl (rfl) (D_laws_heldInt64S ns k hn (by omega)) ?_)
  intro n3 hn3
  refine ev_q rfl (q_assign (by conv => lhs; whnf) ?_)
  refine ev_nil (hK2 _ ?_); clear hK2
  refine good_seq fun K4 hK4 => ?_
  refine good_seq fun K5 hK5 => ?_
  refine good_region rfl ?_
  refine ev_q rfl (q_move (by conv => lhs; whnf) ?_)
  refine ev_q rfl (q_int rfl rfl ?_)
  intro b6 hb6; cases b6
  · replace hb6 := dF hb6
    refine ev_nil (hK5 _ ?_); clear hK5
    refine good_condF rfl ?_
    refine good_skip (hK4 _ ?_); clear hK4
    refine good_seq fun K7 hK7 => ?_
    refine good_region rfl ?_
    refine ev_q rfl (q_fieldAddrP fO31_1 rfl rfl ?_)
    refine ev_q rfl (q_load tA29 rfl ?_)
    refine ev_q rfl (q_move (by conv => lhs; whnf) ?_)
    refine ev_q rfl (q_callI rfl rfl (by change ([.lst 6 (mkP (k + ns.length) ps ps.length), .s (.int .i64 (n3))] : List AV) = _; rw [hn3]) (D_laws_heldPipeS ps (k + ns.length) hp (by omega)) ?_)
    intro n8 hn8
    refine ev_q rfl (q_assign (by conv => lhs; whnf) ?_)
    refine ev_nil (hK7 _ ?_); clear hK7
    refine good_seq fun K9 hK9 => ?_
    refine good_seq fun K10 hK10 => ?_
    refine good_region rfl ?_
    refine ev_q rfl (q_move (by conv => lhs; whnf) ?_)
    refine ev_q rfl (q_int rfl rfl ?_)
    intro b11 hb11; cases b11
    · replace hb11 := dF hb11
      refine ev_nil (hK10 _ ?_); clear hK10
      refine good_condF rfl ?_
      refine good_skip (hK9 _ ?_); clear hK9
      refine good_seq fun K12 hK12 => ?_
      refine good_region rfl ?_
      refine ev_q rfl (q_move (by conv => lhs; whnf) ?_)
      refine ev_q rfl (q_assign (by conv => lhs; whnf) ?_)
      refine ev_nil (hK12 _ ?_); clear hK12
      refine good_ret ?_
      repeat (first | refine thenQ_ret ?_ | refine blockQ_ret ?_)
      refine ret_tmp (st := _) rfl (by conv => lhs; whnf) rfl ?_
      first | rfl | exact fI (by first | omega | grind) | (exfalso; first | omega | grind)
    · replace hb11 := dT hb11
      refine ev_nil (hK10 _ ?_); clear hK10
      refine good_condT rfl ?_
      refine good_seq fun K13 hK13 => ?_
      refine good_region rfl ?_
      refine ev_q rfl (q_assign (by conv => lhs; whnf) ?_)
      refine ev_nil (hK13 _ ?_); clear hK13
      refine good_ret ?_
      repeat (first | refine thenQ_ret ?_ | refine blockQ_ret ?_)
      refine ret_tmp (st := _) rfl (by conv => lhs; whnf) rfl ?_
      clear hK9
      first | rfl | exact fI (by first | omega | grind) | (exfalso; first | omega | grind)
  · replace hb6 := dT hb6
    refine ev_nil (hK5 _ ?_); clear hK5
    refine good_condT rfl ?_
    refine good_seq fun K14 hK14 => ?_
    refine good_region rfl ?_
    refine ev_q rfl (q_assign (by conv => lhs; whnf) ?_)
    refine ev_nil (hK14 _ ?_); clear hK14
    refine good_ret ?_
    repeat (first | refine thenQ_ret ?_ | refine blockQ_ret ?_)
    refine ret_tmp (st := _) rfl (by conv => lhs; whnf) rfl ?_
    clear hK4
    first | rfl | exact fI (by first | omega | grind) | (exfalso; first | omega | grind)

-- laws.FnExactRenewPipes
set_option maxRecDepth 20000 in
set_option maxHeartbeats 2000000 in
theorem D_laws_FnExactRenewPipes (ns : List Int) (ps : List Pi) (xs : List Int) (lo : Int) (hn : ns.length ≤ 17592186044416) (hp : ps.length ≤ 2513169434843) (hz : idSz ps) (hx : xs.length ≤ 17592186044416) : Den Try.prog 6 [.agg [.lst 1 (ns.map ci), .lst 6 (ps.map piA)], .lst 1 (xs.map ci), .s (.int .i64 lo)] (.s (.bool true)) := by
  refine den_of_good Try.func6 (by decide) rfl (Nat.le_of_ble_eq_true rfl) (Nat.le_of_ble_eq_true rfl) ?_
  refine good_seq fun K1 hK1 => ?_
  refine good_region rfl ?_
  refine ev_k rfl (k_box (by conv => lhs; whnf) rfl rfl rfl ?_)
  refine ev_q rfl (q_assign (by conv => lhs; whnf) ?_)
  refine ev_nil (hK1 _ ?_); clear hK1
  refine good_seq fun K2 hK2 => ?_
  refine good_seq fun K3 hK3 => ?_
  refine good_region rfl ?_
  refine ev_q rfl (q_move (by conv => lhs; whnf) ?_)
  refine ev_q rfl (q_len tEs22 rfl ?_)
  intro n4 hn4
  try simp only [List.length_map] at hn4
  refine ev_q rfl (q_int rfl rfl ?_)
  intro b5 hb5; cases b5
  · replace hb5 := dF hb5
    refine ev_nil (hK3 _ ?_); clear hK3
    refine good_condF rfl ?_
    refine good_skip (hK2 _ ?_); clear hK2
    refine good_seq fun K6 hK6 => ?_
    refine good_region rfl ?_
    refine ev_q rfl (q_assign (by conv => lhs; whnf) ?_)
    refine ev_nil (hK6 _ ?_); clear hK6
    refine good_seq fun K7 hK7 => ?_
    refine good_region rfl ?_
    refine ev_q rfl (q_loadA tA25 rfl rfl rfl ?_)
    refine ev_q rfl (q_move (by conv => lhs; whnf) ?_)
    refine ev_q rfl (q_callI rfl rfl (rfl) (D_laws_szNetwork ns ps _ hn hp hz (by omega)) ?_)
    intro n8 hn8
    refine ev_q rfl (q_assign (by conv => lhs; whnf) ?_)
    refine ev_nil (hK7 _ ?_); clear hK7
    refine good_seq fun K9 hK9 => ?_
    refine good_seq fun K10 hK10 => ?_
    refine good_region rfl ?_
    refine ev_q rfl (q_move (by conv => lhs; whnf) ?_)
    refine ev_q rfl (q_int rfl rfl ?_)
    intro b11 hb11; cases b11
    · replace hb11 := dF hb11
      refine ev_nil (hK10 _ ?_); clear hK10
      refine good_condF rfl ?_
      refine good_skip (hK9 _ ?_); clear hK9
      refine good_seq fun K12 hK12 => ?_
      refine good_region rfl ?_
      refine ev_q rfl (q_loadA tA25 rfl rfl rfl ?_)
      refine ev_q rfl (q_call rfl rfl (rfl) (D_laws_toNetwork ns ps hn hp) rfl ?_)
      refine ev_q rfl (q_move (by conv => lhs; whnf) ?_)
      refine ev_q rfl (q_call rfl rfl (rfl) (D_laws_toInt64S xs hx) rfl ?_)
      refine ev_q rfl (q_move (by conv => lhs; whnf) ?_)
      refine ev_q rfl (q_call rfl rfl (rfl) (D_spec_RenewPipes ns ps xs lo hn hp hz hx) rfl ?_)
      refine ev_q rfl (q_move (by conv => lhs; whnf) ?_)
      refine ev_q rfl (q_extract rfl rfl ?_)
      refine ev_q rfl (q_extractI rfl rfl ?_)
      intro n13 hn13
      refine ev_k rfl (k_alloc zA31 rfl ?_)
      refine ev_k rfl (k_store sz31 rfl (by conv => lhs; whnf) rfl rfl rfl (Nat.le_of_ble_eq_true rfl) rfl ?_)
      refine ev_q rfl (q_assign (by conv => lhs; whnf) ?_)
      refine ev_nil (hK12 _ ?_); clear hK12
      refine good_seq fun K14 hK14 => ?_
      refine good_region rfl ?_
      refine ev_q rfl (q_loadA tA25 rfl rfl rfl ?_)
      refine ev_k rfl (k_callX [(900001, 900000), (900002, 900001)] (D_laws_toNetwork_X ns ps hn hp) rfl (rfl) (rfl) trivial ⟨⟨rfl, show (900000 : Nat) < 1000000 by decide⟩, ⟨⟨rfl, show (900001 : Nat) < 1000000 by decide⟩, trivial⟩⟩ rfl rfl rfl ?_)
      refine ev_k rfl (k_alloc zA31 rfl ?_)
      refine ev_k rfl (k_store sz31 rfl (by conv => lhs; whnf) rfl rfl rfl (Nat.le_of_ble_eq_true rfl) rfl ?_)
      refine ev_nil (hK14 _ ?_); clear hK14
      refine good_seq fun K15 hK15 => ?_
      refine good_region rfl ?_
      refine ev_q rfl (q_move (by conv => lhs; whnf) ?_)
      refine ev_k rfl (k_callX [(7, 900002)] (D_laws_toInt64S_X xs hx) rfl (rfl) (rfl) trivial ⟨⟨rfl, show (900002 : Nat) < 1000000 by decide⟩, trivial⟩ rfl rfl rfl ?_)
      refine ev_q rfl (q_assign (by conv => lhs; whnf) ?_)
      refine ev_nil (hK15 _ ?_); clear hK15
      refine good_seq fun K16 hK16 => ?_
      refine good_region rfl ?_
      refine ev_q rfl (q_loadA tA31 rfl rfl rfl ?_)
      refine ev_q rfl (q_move (by conv => lhs; whnf) ?_)
      refine ev_q rfl (q_move (by conv => lhs; whnf) ?_)
      refine ev_k rfl (k_callXc [(900001, 900003), (900002, 900004)] (D_impl_RenewPipes_X ns ps xs lo hn hp hz hx) rfl (by change some ([.agg [.lst 1 (List.take (ns).length ((ns).map ci)), .lst 6 (List.take (ps).length ((ps).map piA))], .lst 1 (List.take (xs).length ((xs).map ci)), .s (.int .i64 lo)] : List AV) = some _; (simp only [takeMap]) <;> rfl) (⟨rfl, ⟨pure_ci, ⟨mkP_pure, trivial⟩⟩⟩) trivial ⟨⟨rfl, show (900003 : Nat) < 1000000 by decide⟩, ⟨⟨rfl, show (900004 : Nat) < 1000000 by decide⟩, trivial⟩⟩ rfl rfl rfl ?_)
      refine ev_q rfl (q_move (by conv => lhs; whnf) ?_)
      refine ev_q rfl (q_extract rfl rfl ?_)
      refine ev_q rfl (q_extractI rfl rfl ?_)
      intro n17 hn17
      refine ev_k rfl (k_alloc zA31 rfl ?_)
      refine ev_k rfl (k_store sz31 rfl (by conv => lhs; whnf) rfl rfl rfl (Nat.le_of_ble_eq_true rfl) rfl ?_)
      refine ev_q rfl (q_assign (by conv => lhs; whnf) ?_)
      refine ev_nil (hK16 _ ?_); clear hK16
      refine good_seq fun K18 hK18 => ?_
      refine good_seq fun K19 hK19 => ?_
      refine good_region rfl ?_
      refine ev_q rfl (q_loadA tA31 rfl rfl rfl ?_)
      refine ev_q rfl (q_loadA tA31 rfl rfl rfl ?_)
      refine ev_q rfl (q_callB rfl rfl (by change ([.agg [.lst 1 (List.take ((rnN ns ps xs lo)).length (((rnN ns ps xs lo)).map ci)), .lst 6 (List.take ((rnP ns ps xs lo)).length (((rnP ns ps xs lo)).map piA))], .agg [.lst 1 (((rnN ns ps xs lo)).map ci), .lst 6 (((rnP ns ps xs lo)).map piA)]] : List AV) = _; simp only [takeMap]) (D_laws_eqNetwork (rnN ns ps xs lo) (rnP ns ps xs lo) (by have := rnN_len (ns := ns) (ps := ps) (ks := xs) (lo := lo); omega) (by have := rnP_len (ns := ns) (ps := ps) (ks := xs) (lo := lo); omega)) ?_)
      intro b20 hb20; cases b20
      · first | replace hb20 := dF hb20 | skip
        refine ev_q rfl (q_not rfl rfl ?_)
        refine ev_q rfl (q_move (by conv => lhs; whnf) ?_)
        refine ev_skip rfl ?_
        refine ev_skip rfl ?_
        refine ev_skip rfl ?_
        refine ev_q rfl (q_pickT rfl (by conv => lhs; whnf) ?_)
        refine ev_nil (hK19 _ ?_); clear hK19
        refine good_condT rfl ?_
        refine good_seq fun K21 hK21 => ?_
        refine good_region rfl ?_
        refine ev_q rfl (q_assign (by conv => lhs; whnf) ?_)
        refine ev_nil (hK21 _ ?_); clear hK21
        refine good_ret ?_
        repeat (first | refine thenQ_ret ?_ | refine blockQ_ret ?_)
        refine ret_tmp (st := _) rfl (by conv => lhs; whnf) rfl ?_
        clear hK18
        first | rfl | (exfalso; first | omega | contradiction | grind)
      · first | replace hb20 := dT hb20 | skip
        refine ev_q rfl (q_not rfl rfl ?_)
        refine ev_q rfl (q_move (by conv => lhs; whnf) ?_)
        refine ev_q rfl (q_move (by conv => lhs; whnf) ?_)
        refine ev_q rfl (q_move (by conv => lhs; whnf) ?_)
        refine ev_q rfl (q_int rfl rfl ?_)
        intro b22 hb22; cases b22
        · replace hb22 := neF hb22
          refine ev_q rfl (q_pickF rfl (by conv => lhs; whnf) ?_)
          refine ev_nil (hK19 _ ?_); clear hK19
          refine good_condF rfl ?_
          refine good_skip (hK18 _ ?_); clear hK18
          refine good_seq fun K23 hK23 => ?_
          refine good_seq fun K24 hK24 => ?_
          refine good_draw 5 hmix (by kernel_rfl) rfl ?_
          refine qo_q rfl (q_loadA tA31 rfl rfl rfl ?_)
          refine qo_q rfl (q_loadA tA25 rfl rfl rfl ?_)
          refine qo_q rfl (q_call rfl rfl (rfl) (D_laws_toNetwork ns ps hn hp) rfl ?_)
          refine qo_q rfl (q_callB rfl rfl (by change ([.agg [.lst 1 (List.take (ns).length ((ns).map ci)), .lst 6 (List.take (ps).length ((ps).map piA))], .agg [.lst 1 ((ns).map ci), .lst 6 ((ps).map piA)]] : List AV) = _; simp only [takeMap]) (D_laws_eqNetwork ns ps hn hp) ?_)
          intro b25 hb25; cases b25
          · first | replace hb25 := dF hb25 | skip
            refine qo_q rfl (q_not rfl rfl ?_)
            refine qo_nil ?_
            refine ev_nil (hK24 _ ?_); clear hK24
            refine good_condT rfl ?_
            refine good_seq fun K26 hK26 => ?_
            refine good_region rfl ?_
            refine ev_q rfl (q_assign (by conv => lhs; whnf) ?_)
            refine ev_nil (hK26 _ ?_); clear hK26
            refine good_ret ?_
            repeat (first | refine thenQ_ret ?_ | refine blockQ_ret ?_)
            refine ret_tmp (st := _) rfl (by conv => lhs; whnf) rfl ?_
            clear hK23
            first | rfl | (exfalso; first | omega | contradiction | grind)
          · first | replace hb25 := dT hb25 | skip
            refine qo_q rfl (q_not rfl rfl ?_)
            refine qo_nil ?_
            refine ev_nil (hK24 _ ?_); clear hK24
            refine good_condF rfl ?_
            refine good_skip (hK23 _ ?_); clear hK23
            refine good_seq fun K27 hK27 => ?_
            refine good_seq fun K28 hK28 => ?_
            refine good_region rfl ?_
            refine ev_q rfl (q_move (by conv => lhs; whnf) ?_)
            refine ev_q rfl (q_move (by conv => lhs; whnf) ?_)
            refine ev_q rfl (q_call rfl rfl (rfl) (D_laws_toInt64S xs hx) rfl ?_)
            refine ev_q rfl (q_callB rfl rfl (by change ([.lst 1 (List.take (xs).length ((xs).map ci)), .lst 1 ((xs).map ci)] : List AV) = _; simp only [takeMap]) (D_laws_eqInt64S xs hx) ?_)
            intro b29 hb29; cases b29
            · first | replace hb29 := dF hb29 | skip
              refine ev_q rfl (q_not rfl rfl ?_)
              refine ev_nil (hK28 _ ?_); clear hK28
              refine good_condT rfl ?_
              refine good_seq fun K30 hK30 => ?_
              refine good_region rfl ?_
              refine ev_q rfl (q_assign (by conv => lhs; whnf) ?_)
              refine ev_nil (hK30 _ ?_); clear hK30
              refine good_ret ?_
              repeat (first | refine thenQ_ret ?_ | refine blockQ_ret ?_)
              refine ret_tmp (st := _) rfl (by conv => lhs; whnf) rfl ?_
              clear hK27
              first | rfl | (exfalso; first | omega | contradiction | grind)
            · first | replace hb29 := dT hb29 | skip
              refine ev_q rfl (q_not rfl rfl ?_)
              refine ev_nil (hK28 _ ?_); clear hK28
              refine good_condF rfl ?_
              refine good_skip (hK27 _ ?_); clear hK27
              refine good_seq fun K31 hK31 => ?_
              refine good_region rfl ?_
              refine ev_q rfl (q_assign (by conv => lhs; whnf) ?_)
              refine ev_nil (hK31 _ ?_); clear hK31
              refine good_seq fun K32 hK32 => ?_
              refine good_region rfl ?_
              refine ev_q rfl (q_loadA tA31 rfl rfl rfl ?_)
              refine ev_q rfl (q_move (by conv => lhs; whnf) ?_)
              refine ev_k rfl (k_callXI [(1000000, 900000), (1000001, 900001)] (D_laws_markNetwork ns ps _ hn hp (by omega)) rfl (rfl) (rfl) ⟨rfl, ⟨rfl, trivial⟩⟩ ⟨rfl, ⟨rfl, rfl, by first | (rw [mkC_len (Nat.le_refl _)]; simp; done) | (rw [mkP_len (Nat.le_refl _)]; simp; done)⟩, ⟨rfl, ⟨rfl, rfl, by first | (rw [mkC_len (Nat.le_refl _)]; simp; done) | (rw [mkP_len (Nat.le_refl _)]; simp; done)⟩, trivial⟩⟩ rfl rfl rfl ?_)
              intro n33 hn33
              refine ev_q rfl (q_assign (by conv => lhs; whnf) ?_)
              refine ev_nil (hK32 _ ?_); clear hK32
              refine good_seq fun K34 hK34 => ?_
              refine good_region rfl ?_
              refine ev_q rfl (q_move (by conv => lhs; whnf) ?_)
              refine ev_q rfl (q_move (by conv => lhs; whnf) ?_)
              refine ev_k rfl (k_callXI [(1000000, 900002)] (D_laws_markInt64S xs _ hx (by omega)) rfl (rfl) (rfl) ⟨rfl, trivial⟩ ⟨rfl, ⟨rfl, rfl, by rw [mkC_len (Nat.le_refl _)]; simp⟩, trivial⟩ rfl rfl rfl ?_)
              intro n35 hn35
              refine ev_q rfl (q_assign (by conv => lhs; whnf) ?_)
              refine ev_nil (hK34 _ ?_); clear hK34
              refine good_seq fun K36 hK36 => ?_
              refine good_seq fun K37 hK37 => ?_
              refine good_region rfl ?_
              refine ev_q rfl (q_move (by conv => lhs; whnf) ?_)
              refine ev_q rfl (q_int rfl rfl ?_)
              intro b38 hb38; cases b38
              · replace hb38 := dF hb38
                refine ev_q rfl (q_move (by conv => lhs; whnf) ?_)
                refine ev_q rfl (q_loadA tA31 rfl rfl rfl ?_)
                refine ev_q rfl (q_loadA tA31 rfl rfl rfl ?_)
                refine ev_q rfl (q_callB rfl rfl (by change ([.agg [.lst 1 (List.take ((rnN ns ps xs lo)).length (((rnN ns ps xs lo)).map ci)), .lst 6 (List.take ((rnP ns ps xs lo)).length (((rnP ns ps xs lo)).map piA))], .agg [.lst 1 (((rnN ns ps xs lo)).map ci), .lst 6 (((rnP ns ps xs lo)).map piA)]] : List AV) = _; simp only [takeMap]) (D_laws_eqNetwork (rnN ns ps xs lo) (rnP ns ps xs lo) (by have := rnN_len (ns := ns) (ps := ps) (ks := xs) (lo := lo); omega) (by have := rnP_len (ns := ns) (ps := ps) (ks := xs) (lo := lo); omega)) ?_)
                intro b39 hb39; cases b39
                · first | replace hb39 := dF hb39 | skip
                  refine ev_q rfl (q_not rfl rfl ?_)
                  refine ev_q rfl (q_pickF rfl (by conv => lhs; whnf) ?_)
                  refine ev_q rfl (q_move (by conv => lhs; whnf) ?_)
                  refine ev_skip rfl ?_
                  refine ev_skip rfl ?_
                  refine ev_skip rfl ?_
                  refine ev_q rfl (q_pickT rfl (by conv => lhs; whnf) ?_)
                  refine ev_nil (hK37 _ ?_); clear hK37
                  refine good_condT rfl ?_
                  refine good_seq fun K40 hK40 => ?_
                  refine good_region rfl ?_
                  refine ev_q rfl (q_assign (by conv => lhs; whnf) ?_)
                  refine ev_nil (hK40 _ ?_); clear hK40
                  refine good_ret ?_
                  repeat (first | refine thenQ_ret ?_ | refine blockQ_ret ?_)
                  refine ret_tmp (st := _) rfl (by conv => lhs; whnf) rfl ?_
                  clear hK36
                  first | rfl | (exfalso; first | omega | contradiction | grind)
                · first | replace hb39 := dT hb39 | skip
                  refine ev_q rfl (q_not rfl rfl ?_)
                  refine ev_q rfl (q_pickF rfl (by conv => lhs; whnf) ?_)
                  refine ev_q rfl (q_move (by conv => lhs; whnf) ?_)
                  refine ev_q rfl (q_move (by conv => lhs; whnf) ?_)
                  refine ev_q rfl (q_move (by conv => lhs; whnf) ?_)
                  refine ev_q rfl (q_int rfl rfl ?_)
                  intro b41 hb41; cases b41
                  · replace hb41 := neF hb41
                    refine ev_q rfl (q_pickF rfl (by conv => lhs; whnf) ?_)
                    refine ev_nil (hK37 _ ?_); clear hK37
                    refine good_condF rfl ?_
                    refine good_skip (hK36 _ ?_); clear hK36
                    refine good_seq fun K42 hK42 => ?_
                    refine good_region rfl ?_
                    refine ev_q rfl (q_assign (by conv => lhs; whnf) ?_)
                    refine ev_nil (hK42 _ ?_); clear hK42
                    refine good_seq fun K43 hK43 => ?_
                    refine good_region rfl ?_
                    refine ev_q rfl (q_loadA tA31 rfl rfl rfl ?_)
                    refine ev_q rfl (q_move (by conv => lhs; whnf) ?_)
                    refine ev_k rfl (k_callXI [(1000000, 900003), (1000001, 900004)] (D_laws_markNetwork (rnN ns ps xs lo) (rnP ns ps xs lo) _ (by have := rnN_len (ns := ns) (ps := ps) (ks := xs) (lo := lo); omega) (by have := rnP_len (ns := ns) (ps := ps) (ks := xs) (lo := lo); omega) (by omega)) rfl (rfl) (rfl) ⟨rfl, ⟨rfl, trivial⟩⟩ ⟨rfl, ⟨rfl, rfl, by first | (rw [mkC_len (Nat.le_refl _)]; simp; done) | (rw [mkP_len (Nat.le_refl _)]; simp; done)⟩, ⟨rfl, ⟨rfl, rfl, by first | (rw [mkC_len (Nat.le_refl _)]; simp; done) | (rw [mkP_len (Nat.le_refl _)]; simp; done)⟩, trivial⟩⟩ rfl rfl rfl ?_)
                    intro n44 hn44
                    refine ev_q rfl (q_assign (by conv => lhs; whnf) ?_)
                    refine ev_nil (hK43 _ ?_); clear hK43
                    refine good_seq fun K45 hK45 => ?_
                    refine good_region rfl ?_
                    refine ev_q rfl (q_assign (by conv => lhs; whnf) ?_)
                    refine ev_nil (hK45 _ ?_); clear hK45
                    refine good_seq fun K46 hK46 => ?_
                    refine good_region rfl ?_
                    refine ev_q rfl (q_loadA tA31 rfl rfl rfl ?_)
                    refine ev_q rfl (q_move (by conv => lhs; whnf) ?_)
                    refine ev_q rfl (q_callI rfl rfl (by change ([.agg [.lst 1 (List.take ((rnN ns ps xs lo)).length (mkC 1 ((rnN ns ps xs lo)) ((rnN ns ps xs lo)).length)), .lst 6 (List.take ((rnP ns ps xs lo)).length (mkP (1 + ((rnN ns ps xs lo)).length) ((rnP ns ps xs lo)) ((rnP ns ps xs lo)).length))], .s (.int .i64 1)] : List AV) = _; rw [mkC_take, mkP_take]) (D_laws_heldNetwork (rnN ns ps xs lo) (rnP ns ps xs lo) 1 (by have := rnN_len (ns := ns) (ps := ps) (ks := xs) (lo := lo); omega) (by have := rnP_len (ns := ns) (ps := ps) (ks := xs) (lo := lo); omega) (by omega)) ?_)
                    intro n47 hn47
                    refine ev_q rfl (q_assign (by conv => lhs; whnf) ?_)
                    refine ev_nil (hK46 _ ?_); clear hK46
                    refine good_seq fun K48 hK48 => ?_
                    refine good_seq fun K49 hK49 => ?_
                    refine good_region rfl ?_
                    refine ev_q rfl (q_move (by conv => lhs; whnf) ?_)
                    refine ev_q rfl (q_int rfl rfl ?_)
                    intro b50 hb50; cases b50
                    · replace hb50 := dF hb50
                      refine ev_nil (hK49 _ ?_); clear hK49
                      refine good_condF rfl ?_
                      refine good_skip (hK48 _ ?_); clear hK48
                      refine good_seq fun K51 hK51 => ?_
                      refine good_seq fun K52 hK52 => ?_
                      refine good_region rfl ?_
                      refine ev_q rfl (q_move (by conv => lhs; whnf) ?_)
                      refine ev_q rfl (q_move (by conv => lhs; whnf) ?_)
                      refine ev_q rfl (q_int rfl rfl ?_)
                      intro b53 hb53; cases b53
                      · replace hb53 := neF hb53
                        refine ev_nil (hK52 _ ?_); clear hK52
                        refine good_condF rfl ?_
                        refine good_skip (hK51 _ ?_); clear hK51
                        refine good_seq fun K54 hK54 => ?_
                        refine good_region rfl ?_
                        refine ev_q rfl (q_loadA tA25 rfl rfl rfl ?_)
                        refine ev_q rfl (q_call rfl rfl (rfl) (D_laws_toNetwork ns ps hn hp) rfl ?_)
                        refine ev_q rfl (q_move (by conv => lhs; whnf) ?_)
                        refine ev_q rfl (q_call rfl rfl (rfl) (D_laws_toInt64S xs hx) rfl ?_)
                        refine ev_q rfl (q_move (by conv => lhs; whnf) ?_)
                        refine ev_q rfl (q_call rfl rfl (rfl) (D_impl_RenewPipes ns ps xs lo hn hp hz hx) rfl ?_)
                        refine ev_q rfl (q_move (by conv => lhs; whnf) ?_)
                        refine ev_q rfl (q_extract rfl rfl ?_)
                        refine ev_q rfl (q_extractI rfl rfl ?_)
                        intro n55 hn55
                        refine ev_k rfl (k_alloc zA31 rfl ?_)
                        refine ev_k rfl (k_store sz31 rfl (by conv => lhs; whnf) rfl rfl rfl (Nat.le_of_ble_eq_true rfl) rfl ?_)
                        refine ev_q rfl (q_assign (by conv => lhs; whnf) ?_)
                        refine ev_nil (hK54 _ ?_); clear hK54
                        refine good_seq fun K56 hK56 => ?_
                        refine good_seq fun K57 hK57 => ?_
                        refine good_region rfl ?_
                        refine ev_q rfl (q_loadA tA31 rfl rfl rfl ?_)
                        refine ev_q rfl (q_loadA tA31 rfl rfl rfl ?_)
                        refine ev_q rfl (q_callB rfl rfl (rfl) (D_laws_eqNetwork (rnN ns ps xs lo) (rnP ns ps xs lo) (by have := rnN_len (ns := ns) (ps := ps) (ks := xs) (lo := lo); omega) (by have := rnP_len (ns := ns) (ps := ps) (ks := xs) (lo := lo); omega)) ?_)
                        intro b58 hb58; cases b58
                        · first | replace hb58 := dF hb58 | skip
                          refine ev_q rfl (q_not rfl rfl ?_)
                          refine ev_q rfl (q_move (by conv => lhs; whnf) ?_)
                          refine ev_skip rfl ?_
                          refine ev_skip rfl ?_
                          refine ev_skip rfl ?_
                          refine ev_q rfl (q_pickT rfl (by conv => lhs; whnf) ?_)
                          refine ev_nil (hK57 _ ?_); clear hK57
                          refine good_condT rfl ?_
                          refine good_seq fun K59 hK59 => ?_
                          refine good_region rfl ?_
                          refine ev_q rfl (q_assign (by conv => lhs; whnf) ?_)
                          refine ev_nil (hK59 _ ?_); clear hK59
                          refine good_ret ?_
                          repeat (first | refine thenQ_ret ?_ | refine blockQ_ret ?_)
                          refine ret_tmp (st := _) rfl (by conv => lhs; whnf) rfl ?_
                          clear hK56
                          first | rfl | (exfalso; first | omega | contradiction | grind)
                        · first | replace hb58 := dT hb58 | skip
                          refine ev_q rfl (q_not rfl rfl ?_)
                          refine ev_q rfl (q_move (by conv => lhs; whnf) ?_)
                          refine ev_q rfl (q_move (by conv => lhs; whnf) ?_)
                          refine ev_q rfl (q_move (by conv => lhs; whnf) ?_)
                          refine ev_q rfl (q_int rfl rfl ?_)
                          intro b60 hb60; cases b60
                          · replace hb60 := neF hb60
                            refine ev_q rfl (q_pickF rfl (by conv => lhs; whnf) ?_)
                            refine ev_nil (hK57 _ ?_); clear hK57
                            refine good_condF rfl ?_
                            refine good_skip (hK56 _ ?_); clear hK56
                            refine good_seq fun K61 hK61 => ?_
                            refine good_region rfl ?_
                            refine ev_q rfl (q_assign (by conv => lhs; whnf) ?_)
                            refine ev_nil (hK61 _ ?_); clear hK61
                            refine good_seq fun K62 hK62 => ?_
                            refine good_region rfl ?_
                            refine ev_q rfl (q_loadA tA31 rfl rfl rfl ?_)
                            refine ev_q rfl (q_move (by conv => lhs; whnf) ?_)
                            refine ev_q rfl (q_callI rfl rfl (by change ([.agg [.lst 1 (List.take ((rnN ns ps xs lo)).length (mkC 1 ((rnN ns ps xs lo)) ((rnN ns ps xs lo)).length)), .lst 6 (List.take ((rnP ns ps xs lo)).length (mkP (1 + ((rnN ns ps xs lo)).length) ((rnP ns ps xs lo)) ((rnP ns ps xs lo)).length))], .s (.int .i64 1)] : List AV) = _; rw [mkC_take, mkP_take]) (D_laws_heldNetwork (rnN ns ps xs lo) (rnP ns ps xs lo) 1 (by have := rnN_len (ns := ns) (ps := ps) (ks := xs) (lo := lo); omega) (by have := rnP_len (ns := ns) (ps := ps) (ks := xs) (lo := lo); omega) (by omega)) ?_)
                            intro n63 hn63
                            refine ev_q rfl (q_assign (by conv => lhs; whnf) ?_)
                            refine ev_nil (hK62 _ ?_); clear hK62
                            refine good_seq fun K64 hK64 => ?_
                            refine good_seq fun K65 hK65 => ?_
                            refine good_region rfl ?_
                            refine ev_q rfl (q_move (by conv => lhs; whnf) ?_)
                            refine ev_q rfl (q_int rfl rfl ?_)
                            intro b66 hb66; cases b66
                            · replace hb66 := dF hb66
                              refine ev_nil (hK65 _ ?_); clear hK65
                              refine good_condF rfl ?_
                              refine good_skip (hK64 _ ?_); clear hK64
                              refine good_seq fun K67 hK67 => ?_
                              refine good_seq fun K68 hK68 => ?_
                              refine good_region rfl ?_
                              refine ev_q rfl (q_move (by conv => lhs; whnf) ?_)
                              refine ev_q rfl (q_move (by conv => lhs; whnf) ?_)
                              refine ev_q rfl (q_int rfl rfl ?_)
                              intro b69 hb69; cases b69
                              · replace hb69 := neF hb69
                                refine ev_nil (hK68 _ ?_); clear hK68
                                refine good_condF rfl ?_
                                refine good_skip (hK67 _ ?_); clear hK67
                                refine good_seq fun K70 hK70 => ?_
                                refine good_region rfl ?_
                                refine ev_q rfl (q_assign (by conv => lhs; whnf) ?_)
                                refine ev_nil (hK70 _ ?_); clear hK70
                                refine good_ret ?_
                                repeat (first | refine thenQ_ret ?_ | refine blockQ_ret ?_)
                                refine ret_tmp (st := _) rfl (by conv => lhs; whnf) rfl ?_
                                first | rfl | (exfalso; first | omega | contradiction | grind)
                              · replace hb69 := neT hb69
                                refine ev_nil (hK68 _ ?_); clear hK68
                                refine good_condT rfl ?_
                                refine good_seq fun K71 hK71 => ?_
                                refine good_region rfl ?_
                                refine ev_q rfl (q_assign (by conv => lhs; whnf) ?_)
                                refine ev_nil (hK71 _ ?_); clear hK71
                                refine good_ret ?_
                                repeat (first | refine thenQ_ret ?_ | refine blockQ_ret ?_)
                                refine ret_tmp (st := _) rfl (by conv => lhs; whnf) rfl ?_
                                clear hK67
                                first | rfl | (exfalso; first | omega | contradiction | grind)
                            · replace hb66 := dT hb66
                              refine ev_nil (hK65 _ ?_); clear hK65
                              refine good_condT rfl ?_
                              refine good_seq fun K72 hK72 => ?_
                              refine good_region rfl ?_
                              refine ev_q rfl (q_assign (by conv => lhs; whnf) ?_)
                              refine ev_nil (hK72 _ ?_); clear hK72
                              refine good_ret ?_
                              repeat (first | refine thenQ_ret ?_ | refine blockQ_ret ?_)
                              refine ret_tmp (st := _) rfl (by conv => lhs; whnf) rfl ?_
                              clear hK64
                              first | rfl | (exfalso; first | omega | contradiction | grind)
                          · replace hb60 := neT hb60
                            refine ev_q rfl (q_pickF rfl (by conv => lhs; whnf) ?_)
                            refine ev_nil (hK57 _ ?_); clear hK57
                            refine good_condT rfl ?_
                            refine good_seq fun K73 hK73 => ?_
                            refine good_region rfl ?_
                            refine ev_q rfl (q_assign (by conv => lhs; whnf) ?_)
                            refine ev_nil (hK73 _ ?_); clear hK73
                            refine good_ret ?_
                            repeat (first | refine thenQ_ret ?_ | refine blockQ_ret ?_)
                            refine ret_tmp (st := _) rfl (by conv => lhs; whnf) rfl ?_
                            clear hK56
                            first | rfl | (exfalso; first | omega | contradiction | grind)
                      · replace hb53 := neT hb53
                        refine ev_nil (hK52 _ ?_); clear hK52
                        refine good_condT rfl ?_
                        refine good_seq fun K74 hK74 => ?_
                        refine good_region rfl ?_
                        refine ev_q rfl (q_assign (by conv => lhs; whnf) ?_)
                        refine ev_nil (hK74 _ ?_); clear hK74
                        refine good_ret ?_
                        repeat (first | refine thenQ_ret ?_ | refine blockQ_ret ?_)
                        refine ret_tmp (st := _) rfl (by conv => lhs; whnf) rfl ?_
                        clear hK51
                        first | rfl | (exfalso; first | omega | contradiction | grind)
                    · replace hb50 := dT hb50
                      refine ev_nil (hK49 _ ?_); clear hK49
                      refine good_condT rfl ?_
                      refine good_seq fun K75 hK75 => ?_
                      refine good_region rfl ?_
                      refine ev_q rfl (q_assign (by conv => lhs; whnf) ?_)
                      refine ev_nil (hK75 _ ?_); clear hK75
                      refine good_ret ?_
                      repeat (first | refine thenQ_ret ?_ | refine blockQ_ret ?_)
                      refine ret_tmp (st := _) rfl (by conv => lhs; whnf) rfl ?_
                      clear hK48
                      first | rfl | (exfalso; first | omega | contradiction | grind)
                  · replace hb41 := neT hb41
                    refine ev_q rfl (q_pickF rfl (by conv => lhs; whnf) ?_)
                    refine ev_nil (hK37 _ ?_); clear hK37
                    refine good_condT rfl ?_
                    refine good_seq fun K76 hK76 => ?_
                    refine good_region rfl ?_
                    refine ev_q rfl (q_assign (by conv => lhs; whnf) ?_)
                    refine ev_nil (hK76 _ ?_); clear hK76
                    refine good_ret ?_
                    repeat (first | refine thenQ_ret ?_ | refine blockQ_ret ?_)
                    refine ret_tmp (st := _) rfl (by conv => lhs; whnf) rfl ?_
                    clear hK36
                    first | rfl | (exfalso; first | omega | contradiction | grind)
              · replace hb38 := dT hb38
                refine ev_q rfl (q_move (by conv => lhs; whnf) ?_)
                refine ev_skip rfl ?_
                refine ev_skip rfl ?_
                refine ev_skip rfl ?_
                refine ev_skip rfl ?_
                refine ev_q rfl (q_pickT rfl (by conv => lhs; whnf) ?_)
                refine ev_q rfl (q_move (by conv => lhs; whnf) ?_)
                refine ev_skip rfl ?_
                refine ev_skip rfl ?_
                refine ev_skip rfl ?_
                refine ev_q rfl (q_pickT rfl (by conv => lhs; whnf) ?_)
                refine ev_nil (hK37 _ ?_); clear hK37
                refine good_condT rfl ?_
                refine good_seq fun K77 hK77 => ?_
                refine good_region rfl ?_
                refine ev_q rfl (q_assign (by conv => lhs; whnf) ?_)
                refine ev_nil (hK77 _ ?_); clear hK77
                refine good_ret ?_
                repeat (first | refine thenQ_ret ?_ | refine blockQ_ret ?_)
                refine ret_tmp (st := _) rfl (by conv => lhs; whnf) rfl ?_
                clear hK36
                first | rfl | (exfalso; first | omega | contradiction | grind)
        · replace hb22 := neT hb22
          refine ev_q rfl (q_pickF rfl (by conv => lhs; whnf) ?_)
          refine ev_nil (hK19 _ ?_); clear hK19
          refine good_condT rfl ?_
          refine good_seq fun K78 hK78 => ?_
          refine good_region rfl ?_
          refine ev_q rfl (q_assign (by conv => lhs; whnf) ?_)
          refine ev_nil (hK78 _ ?_); clear hK78
          refine good_ret ?_
          repeat (first | refine thenQ_ret ?_ | refine blockQ_ret ?_)
          refine ret_tmp (st := _) rfl (by conv => lhs; whnf) rfl ?_
          clear hK18
          first | rfl | (exfalso; first | omega | contradiction | grind)
    · replace hb11 := dT hb11
      refine ev_nil (hK10 _ ?_); clear hK10
      refine good_condT rfl ?_
      refine good_seq fun K79 hK79 => ?_
      refine good_region rfl ?_
      refine ev_q rfl (q_assign (by conv => lhs; whnf) ?_)
      refine ev_nil (hK79 _ ?_); clear hK79
      refine good_ret ?_
      repeat (first | refine thenQ_ret ?_ | refine blockQ_ret ?_)
      refine ret_tmp (st := _) rfl (by conv => lhs; whnf) rfl ?_
      clear hK9
      first | rfl | (exfalso; first | omega | contradiction | grind)
  · replace hb5 := dT hb5
    refine ev_nil (hK3 _ ?_); clear hK3
    refine good_condT rfl ?_
    refine good_seq fun K80 hK80 => ?_
    refine good_region rfl ?_
    refine ev_q rfl (q_assign (by conv => lhs; whnf) ?_)
    refine ev_nil (hK80 _ ?_); clear hK80
    refine good_ret ?_
    repeat (first | refine thenQ_ret ?_ | refine blockQ_ret ?_)
    refine ret_tmp (st := _) rfl (by conv => lhs; whnf) rfl ?_
    clear hK2
    first | rfl | (exfalso; first | omega | contradiction | grind)

end Go.Proofs.Ytpoppoglnjoomaa.DFnExactRenewPipes
