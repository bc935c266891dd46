/- Walks through the functions that FnExactLossShares reaches: what each answers. -/
import Derived.Test.YtpoppoglnjoomaaDFnExactLossSharesa
set_option linter.unusedVariables false
set_option linter.unusedSimpArgs false
namespace Go.Proofs.Ytpoppoglnjoomaa.DFnExactLossShares
open Go Go.RowKit Go.Proofs Go.Proofs.Ytpoppoglnjoomaa Go.Proofs.Ytpoppoglnjoomaa.Ev
def plo (p : Pi) (wa gr : Int) : Int := dr (p.lo * p.le * (wa - gr)) 100000
theorem plo_bd {p : Pi} {wa gr : Int} (h : piOk p) (h3 : -5000 ≤ wa ∧ wa ≤ 20000) (h4 : -5000 ≤ gr ∧ gr ≤ 20000) : -12500001 ≤ plo p wa gr ∧ plo p wa gr ≤ 12500001 := by
  obtain ⟨_, _, _, _, h1, _, h2⟩ := h
  exact (loB h2 h1 h3 h4).2.2
def nlG (ps : List Pi) (wa gr : Int) : Nat → Int
  | 0 => 0
  | i + 1 => nlG ps wa gr i + (match ps[i]? with
    | some p => plo p wa gr
    | none => 0)
theorem nlG_s {ps : List Pi} {wa gr : Int} {i : Nat} {p : Pi} (h : ps[i]? = some p) : nlG ps wa gr (i + 1) = nlG ps wa gr i + plo p wa gr := by rw [nlG, h]
theorem nlG_bd {ns : List Int} {ps : List Pi} {wa gr : Int} (ok : netOk ns ps) (h3 : -5000 ≤ wa ∧ wa ≤ 20000) (h4 : -5000 ≤ gr ∧ gr ≤ 20000) : ∀ i : Nat, i ≤ ps.length → -(i * 12500001) ≤ nlG ps wa gr i ∧ nlG ps wa gr i ≤ i * 12500001
  | 0, _ => by simp [nlG]
  | i + 1, h => by
    have ih := nlG_bd ok h3 h4 i (by omega)
    have hp : ps[i]? = some (ps[i]'(by omega)) := List.getElem?_eq_getElem (by omega)
    have := plo_bd (ok.2 _ _ hp).1.1 h3 h4
    rw [nlG_s hp]
    omega
def ylG (ps : List Pi) (ws gs : List Int) : Nat → Int
  | 0 => 0
  | i + 1 => ylG ps ws gs i + nlG ps (gd ws i) (gd gs i) ps.length * 730
theorem ylG_s {ps : List Pi} {ws gs : List Int} {i : Nat} {u v : Int} (h : ws[i]? = some u) (h2 : gs[i]? = some v) : ylG ps ws gs (i + 1) = ylG ps ws gs i + nlG ps u v ps.length * 730 := by rw [ylG, gd_eq h, gd_eq h2]
theorem ylG_bd {ns : List Int} {ps : List Pi} {ws gs : List Int} (ok : netOk ns ps) (hw : ws.length = 12) (hg : gs.length = 12) {n : Nat} (h3 : ∀ (j : Nat) (q : Int), j < n → ws[j]? = some q → -5000 ≤ q ∧ q ≤ 20000) (h4 : ∀ (j : Nat) (q : Int), j < n → gs[j]? = some q → -5000 ≤ q ∧ q ≤ 20000) : ∀ i : Nat, i ≤ n → i ≤ 12 → -(i * 200000000000) ≤ ylG ps ws gs i ∧ ylG ps ws gs i ≤ i * 200000000000
  | 0, _, _ => by simp [ylG]
  | i + 1, h, h2 => by
    have ih := ylG_bd ok hw hg h3 h4 i (by omega) (by omega)
    have hu : ws[i]? = some (ws[i]'(by omega)) := List.getElem?_eq_getElem (by omega)
    have hv : gs[i]? = some (gs[i]'(by omega)) := List.getElem?_eq_getElem (by omega)
    have := nlG_bd ok (h3 i _ (by omega) hu) (h4 i _ (by omega) hv) ps.length (Nat.le_refl _)
    have := ok.1.2.2
    rw [ylG_s hu hv]
    omega
def ylOk (ws gs : List Int) : Prop := ws.length = 12 ∧ gs.length = 12 ∧ within ws (-5000) 20000 ∧ within gs (-5000) 20000
noncomputable instance (ws gs : List Int) : Decidable (ylOk ws gs) := Classical.propDecidable _

-- spec.l10Loses
set_option maxRecDepth 20000 in
set_option maxHeartbeats 2000000 in
theorem D_spec_l10Loses (lo le wa gr : Int) (h1 : 0 ≤ lo ∧ lo ≤ 5000) (h2 : 1 ≤ le ∧ le ≤ 10000) (h3 : -5000 ≤ wa ∧ wa ≤ 20000) (h4 : -5000 ≤ gr ∧ gr ≤ 20000) : Den Try.prog 68 [.s (.int .i64 lo), .s (.int .i64 le), .s (.int .i64 wa), .s (.int .i64 gr)] (.s (.int .i64 (dr (lo * le * (wa - gr)) 100000))) := by
  have hb := loB h1 h2 h3 h4
  refine den_of_good Try.func68 (by decide) rfl (Nat.le_of_ble_eq_true rfl) (Nat.le_of_ble_eq_true rfl) ?_
  refine good_seq fun K1 hK1 => ?_
  refine good_region rfl ?_
  refine ev_q rfl (q_assign (by conv => lhs; whnf) ?_)
  refine ev_nil (hK1 _ ?_); clear hK1
  refine good_seq fun K2 hK2 => ?_
  refine good_region rfl ?_
  refine ev_q rfl (q_move (by conv => lhs; whnf) ?_)
  refine ev_q rfl (q_move (by conv => lhs; whnf) ?_)
  refine ev_q rfl (q_int rfl rfl ?_)
  intro n3 hn3
  replace hn3 := in64 hn3 (by omega) (by omega)
  refine ev_q rfl (q_move (by conv => lhs; whnf) ?_)
  refine ev_q rfl (q_move (by conv => lhs; whnf) ?_)
  refine ev_q rfl (q_int rfl rfl ?_)
  intro n4 hn4
  replace hn4 := in64 hn4 (by omega) (by omega)
  refine ev_q rfl (q_int rfl rfl ?_)
  intro n5 hn5
  rw [hn3, hn4] at hn5
  replace hn5 := in64 hn5 (by omega) (by omega)
  refine ev_q rfl (q_callI rfl rfl (rfl) (D_spec_l01Div _ _ (by omega) (by omega)) ?_)
  intro n6 hn6
  rw [hn5] at hn6
  refine ev_q rfl (q_assign (by conv => lhs; whnf) ?_)
  refine ev_nil (hK2 _ ?_); clear hK2
  refine good_ret ?_
  repeat (first | refine thenQ_ret ?_ | refine blockQ_ret ?_)
  refine ret_tmp (st := _) rfl (by conv => lhs; whnf) rfl ?_
  first | rfl | exact fI (by first | omega | grind) | (exfalso; first | omega | grind)

-- (impl.Pipe).loss
set_option maxRecDepth 20000 in
set_option maxHeartbeats 2000000 in
theorem D_impl_Pipe_loss (s : ByteArray) (fm tt le di lo : Int) (wa gr : Int) (h1 : 0 ≤ lo ∧ lo ≤ 5000) (h2 : 1 ≤ le ∧ le ≤ 10000) (h3 : -5000 ≤ wa ∧ wa ≤ 20000) (h4 : -5000 ≤ gr ∧ gr ≤ 20000) : Den Try.prog 70 [.agg [.s (.string s), .s (.int .i64 fm), .s (.int .i64 tt), .s (.int .i64 le), .s (.int .i64 di), .s (.int .i64 lo)], .s (.int .i64 wa), .s (.int .i64 gr)] (.s (.int .i64 (dr (lo * le * (wa - gr)) 100000))) := by
  have hb := loB h1 h2 h3 h4
  refine den_of_good Try.func70 (by decide) rfl (Nat.le_of_ble_eq_true rfl) (Nat.le_of_ble_eq_true rfl) ?_
  refine good_seq fun K1 hK1 => ?_
  refine good_region rfl ?_
  refine ev_k rfl (k_box (by conv => lhs; whnf) rfl rfl rfl ?_)
  refine ev_q rfl (q_assign (by conv => lhs; whnf) ?_)
  refine ev_nil (hK1 _ ?_); clear hK1
  refine good_seq fun K2 hK2 => ?_
  refine good_region rfl ?_
  refine ev_q rfl (q_fieldAddrP fO88_5 rfl rfl ?_)
  refine ev_q rfl (q_load tA2 rfl ?_)
  refine ev_q rfl (q_fieldAddrP fO88_3 rfl rfl ?_)
  refine ev_q rfl (q_load tA2 rfl ?_)
  refine ev_q rfl (q_int rfl rfl ?_)
  intro n3 hn3
  replace hn3 := in64 hn3 (by omega) (by omega)
  refine ev_q rfl (q_move (by conv => lhs; whnf) ?_)
  refine ev_q rfl (q_move (by conv => lhs; whnf) ?_)
  refine ev_q rfl (q_int rfl rfl ?_)
  intro n4 hn4
  replace hn4 := in64 hn4 (by omega) (by omega)
  refine ev_q rfl (q_int rfl rfl ?_)
  intro n5 hn5
  rw [hn3, hn4] at hn5
  replace hn5 := in64 hn5 (by omega) (by omega)
  refine ev_q rfl (q_callI rfl rfl (rfl) (D_impl_divRound _ _ (by omega) (by omega)) ?_)
  intro n6 hn6
  rw [hn5] at hn6
  refine ev_q rfl (q_assign (by conv => lhs; whnf) ?_)
  refine ev_nil (hK2 _ ?_); clear hK2
  refine good_ret ?_
  repeat (first | refine thenQ_ret ?_ | refine blockQ_ret ?_)
  refine ret_tmp (st := _) rfl (by conv => lhs; whnf) rfl ?_
  first | rfl | exact fI (by first | omega | grind) | (exfalso; first | omega | grind)

-- spec.l10Sum
set_option maxRecDepth 20000 in
set_option maxHeartbeats 2000000 in
theorem D_spec_l10Sum (ns : List Int) (ps : List Pi) (wa gr : Int) (hn : ns.length ≤ 17592186044416) (hp : ps.length ≤ 2513169434843) (hz : idSz ps) (h3 : -5000 ≤ wa ∧ wa ≤ 20000) (h4 : -5000 ≤ gr ∧ gr ≤ 20000) (ok : netOk ns ps) : Den Try.prog 58 [.rp [.lst 1 (ns.map ci), .lst 6 (ps.map piA)], .s (.int .i64 wa), .s (.int .i64 gr)] (.s (.int .i64 (nlG ps wa gr ps.length))) := by
  refine den_of_good Try.func58 (by decide) rfl (Nat.le_of_ble_eq_true rfl) (Nat.le_of_ble_eq_true rfl) ?_
  refine good_seq fun K1 hK1 => ?_
  refine good_region rfl ?_
  refine ev_q rfl (q_assign (by conv => lhs; whnf) ?_)
  refine ev_nil (hK1 _ ?_); clear hK1
  refine good_seq fun K2 hK2 => ?_
  refine good_region rfl ?_
  refine ev_q rfl (q_assign (by conv => lhs; whnf) ?_)
  refine ev_nil (hK2 _ ?_); clear hK2
  refine good_seq fun K3 hK3 => ?_
  refine good_seq fun K4 hK4 => ?_
  refine good_region rfl ?_
  refine ev_q rfl (q_assign (by conv => lhs; whnf) ?_)
  refine ev_nil (hK4 _ ?_); clear hK4
  refine good_block ?_
  refine good_loop (α := Nat) (fun i => { env := upd (upd (upd (upd (upd ((fun _ => .junk)) 0 (.rp [.lst 1 (ns.map ci), .lst 6 (ps.map piA)])) 1 (.s (.int .i64 wa))) 2 (.s (.int .i64 gr))) 7 (.s (.int .i64 (nlG ps wa gr i)))) 8 (.s (.int .i64 i)), H := fun _ => none }) (fun i => i ≤ ps.length) (fun i => ps.length - i) 0 ?_ ?_ ?_
  · show 0 ≤ _; omega
  · refine sub_weak ?_ ?_
    · exact weakH_none _
    · refine weakE_upd ?e8 ?r8 (weakE_upd ?e7 ?r7 (weakE_upd ?e2 ?r2 (weakE_upd ?e1 ?r1 (weakE_upd ?e0 ?r0 (weakE_junk _ _)))))
      case e0 => first | rfl | exact fI (by omega) | (simp_all)
      case r0 => intro h hh; cases hh
      case e1 => first | rfl | exact fI (by omega) | (simp_all)
      case r1 => intro h hh; cases hh
      case e2 => first | rfl | exact fI (by omega) | (simp_all)
      case r2 => intro h hh; cases hh
      case e7 => first | rfl | exact fI (by omega) | (first | rfl | exact fI (by omega))
      case r7 => intro h hh; cases hh
      case e8 => first | rfl | exact fI (by omega) | (simp_all)
      case r8 => intro h hh; cases hh
  · rintro i hI
    refine good_seq fun K5 hK5 => ?_
    refine good_seq fun K6 hK6 => ?_
    refine good_region rfl ?_
    refine ev_q rfl (q_move (by conv => lhs; whnf) ?_)
    refine ev_q rfl (q_move (by conv => lhs; whnf) ?_)
    refine ev_q rfl (q_nilCheck (by conv => lhs; whnf) rfl ?_)
    refine ev_q rfl (q_fieldAddr fO31_1 rfl rfl ?_)
    refine ev_q rfl (q_load tA29 rfl ?_)
    refine ev_q rfl (q_len tEs29 rfl ?_)
    intro n7 hn7
    try simp only [List.length_map] at hn7
    refine ev_q rfl (q_int rfl rfl ?_)
    intro b8 hb8; cases b8
    · replace hb8 := dF hb8
      refine ev_nil (hK6 _ ?_); clear hK6
      refine good_condF rfl ?_
      refine good_exit ?_
      repeat (first | refine thenQ_exit ?_ | refine blockQ_pass rfl ?_)
      refine blockQ_exit (hK3 _ ?_); clear hK3
      refine good_seq fun K9 hK9 => ?_
      refine good_region rfl ?_
      refine ev_q rfl (q_move (by conv => lhs; whnf) ?_)
      refine ev_q rfl (q_assign (by conv => lhs; whnf) ?_)
      refine ev_nil (hK9 _ ?_); clear hK9
      refine good_ret ?_
      repeat (first | refine thenQ_ret ?_ | refine blockQ_ret ?_)
      refine ret_tmp (st := _) rfl (by conv => lhs; whnf) rfl ?_
      clear hK5
      exact fI (by rw [show ps.length = i by omega])
    · replace hb8 := dT hb8
      obtain ⟨p, hpp⟩ := getL (xs := ps) (n := (i : Int)) (by omega) (by omega)
      replace hpp : ps[i]? = some p := hpp
      obtain ⟨_, _, _, _, hle, _, hlo⟩ := (ok.2 i p hpp).1.1
      have hpb := plo_bd (ok.2 i p hpp).1.1 h3 h4
      have hpe : plo p wa gr = dr (p.lo * p.le * (wa - gr)) 100000 := rfl
      have hst := nlG_s (wa := wa) (gr := gr) hpp
      have hbd := nlG_bd ok h3 h4 i hI
      have h20 := ok.1.2.2
      refine ev_nil (hK6 _ ?_); clear hK6
      refine good_condT rfl ?_
      refine good_skip (hK5 _ ?_); clear hK5
      refine good_seq fun K10 hK10 => ?_
      refine good_block ?_
      refine good_draw 22 hmix (by kernel_rfl) rfl ?_
      refine qo_q rfl (q_move (by conv => lhs; whnf) ?_)
      refine qo_q rfl (q_move (by conv => lhs; whnf) ?_)
      refine qo_q rfl (q_nilCheck (by conv => lhs; whnf) rfl ?_)
      refine qo_q rfl (q_fieldAddr fO31_1 rfl rfl ?_)
      refine qo_q rfl (q_load tA29 rfl ?_)
      refine qo_q rfl (q_move (by conv => lhs; whnf) ?_)
      refine qo_q rfl (q_idx tE29 rfl rfl (by exact Int.natCast_nonneg _) (by exact map_get hpp) rfl ?_)
      refine qo_q rfl (q_fieldAddr fO88_5 rfl rfl ?_)
      refine qo_q rfl (q_load tA2 rfl ?_)
      refine qo_q rfl (q_move (by conv => lhs; whnf) ?_)
      refine qo_q rfl (q_nilCheck (by conv => lhs; whnf) rfl ?_)
      refine qo_q rfl (q_fieldAddr fO31_1 rfl rfl ?_)
      refine qo_q rfl (q_load tA29 rfl ?_)
      refine qo_q rfl (q_move (by conv => lhs; whnf) ?_)
      refine qo_q rfl (q_idx tE29 rfl rfl (by exact Int.natCast_nonneg _) (by exact map_get hpp) rfl ?_)
      refine qo_q rfl (q_fieldAddr fO88_3 rfl rfl ?_)
      refine qo_q rfl (q_load tA2 rfl ?_)
      refine qo_q rfl (q_move (by conv => lhs; whnf) ?_)
      refine qo_q rfl (q_move (by conv => lhs; whnf) ?_)
      refine qo_q rfl (q_callI rfl rfl (rfl) (D_spec_l10Loses _ _ _ _ (by omega) (by omega) (by omega) (by omega)) ?_)
      intro n11 hn11
      refine qo_q rfl (q_int rfl rfl ?_)
      intro n12 hn12
      replace hn12 := in64 hn12 (by omega) (by omega)
      refine qo_q rfl (q_assign (by conv => lhs; whnf) ?_)
      refine qo_nil ?_
      refine ev_nil (hK10 _ ?_); clear hK10
      refine good_region rfl ?_
      refine ev_q rfl (q_move (by conv => lhs; whnf) ?_)
      refine ev_q rfl (q_int rfl rfl ?_)
      intro n13 hn13
      replace hn13 := in64 hn13 (by omega) (by omega)
      refine ev_q rfl (q_assign (by conv => lhs; whnf) ?_)
      refine ev_nil ?_
      clear hK3
      refine ⟨i + 1, ?_, ?_, ?_⟩
      · show _ ≤ _; omega
      · first | omega | (simp only []; omega) | (dsimp only; omega)
      · refine sub_weak ?_ ?_
        · exact weakH_none _
        · refine weakE_upd ?e8 ?r8 (weakE_upd ?e7 ?r7 (weakE_upd ?e2 ?r2 (weakE_upd ?e1 ?r1 (weakE_upd ?e0 ?r0 (weakE_junk _ _)))))
          case e0 => first | rfl | exact fI (by omega) | (simp_all)
          case r0 => intro h hh; cases hh
          case e1 => first | rfl | exact fI (by omega) | (simp_all)
          case r1 => intro h hh; cases hh
          case e2 => first | rfl | exact fI (by omega) | (simp_all)
          case r2 => intro h hh; cases hh
          case e7 => first | rfl | exact fI (by omega) | (first | rfl | exact fI (by omega))
          case r7 => intro h hh; cases hh
          case e8 => first | rfl | exact fI (by omega) | (simp_all)
          case r8 => intro h hh; cases hh

-- (impl.Network).loss
set_option maxRecDepth 20000 in
set_option maxHeartbeats 2000000 in
theorem D_impl_Network_loss (ns : List Int) (ps : List Pi) (wa gr : Int) (hn : ns.length ≤ 17592186044416) (hp : ps.length ≤ 2513169434843) (hz : idSz ps) (h3 : -5000 ≤ wa ∧ wa ≤ 20000) (h4 : -5000 ≤ gr ∧ gr ≤ 20000) (ok : netOk ns ps) : Den Try.prog 62 [.agg [.lst 1 (ns.map ci), .lst 6 (ps.map piA)], .s (.int .i64 wa), .s (.int .i64 gr)] (.s (.int .i64 (nlG ps wa gr ps.length))) := by
  refine den_of_good Try.func62 (by decide) rfl (Nat.le_of_ble_eq_true rfl) (Nat.le_of_ble_eq_true rfl) ?_
  refine good_seq fun K1 hK1 => ?_
  refine good_region rfl ?_
  refine ev_k rfl (k_box (by conv => lhs; whnf) rfl rfl rfl ?_)
  refine ev_q rfl (q_assign (by conv => lhs; whnf) ?_)
  refine ev_nil (hK1 _ ?_); clear hK1
  refine good_seq fun K2 hK2 => ?_
  refine good_region rfl ?_
  refine ev_q rfl (q_assign (by conv => lhs; whnf) ?_)
  refine ev_nil (hK2 _ ?_); clear hK2
  refine good_seq fun K3 hK3 => ?_
  refine good_seq fun K4 hK4 => ?_
  refine good_region rfl ?_
  refine ev_q rfl (q_fieldAddrP fO31_1 rfl rfl ?_)
  refine ev_q rfl (q_load tA29 rfl ?_)
  refine ev_q rfl (q_len tEs29 rfl ?_)
  intro n5 hn5
  try simp only [List.length_map] at hn5
  refine ev_q rfl (q_move (by conv => lhs; whnf) ?_)
  refine ev_nil (hK4 _ ?_); clear hK4
  refine good_block ?_
  refine good_loop (α := Nat) (fun i => { env := upd (upd (upd (upd (upd (upd ((fun _ => .junk)) 1 (.s (.int .i64 wa))) 2 (.s (.int .i64 gr))) 7 (.s (.int .i64 (nlG ps wa gr i)))) 11 (.lst 6 (ps.map piA))) 12 (.s (.int .i64 ((ps.length : Int))))) 13 (.s (.int .i64 i)), H := fun _ => none }) (fun i => i ≤ ps.length) (fun i => ps.length - i) 0 ?_ ?_ ?_
  · show 0 ≤ _; omega
  · refine sub_weak ?_ ?_
    · exact weakH_none _
    · refine weakE_upd ?e13 ?r13 (weakE_upd ?e12 ?r12 (weakE_upd ?e11 ?r11 (weakE_upd ?e7 ?r7 (weakE_upd ?e2 ?r2 (weakE_upd ?e1 ?r1 (weakE_junk _ _))))))
      case e1 => first | rfl | exact fI (by omega) | (simp_all)
      case r1 => intro h hh; cases hh
      case e2 => first | rfl | exact fI (by omega) | (simp_all)
      case r2 => intro h hh; cases hh
      case e7 => first | rfl | exact fI (by omega) | (first | rfl | exact fI (by omega))
      case r7 => intro h hh; cases hh
      case e11 => first | rfl | exact fI (by omega) | (simp_all)
      case r11 => intro h hh; cases hh
      case e12 => first | rfl | exact fI (by omega) | (simp_all)
      case r12 => intro h hh; cases hh
      case e13 => first | rfl | exact fI (by omega) | (simp_all)
      case r13 => intro h hh; cases hh
  · rintro i hI
    refine good_seq fun K6 hK6 => ?_
    refine good_region rfl ?_
    refine ev_q rfl (q_int rfl rfl ?_)
    intro b7 hb7; cases b7
    · replace hb7 := dF hb7
      refine ev_nil (hK6 _ ?_); clear hK6
      refine good_seq fun K8 hK8 => ?_
      refine good_condF rfl ?_
      refine good_exit ?_
      repeat (first | refine thenQ_exit ?_ | refine blockQ_pass rfl ?_)
      refine blockQ_exit (hK3 _ ?_); clear hK3
      refine good_seq fun K9 hK9 => ?_
      refine good_region rfl ?_
      refine ev_q rfl (q_move (by conv => lhs; whnf) ?_)
      refine ev_q rfl (q_assign (by conv => lhs; whnf) ?_)
      refine ev_nil (hK9 _ ?_); clear hK9
      refine good_ret ?_
      repeat (first | refine thenQ_ret ?_ | refine blockQ_ret ?_)
      refine ret_tmp (st := _) rfl (by conv => lhs; whnf) rfl ?_
      clear hK8
      exact fI (by rw [show ps.length = i by omega])
    · replace hb7 := dT hb7
      obtain ⟨p, hpp⟩ := getL (xs := ps) (n := (i : Int)) (by omega) (by omega)
      replace hpp : ps[i]? = some p := hpp
      obtain ⟨_, _, _, _, hle, _, hlo⟩ := (ok.2 i p hpp).1.1
      have hpb := plo_bd (ok.2 i p hpp).1.1 h3 h4
      have hpe : plo p wa gr = dr (p.lo * p.le * (wa - gr)) 100000 := rfl
      have hst := nlG_s (wa := wa) (gr := gr) hpp
      have hbd := nlG_bd ok h3 h4 i hI
      have h20 := ok.1.2.2
      refine ev_nil (hK6 _ ?_); clear hK6
      refine good_seq fun K10 hK10 => ?_
      refine good_condT rfl ?_
      refine good_skip (hK10 _ ?_); clear hK10
      refine good_seq fun K11 hK11 => ?_
      refine good_block ?_
      refine good_seq fun K12 hK12 => ?_
      refine good_region rfl ?_
      refine ev_q rfl (q_idx tE29 rfl rfl (by exact Int.natCast_nonneg _) (by exact map_get hpp) rfl ?_)
      refine ev_q rfl (q_loadA tA88 rfl rfl rfl ?_)
      refine ev_k rfl (k_alloc zA88 rfl ?_)
      refine ev_k rfl (k_store sz88 rfl (by conv => lhs; whnf) rfl rfl rfl (Nat.le_of_ble_eq_true rfl) rfl ?_)
      refine ev_nil (hK12 _ ?_); clear hK12
      refine good_region rfl ?_
      refine ev_q rfl (q_move (by conv => lhs; whnf) ?_)
      refine ev_q rfl (q_loadA tA88 rfl rfl rfl ?_)
      refine ev_q rfl (q_move (by conv => lhs; whnf) ?_)
      refine ev_q rfl (q_move (by conv => lhs; whnf) ?_)
      refine ev_q rfl (q_callI rfl rfl (rfl) (D_impl_Pipe_loss _ _ _ _ _ _ _ _ (by omega) (by omega) (by omega) (by omega)) ?_)
      intro n13 hn13
      refine ev_q rfl (q_int rfl rfl ?_)
      intro n14 hn14
      replace hn14 := in64 hn14 (by omega) (by omega)
      refine ev_q rfl (q_assign (by conv => lhs; whnf) ?_)
      refine ev_nil (hK11 _ ?_); clear hK11
      refine good_region rfl ?_
      refine ev_q rfl (q_int rfl rfl ?_)
      intro n15 hn15
      replace hn15 := in64 hn15 (by omega) (by omega)
      refine ev_q rfl (q_move (by conv => lhs; whnf) ?_)
      refine ev_nil ?_
      clear hK3
      refine ⟨i + 1, ?_, ?_, ?_⟩
      · show _ ≤ _; omega
      · first | omega | (simp only []; omega) | (dsimp only; omega)
      · refine sub_weak ?_ ?_
        · exact weakH_none _
        · refine weakE_upd ?e13 ?r13 (weakE_upd ?e12 ?r12 (weakE_upd ?e11 ?r11 (weakE_upd ?e7 ?r7 (weakE_upd ?e2 ?r2 (weakE_upd ?e1 ?r1 (weakE_junk _ _))))))
          case e1 => first | rfl | exact fI (by omega) | (simp_all)
          case r1 => intro h hh; cases hh
          case e2 => first | rfl | exact fI (by omega) | (simp_all)
          case r2 => intro h hh; cases hh
          case e7 => first | rfl | exact fI (by omega) | (first | rfl | exact fI (by omega))
          case r7 => intro h hh; cases hh
          case e11 => first | rfl | exact fI (by omega) | (simp_all)
          case r11 => intro h hh; cases hh
          case e12 => first | rfl | exact fI (by omega) | (simp_all)
          case r12 => intro h hh; cases hh
          case e13 => first | rfl | exact fI (by omega) | (simp_all)
          case r13 => intro h hh; cases hh

-- laws.markInt64S
set_option maxRecDepth 20000 in
set_option maxHeartbeats 2000000 in
theorem D_laws_markInt64S (xs : List Int) (k : Int) (hx : xs.length ≤ 17592186044416) (hk : 0 ≤ k ∧ k ≤ 1000000000000000) : DenX Try.prog 24 [(1000000, .row 2 1 (xs.map ci))] [.own 1000000 xs.length, .s (.int .i64 k)] [(1000000, .row 2 1 (mkC k xs xs.length))] (.s (.int .i64 (k + xs.length))) := by
  refine denX_of_good Try.func24 (by decide) rfl (Nat.le_of_ble_eq_true rfl) (Nat.le_of_ble_eq_true rfl) rfl ?_
  refine good_seq fun K1 hK1 => ?_
  refine good_region rfl ?_
  refine ev_q rfl (q_assign (by conv => lhs; whnf) ?_)
  refine ev_nil (hK1 _ ?_); clear hK1
  refine good_seq fun K2 hK2 => ?_
  refine good_seq fun K3 hK3 => ?_
  refine good_region rfl ?_
  refine ev_q rfl (q_assign (by conv => lhs; whnf) ?_)
  refine ev_nil (hK3 _ ?_); clear hK3
  refine good_block ?_
  refine good_loop (α := Nat) (fun i => { env := upd (upd (upd ((fun _ => .junk)) 0 (.own 1000000 xs.length)) 1 (.s (.int .i64 (k + i)))) 5 (.s (.int .i64 i)), H := upd ((fun _ => none)) 1000000 (some (.row 2 1 (mkC k xs i))) }) (fun i => i ≤ xs.length) (fun i => xs.length - i) 0 ?_ ?_ ?_
  · show 0 ≤ _; omega
  · refine sub_weak ?_ ?_
    · exact weakH_row (rowEq (mkC0.symm)) (weakH_none _)
    · refine weakE_upd ?e5 ?r5 (weakE_upd ?e1 ?r1 (weakE_upd ?e0 ?r0 (weakE_junk _ _)))
      case e0 => first | rfl | exact fI (by omega) | (simp_all)
      case r0 => intro h hh; simp [refs] at hh; subst hh; rfl
      case e1 => first | rfl | exact fI (by omega) | (simp_all)
      case r1 => intro h hh; cases hh
      case e5 => first | rfl | exact fI (by omega) | (simp_all)
      case r5 => intro h hh; cases hh
  · rintro i hI
    refine good_seq fun K4 hK4 => ?_
    refine good_seq fun K5 hK5 => ?_
    refine good_region rfl ?_
    refine ev_q rfl (q_move (by conv => lhs; whnf) ?_)
    refine ev_q rfl (q_move (by conv => lhs; whnf) ?_)
    refine ev_q rfl (q_len tEs22 rfl ?_)
    intro n6 hn6
    try simp only [List.length_map] at hn6
    refine ev_q rfl (q_int rfl rfl ?_)
    intro b7 hb7; cases b7
    · replace hb7 := dF hb7
      refine ev_nil (hK5 _ ?_); clear hK5
      refine good_condF rfl ?_
      refine good_exit ?_
      repeat (first | refine thenQ_exit ?_ | refine blockQ_pass rfl ?_)
      refine blockQ_exit (hK2 _ ?_); clear hK2
      refine good_seq fun K8 hK8 => ?_
      refine good_region rfl ?_
      refine ev_q rfl (q_move (by conv => lhs; whnf) ?_)
      refine ev_q rfl (q_assign (by conv => lhs; whnf) ?_)
      refine ev_nil (hK8 _ ?_); clear hK8
      refine good_ret ?_
      repeat (first | refine thenQ_ret ?_ | refine blockQ_ret ?_)
      refine fx_tmp rfl (by conv => lhs; whnf) ?_
      clear hK4
      exact ⟨_, conv_eq (by first | rfl | exact fI (by first | omega | grind) | (exfalso; first | omega | grind)), weakH_row (rowEq (by rw [show i = xs.length by omega])) (weakH_none _), refsIn_ok rfl⟩
    · replace hb7 := dT hb7
      obtain ⟨p, hp⟩ := getL (xs := xs) (n := (i : Int)) (by omega) (by omega)
      refine ev_nil (hK5 _ ?_); clear hK5
      refine good_condT rfl ?_
      refine good_skip (hK4 _ ?_); clear hK4
      refine good_seq fun K9 hK9 => ?_
      refine good_block ?_
      refine good_seq fun K10 hK10 => ?_
      refine good_region rfl ?_
      refine ev_q rfl (q_move (by conv => lhs; whnf) ?_)
      refine ev_q rfl (q_move (by conv => lhs; whnf) ?_)
      refine ev_q rfl (q_move (by conv => lhs; whnf) ?_)
      refine ev_q rfl (q_idxO tE22 rfl rfl rfl (by exact Int.natCast_nonneg _) (by omega) rfl ?_)
      refine ev_k rfl (k_storeE sz2 rfl (by conv => lhs; whnf) rfl rfl rfl (Nat.le_of_ble_eq_true rfl) rfl (by exact mkC_get hp) (Nat.le_of_ble_eq_true rfl) rfl ?_)
      refine ev_nil (hK10 _ ?_); clear hK10
      refine good_region rfl ?_
      refine ev_q rfl (q_move (by conv => lhs; whnf) ?_)
      refine ev_q rfl (q_int rfl rfl ?_)
      intro n11 hn11
      replace hn11 := in64 hn11 (by omega) (by omega)
      refine ev_q rfl (q_assign (by conv => lhs; whnf) ?_)
      refine ev_nil (hK9 _ ?_); clear hK9
      refine good_region rfl ?_
      refine ev_q rfl (q_move (by conv => lhs; whnf) ?_)
      refine ev_q rfl (q_int rfl rfl ?_)
      intro n12 hn12
      replace hn12 := in64 hn12 (by omega) (by omega)
      refine ev_q rfl (q_assign (by conv => lhs; whnf) ?_)
      refine ev_nil ?_
      clear hK2
      refine ⟨i + 1, ?_, ?_, ?_⟩
      · show _ ≤ _; omega
      · first | omega | (simp only []; omega) | (dsimp only; omega)
      · refine sub_weak ?_ ?_
        · exact weakH_row (rowEq (mkC_set (by omega))) (weakH_none _)
        · refine weakE_upd ?e5 ?r5 (weakE_upd ?e1 ?r1 (weakE_upd ?e0 ?r0 (weakE_junk _ _)))
          case e0 => first | rfl | exact fI (by omega) | (simp_all)
          case r0 => intro h hh; simp [refs] at hh; subst hh; rfl
          case e1 => first | rfl | exact fI (by omega) | (simp_all)
          case r1 => intro h hh; cases hh
          case e5 => first | rfl | exact fI (by omega) | (simp_all)
          case r5 => intro h hh; cases hh

-- laws.heldInt64S
set_option maxRecDepth 20000 in
set_option maxHeartbeats 2000000 in
theorem D_laws_heldInt64S (xs : List Int) (k : Int) (hx : xs.length ≤ 17592186044416) (hk : 0 ≤ k ∧ k ≤ 1000000000000000) : Den Try.prog 25 [.lst 1 (mkC k xs xs.length), .s (.int .i64 k)] (.s (.int .i64 (k + xs.length))) := by
  have hl := mkC_len (k := k) (xs := xs) (Nat.le_refl _)
  refine den_of_good Try.func25 (by decide) rfl (Nat.le_of_ble_eq_true rfl) (Nat.le_of_ble_eq_true rfl) ?_
  refine good_seq fun K1 hK1 => ?_
  refine good_region rfl ?_
  refine ev_q rfl (q_assign (by conv => lhs; whnf) ?_)
  refine ev_nil (hK1 _ ?_); clear hK1
  refine good_seq fun K2 hK2 => ?_
  refine good_seq fun K3 hK3 => ?_
  refine good_region rfl ?_
  refine ev_q rfl (q_assign (by conv => lhs; whnf) ?_)
  refine ev_nil (hK3 _ ?_); clear hK3
  refine good_block ?_
  refine good_loop (α := Nat) (fun i => { env := upd (upd (upd ((fun _ => .junk)) 0 (.lst 1 (mkC k xs xs.length))) 1 (.s (.int .i64 (k + i)))) 5 (.s (.int .i64 i)), H := fun _ => none }) (fun i => i ≤ xs.length) (fun i => xs.length - i) 0 ?_ ?_ ?_
  · show 0 ≤ _; omega
  · refine sub_weak ?_ ?_
    · exact weakH_none _
    · refine weakE_upd ?e5 ?r5 (weakE_upd ?e1 ?r1 (weakE_upd ?e0 ?r0 (weakE_junk _ _)))
      case e0 => first | rfl | exact fI (by omega) | (simp_all)
      case r0 => intro h hh; cases hh
      case e1 => first | rfl | exact fI (by omega) | (simp_all)
      case r1 => intro h hh; cases hh
      case e5 => first | rfl | exact fI (by omega) | (simp_all)
      case r5 => intro h hh; cases hh
  · rintro i hI
    refine good_seq fun K4 hK4 => ?_
    refine good_seq fun K5 hK5 => ?_
    refine good_region rfl ?_
    refine ev_q rfl (q_move (by conv => lhs; whnf) ?_)
    refine ev_q rfl (q_move (by conv => lhs; whnf) ?_)
    refine ev_q rfl (q_len tEs22 rfl ?_)
    intro n6 hn6
    try simp only [List.length_map] at hn6
    refine ev_q rfl (q_int rfl rfl ?_)
    intro b7 hb7; cases b7
    · replace hb7 := dF hb7
      refine ev_nil (hK5 _ ?_); clear hK5
      refine good_condF rfl ?_
      refine good_exit ?_
      repeat (first | refine thenQ_exit ?_ | refine blockQ_pass rfl ?_)
      refine blockQ_exit (hK2 _ ?_); clear hK2
      refine good_seq fun K8 hK8 => ?_
      refine good_region rfl ?_
      refine ev_q rfl (q_move (by conv => lhs; whnf) ?_)
      refine ev_q rfl (q_assign (by conv => lhs; whnf) ?_)
      refine ev_nil (hK8 _ ?_); clear hK8
      refine good_ret ?_
      repeat (first | refine thenQ_ret ?_ | refine blockQ_ret ?_)
      refine ret_tmp (st := _) rfl (by conv => lhs; whnf) rfl ?_
      clear hK4
      first | rfl | exact fI (by first | omega | grind) | (exfalso; first | omega | grind)
    · replace hb7 := dT hb7
      refine ev_nil (hK5 _ ?_); clear hK5
      refine good_condT rfl ?_
      refine good_skip (hK4 _ ?_); clear hK4
      refine good_seq fun K9 hK9 => ?_
      refine good_block ?_
      refine good_seq fun K10 hK10 => ?_
      refine good_seq fun K11 hK11 => ?_
      refine good_region rfl ?_
      refine ev_q rfl (q_move (by conv => lhs; whnf) ?_)
      refine ev_q rfl (q_move (by conv => lhs; whnf) ?_)
      refine ev_q rfl (q_idx tE22 rfl rfl (by exact Int.natCast_nonneg _) (by exact mkC_held (by omega)) rfl ?_)
      refine ev_q rfl (q_load tA2 rfl ?_)
      refine ev_q rfl (q_move (by conv => lhs; whnf) ?_)
      refine ev_q rfl (q_int rfl rfl ?_)
      intro b12 hb12; cases b12
      · replace hb12 := neF hb12
        refine ev_nil (hK11 _ ?_); clear hK11
        refine good_condF rfl ?_
        refine good_skip (hK10 _ ?_); clear hK10
        refine good_region rfl ?_
        refine ev_q rfl (q_move (by conv => lhs; whnf) ?_)
        refine ev_q rfl (q_int rfl rfl ?_)
        intro n13 hn13
        replace hn13 := in64 hn13 (by omega) (by omega)
        refine ev_q rfl (q_assign (by conv => lhs; whnf) ?_)
        refine ev_nil (hK9 _ ?_); clear hK9
        refine good_region rfl ?_
        refine ev_q rfl (q_move (by conv => lhs; whnf) ?_)
        refine ev_q rfl (q_int rfl rfl ?_)
        intro n14 hn14
        replace hn14 := in64 hn14 (by omega) (by omega)
        refine ev_q rfl (q_assign (by conv => lhs; whnf) ?_)
        refine ev_nil ?_
        clear hK2
        refine ⟨i + 1, ?_, ?_, ?_⟩
        · show _ ≤ _; omega
        · first | omega | (simp only []; omega) | (dsimp only; omega)
        · refine sub_weak ?_ ?_
          · exact weakH_none _
          · refine weakE_upd ?e5 ?r5 (weakE_upd ?e1 ?r1 (weakE_upd ?e0 ?r0 (weakE_junk _ _)))
            case e0 => first | rfl | exact fI (by omega) | (simp_all)
            case r0 => intro h hh; cases hh
            case e1 => first | rfl | exact fI (by omega) | (simp_all)
            case r1 => intro h hh; cases hh
            case e5 => first | rfl | exact fI (by omega) | (simp_all)
            case r5 => intro h hh; cases hh
      · replace hb12 := neT hb12
        refine ev_nil (hK11 _ ?_); clear hK11
        refine good_condT rfl ?_
        refine good_seq fun K15 hK15 => ?_
        refine good_region rfl ?_
        refine ev_q rfl (q_assign (by conv => lhs; whnf) ?_)
        refine ev_nil (hK15 _ ?_); clear hK15
        refine good_ret ?_
        repeat (first | refine thenQ_ret ?_ | refine blockQ_ret ?_)
        refine ret_tmp (st := _) rfl (by conv => lhs; whnf) rfl ?_
        clear hK2 hK9 hK10
        first | rfl | exact fI (by first | omega | grind) | (exfalso; first | omega | grind)

-- laws.markText
set_option maxRecDepth 20000 in
set_option maxHeartbeats 2000000 in
theorem D_laws_markText (k : Int) (hk : k ≤ 100000000000000) : Den Try.prog 118 [.s (.int .i64 k)] (.s (.string (mkT k))) := by
  refine den_of_good Try.func118 (by decide) rfl (Nat.le_of_ble_eq_true rfl) (Nat.le_of_ble_eq_true rfl) ?_
  refine good_seq fun K1 hK1 => ?_
  refine good_region rfl ?_
  refine ev_q rfl (q_assign (by conv => lhs; whnf) ?_)
  refine ev_nil (hK1 _ ?_); clear hK1
  refine good_seq fun K2 hK2 => ?_
  refine good_seq fun K3 hK3 => ?_
  refine good_region rfl ?_
  refine ev_q rfl (q_move (by conv => lhs; whnf) ?_)
  refine ev_q rfl (q_int rfl rfl ?_)
  intro b4 hb4; cases b4
  · replace hb4 := dF hb4
    refine ev_nil (hK3 _ ?_); clear hK3
    refine good_condF rfl ?_
    refine good_skip (hK2 _ ?_); clear hK2
    refine good_seq fun K5 hK5 => ?_
    refine good_region rfl ?_
    refine ev_q rfl (q_assign (by conv => lhs; whnf) ?_)
    refine ev_nil (hK5 _ ?_); clear hK5
    refine good_seq fun K6 hK6 => ?_
    refine good_block ?_
    refine good_loop (α := Nat × ByteArray) (fun (n, o) => { env := upd (upd ((fun _ => .junk)) 0 (.s (.int .i64 ((n : Int))))) 3 (.s (.string o)), H := fun _ => none }) (fun (n, o) => mkD n o = mkD k.toNat ⟨#[]⟩ ∧ (o.size : Int) + n ≤ k) (fun (n, o) => n) (k.toNat, ⟨#[]⟩) ?_ ?_ ?_
    · exact ⟨rfl, by show ((0 : Nat) : Int) + _ ≤ _; omega⟩
    · refine sub_weak ?_ ?_
      · exact weakH_none _
      · refine weakE_upd ?e3 ?r3 (weakE_upd ?e0 ?r0 (weakE_junk _ _))
        case e0 => first | rfl | exact fI (by omega) | (exact fI (by omega))
        case r0 => intro h hh; cases hh
        case e3 => first | rfl | exact fI (by omega) | (rfl)
        case r3 => intro h hh; cases hh
    · rintro ⟨n, o⟩ ⟨hI, hJ⟩
      refine good_seq fun K7 hK7 => ?_
      refine good_seq fun K8 hK8 => ?_
      refine good_region rfl ?_
      refine ev_q rfl (q_move (by conv => lhs; whnf) ?_)
      refine ev_q rfl (q_int rfl rfl ?_)
      intro b9 hb9; cases b9
      · replace hb9 := dF hb9
        refine ev_nil (hK8 _ ?_); clear hK8
        refine good_condF rfl ?_
        refine good_exit ?_
        repeat (first | refine thenQ_exit ?_ | refine blockQ_pass rfl ?_)
        refine blockQ_exit (hK6 _ ?_); clear hK6
        refine good_seq fun K10 hK10 => ?_
        refine good_region rfl ?_
        refine ev_q rfl (q_move (by conv => lhs; whnf) ?_)
        refine ev_q rfl (q_str rfl rfl ⟨by have : (⟨#[109]⟩ : ByteArray).size = 1 := rfl; omega, ?_⟩)
        intro s11 hs11
        refine ev_q rfl (q_assign (by conv => lhs; whnf) ?_)
        refine ev_nil (hK10 _ ?_); clear hK10
        refine good_ret ?_
        repeat (first | refine thenQ_ret ?_ | refine blockQ_ret ?_)
        refine ret_tmp (st := _) rfl (by conv => lhs; whnf) rfl ?_
        clear hK7
        first | exact congrArg (fun s => AV.s (Value.string s)) (mkT0 (k := k) (by omega)).symm | (have e := mkT1 (k := k) (by omega); rw [mkD_end (by omega)] at hI; rw [e, ← hI]; simp_all)
      · replace hb9 := dT hb9
        refine ev_nil (hK8 _ ?_); clear hK8
        refine good_condT rfl ?_
        refine good_skip (hK7 _ ?_); clear hK7
        refine good_block ?_
        refine good_seq fun K12 hK12 => ?_
        refine good_region rfl ?_
        refine ev_q rfl (q_move (by conv => lhs; whnf) ?_)
        refine ev_q rfl (q_int rfl rfl ⟨by omega, ?_⟩)
        intro n13 hn13
        first | replace hn13 := remE hn13 (by omega) | skip
        refine ev_q rfl (q_int rfl rfl ?_)
        intro n14 hn14
        replace hn14 := in64 hn14 (by omega) (by omega)
        refine ev_q rfl (q_conv tK3 tK5 rfl ?_)
        intro n15 hn15
        replace hn15 := wrap8 hn15 (by omega) (by omega)
        refine ev_k rfl (k_lit tE59 zA5 rfl rfl (by decide) (by decide) rfl rfl rfl ?_)
        refine ev_q rfl (q_txtO tByS59 tStr9 rfl rfl (by rfl) ?_)
        intro s16 hs16
        refine ev_q rfl (q_move (by conv => lhs; whnf) ?_)
        refine ev_q rfl (q_str rfl rfl ⟨by have := congrArg ByteArray.size hs16; rw [strOfNums_size] at this; simp at this; omega, ?_⟩)
        intro s17 hs17
        refine ev_q rfl (q_assign (by conv => lhs; whnf) ?_)
        refine ev_nil (hK12 _ ?_); clear hK12
        refine good_region rfl ?_
        refine ev_q rfl (q_move (by conv => lhs; whnf) ?_)
        refine ev_q rfl (q_int rfl rfl ⟨by omega, ?_⟩)
        intro n18 hn18
        first | replace hn18 := quoE hn18 (by omega) (by omega) | replace hn18 := quoT hn18 (by omega) (by omega)
        refine ev_q rfl (q_assign (by conv => lhs; whnf) ?_)
        refine ev_nil ?_
        clear hK6
        refine ⟨(n18.toNat, s17), ?_, ?_, ?_⟩
        · have e15 : s17 = strOfNums [n15] ++ o := by rw [hs17, hs16]
          have hz := str1_size e15
          exact ⟨(mkD_step (by omega) (by omega) (by omega) e15).trans hI, by first | omega | (dsimp only; omega)⟩
        · first | omega | (dsimp only; omega)
        · refine sub_weak ?_ ?_
          · exact weakH_none _
          · refine weakE_upd ?e3 ?r3 (weakE_upd ?e0 ?r0 (weakE_junk _ _))
            case e0 => first | rfl | exact fI (by omega) | (exact fI (by omega))
            case r0 => intro h hh; cases hh
            case e3 => first | rfl | exact fI (by omega) | (rfl)
            case r3 => intro h hh; cases hh
  · replace hb4 := dT hb4
    refine ev_nil (hK3 _ ?_); clear hK3
    refine good_condT rfl ?_
    refine good_seq fun K19 hK19 => ?_
    refine good_region rfl ?_
    refine ev_q rfl (q_assign (by conv => lhs; whnf) ?_)
    refine ev_nil (hK19 _ ?_); clear hK19
    refine good_ret ?_
    repeat (first | refine thenQ_ret ?_ | refine blockQ_ret ?_)
    refine ret_tmp (st := _) rfl (by conv => lhs; whnf) rfl ?_
    clear hK2
    first | exact congrArg (fun s => AV.s (Value.string s)) (mkT0 (k := k) (by omega)).symm | (have e := mkT1 (k := k) (by omega); rw [mkD_end (by omega)] at hI; rw [e, ← hI]; simp_all)

-- laws.toNetwork
set_option maxRecDepth 20000 in
set_option maxHeartbeats 2000000 in
theorem D_laws_toNetwork_X (ns : List Int) (ps : List Pi) (hn : ns.length ≤ 17592186044416) (hp : ps.length ≤ 2513169434843) : DenX Try.prog 14 [] [.agg [.lst 1 (ns.map ci), .lst 6 (ps.map piA)]] [(900001, .row 2 1 (ns.map ci)), (900002, .row 88 6 (ps.map piA))] (.agg [.own 900001 ns.length, .own 900002 ps.length]) := by
  refine denX_of_good Try.func14 (by decide) rfl (Nat.le_of_ble_eq_true rfl) (Nat.le_of_ble_eq_true rfl) rfl ?_
  refine good_seq fun K1 hK1 => ?_
  refine good_region rfl ?_
  refine ev_k rfl (k_box (by conv => lhs; whnf) rfl rfl rfl ?_)
  refine ev_k rfl (k_alloc zA31 rfl ?_)
  refine ev_nil (hK1 _ ?_); clear hK1
  refine good_seq fun K2 hK2 => ?_
  refine good_region rfl ?_
  refine ev_k rfl (k_alloc zA31 rfl ?_)
  refine ev_nil (hK2 _ ?_); clear hK2
  refine good_seq fun K3 hK3 => ?_
  refine good_region rfl ?_
  refine ev_q rfl (q_fieldAddrP fO25_0 rfl rfl ?_)
  refine ev_q rfl (q_load tA22 rfl ?_)
  refine ev_k rfl (k_callX [(7, 900001)] (D_laws_toInt64S_X _ hn) rfl (rfl) (rfl) trivial ⟨⟨rfl, show (900001 : Nat) < 1000000 by decide⟩, trivial⟩ rfl rfl rfl ?_)
  refine ev_q rfl (q_fieldAddrP fO31_0 rfl rfl ?_)
  refine ev_k rfl (k_store sz22 rfl (by conv => lhs; whnf) rfl rfl rfl (Nat.le_of_ble_eq_true rfl) rfl ?_)
  refine ev_nil (hK3 _ ?_); clear hK3
  refine good_seq fun K4 hK4 => ?_
  refine good_region rfl ?_
  refine ev_q rfl (q_fieldAddrP fO25_1 rfl rfl ?_)
  refine ev_q rfl (q_load tA23 rfl ?_)
  refine ev_k rfl (k_callX [(7, 900002)] (D_laws_toPipeS_X _ hp) rfl (rfl) (rfl) trivial ⟨⟨rfl, show (900002 : Nat) < 1000000 by decide⟩, trivial⟩ rfl rfl rfl ?_)
  refine ev_q rfl (q_fieldAddrP fO31_1 rfl rfl ?_)
  refine ev_k rfl (k_store sz29 rfl (by conv => lhs; whnf) rfl rfl rfl (Nat.le_of_ble_eq_true rfl) rfl ?_)
  refine ev_nil (hK4 _ ?_); clear hK4
  refine good_seq fun K5 hK5 => ?_
  refine good_region rfl ?_
  refine ev_q rfl (q_loadA tA31 rfl rfl rfl ?_)
  refine ev_k rfl (k_store sz31 rfl (by conv => lhs; whnf) rfl rfl rfl (Nat.le_of_ble_eq_true rfl) rfl ?_)
  refine ev_nil (hK5 _ ?_); clear hK5
  refine good_ret ?_
  repeat (first | refine thenQ_ret ?_ | refine blockQ_ret ?_)
  refine fx_cell rfl tA31 rfl rfl rfl ?_
  exact ⟨_, conv_eq (by first | rfl | exact fAgg1 (by first | rfl | simp_all) (fAgg1 (by first | rfl | simp_all) (rfl))), weakH_row (rowEq (by first | rfl | (rw [e]; done) | (rw [e]; rfl) | (simp_all; done))) (weakH_row (rowEq (by first | rfl | (rw [e]; done) | (rw [e]; rfl) | (simp_all; done))) (weakH_none _)), refsIn_ok rfl⟩

-- laws.markPipeS
set_option maxRecDepth 20000 in
set_option maxHeartbeats 2000000 in
theorem D_laws_markPipeS (ps : List Pi) (k : Int) (hp : ps.length ≤ 2513169434843) (hk : 0 ≤ k ∧ k ≤ 20000000000000) : DenX Try.prog 71 [(1000000, .row 88 6 (ps.map piA))] [.own 1000000 ps.length, .s (.int .i64 k)] [(1000000, .row 88 6 (mkP k ps ps.length))] (.s (.int .i64 (k + 6 * ps.length))) := by
  refine denX_of_good Try.func71 (by decide) rfl (Nat.le_of_ble_eq_true rfl) (Nat.le_of_ble_eq_true rfl) rfl ?_
  refine good_seq fun K1 hK1 => ?_
  refine good_region rfl ?_
  refine ev_q rfl (q_assign (by conv => lhs; whnf) ?_)
  refine ev_nil (hK1 _ ?_); clear hK1
  refine good_seq fun K2 hK2 => ?_
  refine good_seq fun K3 hK3 => ?_
  refine good_region rfl ?_
  refine ev_q rfl (q_assign (by conv => lhs; whnf) ?_)
  refine ev_nil (hK3 _ ?_); clear hK3
  refine good_block ?_
  refine good_loop (α := Nat) (fun i => { env := upd (upd (upd ((fun _ => .junk)) 0 (.own 1000000 ps.length)) 1 (.s (.int .i64 (k + 6 * i)))) 5 (.s (.int .i64 i)), H := upd ((fun _ => none)) 1000000 (some (.row 88 6 (mkP k ps i))) }) (fun i => i ≤ ps.length) (fun i => ps.length - i) 0 ?_ ?_ ?_
  · show 0 ≤ _; omega
  · refine sub_weak ?_ ?_
    · exact weakH_row (rowEq (mkP0.symm)) (weakH_none _)
    · refine weakE_upd ?e5 ?r5 (weakE_upd ?e1 ?r1 (weakE_upd ?e0 ?r0 (weakE_junk _ _)))
      case e0 => first | rfl | exact fI (by omega) | (simp_all)
      case r0 => intro h hh; simp [refs] at hh; subst hh; rfl
      case e1 => first | rfl | exact fI (by omega) | (simp_all)
      case r1 => intro h hh; cases hh
      case e5 => first | rfl | exact fI (by omega) | (simp_all)
      case r5 => intro h hh; cases hh
  · rintro i hI
    refine good_seq fun K4 hK4 => ?_
    refine good_seq fun K5 hK5 => ?_
    refine good_region rfl ?_
    refine ev_q rfl (q_move (by conv => lhs; whnf) ?_)
    refine ev_q rfl (q_move (by conv => lhs; whnf) ?_)
    refine ev_q rfl (q_len tEs29 rfl ?_)
    intro n6 hn6
    try simp only [List.length_map] at hn6
    refine ev_q rfl (q_int rfl rfl ?_)
    intro b7 hb7; cases b7
    · replace hb7 := dF hb7
      refine ev_nil (hK5 _ ?_); clear hK5
      refine good_condF rfl ?_
      refine good_exit ?_
      repeat (first | refine thenQ_exit ?_ | refine blockQ_pass rfl ?_)
      refine blockQ_exit (hK2 _ ?_); clear hK2
      refine good_seq fun K8 hK8 => ?_
      refine good_region rfl ?_
      refine ev_q rfl (q_move (by conv => lhs; whnf) ?_)
      refine ev_q rfl (q_assign (by conv => lhs; whnf) ?_)
      refine ev_nil (hK8 _ ?_); clear hK8
      refine good_ret ?_
      repeat (first | refine thenQ_ret ?_ | refine blockQ_ret ?_)
      refine fx_tmp rfl (by conv => lhs; whnf) ?_
      clear hK4
      exact ⟨_, conv_eq (by first | rfl | exact fI (by first | omega | grind) | (exfalso; first | omega | grind)), weakH_row (rowEq (by rw [show i = ps.length by omega])) (weakH_none _), refsIn_ok rfl⟩
    · replace hb7 := dT hb7
      obtain ⟨p, hpp⟩ := getL (xs := ps) (n := (i : Int)) (by omega) (by omega)
      replace hpp : ps[i]? = some p := hpp
      refine ev_nil (hK5 _ ?_); clear hK5
      refine good_condT rfl ?_
      refine good_skip (hK4 _ ?_); clear hK4
      refine good_seq fun K9 hK9 => ?_
      refine good_block ?_
      refine good_seq fun K10 hK10 => ?_
      refine good_region rfl ?_
      refine ev_q rfl (q_move (by conv => lhs; whnf) ?_)
      refine ev_q rfl (q_move (by conv => lhs; whnf) ?_)
      refine ev_q rfl (q_move (by conv => lhs; whnf) ?_)
      refine ev_q rfl (q_call rfl rfl (rfl) (D_laws_markText _ (by omega)) rfl ?_)
      refine ev_q rfl (q_idxO tE29 rfl rfl rfl (by exact Int.natCast_nonneg _) (by omega) rfl ?_)
      refine ev_q rfl (q_fieldAddrE fO88_0 rfl rfl ?_)
      refine ev_k rfl (k_storeE sz9 rfl (by conv => lhs; whnf) rfl rfl rfl (Nat.le_of_ble_eq_true rfl) rfl (by first | exact mkP_get hpp | exact setGet (by (try simp only [List.length_set]); rw [mkP_len (by omega)]; omega)) (Nat.le_of_ble_eq_true rfl) rfl ?_)
      refine ev_nil (hK10 _ ?_); clear hK10
      refine good_seq fun K11 hK11 => ?_
      refine good_region rfl ?_
      refine ev_q rfl (q_move (by conv => lhs; whnf) ?_)
      refine ev_q rfl (q_int rfl rfl ?_)
      intro n12 hn12
      replace hn12 := in64 hn12 (by omega) (by omega)
      refine ev_q rfl (q_assign (by conv => lhs; whnf) ?_)
      refine ev_nil (hK11 _ ?_); clear hK11
      refine good_seq fun K13 hK13 => ?_
      refine good_region rfl ?_
      refine ev_q rfl (q_move (by conv => lhs; whnf) ?_)
      refine ev_q rfl (q_move (by conv => lhs; whnf) ?_)
      refine ev_q rfl (q_move (by conv => lhs; whnf) ?_)
      refine ev_q rfl (q_idxO tE29 rfl rfl rfl (by exact Int.natCast_nonneg _) (by omega) rfl ?_)
      refine ev_q rfl (q_fieldAddrE fO88_1 rfl rfl ?_)
      refine ev_k rfl (k_storeE sz2 rfl (by conv => lhs; whnf) rfl rfl rfl (Nat.le_of_ble_eq_true rfl) rfl (by first | exact mkP_get hpp | exact setGet (by (try simp only [List.length_set]); rw [mkP_len (by omega)]; omega)) (Nat.le_of_ble_eq_true rfl) rfl ?_)
      refine ev_nil (hK13 _ ?_); clear hK13
      refine good_seq fun K14 hK14 => ?_
      refine good_region rfl ?_
      refine ev_q rfl (q_move (by conv => lhs; whnf) ?_)
      refine ev_q rfl (q_int rfl rfl ?_)
      intro n15 hn15
      replace hn15 := in64 hn15 (by omega) (by omega)
      refine ev_q rfl (q_assign (by conv => lhs; whnf) ?_)
      refine ev_nil (hK14 _ ?_); clear hK14
      refine good_seq fun K16 hK16 => ?_
      refine good_region rfl ?_
      refine ev_q rfl (q_move (by conv => lhs; whnf) ?_)
      refine ev_q rfl (q_move (by conv => lhs; whnf) ?_)
      refine ev_q rfl (q_move (by conv => lhs; whnf) ?_)
      refine ev_q rfl (q_idxO tE29 rfl rfl rfl (by exact Int.natCast_nonneg _) (by omega) rfl ?_)
      refine ev_q rfl (q_fieldAddrE fO88_2 rfl rfl ?_)
      refine ev_k rfl (k_storeE sz2 rfl (by conv => lhs; whnf) rfl rfl rfl (Nat.le_of_ble_eq_true rfl) rfl (by first | exact mkP_get hpp | exact setGet (by (try simp only [List.length_set]); rw [mkP_len (by omega)]; omega)) (Nat.le_of_ble_eq_true rfl) rfl ?_)
      refine ev_nil (hK16 _ ?_); clear hK16
      refine good_seq fun K17 hK17 => ?_
      refine good_region rfl ?_
      refine ev_q rfl (q_move (by conv => lhs; whnf) ?_)
      refine ev_q rfl (q_int rfl rfl ?_)
      intro n18 hn18
      replace hn18 := in64 hn18 (by omega) (by omega)
      refine ev_q rfl (q_assign (by conv => lhs; whnf) ?_)
      refine ev_nil (hK17 _ ?_); clear hK17
      refine good_seq fun K19 hK19 => ?_
      refine good_region rfl ?_
      refine ev_q rfl (q_move (by conv => lhs; whnf) ?_)
      refine ev_q rfl (q_move (by conv => lhs; whnf) ?_)
      refine ev_q rfl (q_move (by conv => lhs; whnf) ?_)
      refine ev_q rfl (q_idxO tE29 rfl rfl rfl (by exact Int.natCast_nonneg _) (by omega) rfl ?_)
      refine ev_q rfl (q_fieldAddrE fO88_3 rfl rfl ?_)
      refine ev_k rfl (k_storeE sz2 rfl (by conv => lhs; whnf) rfl rfl rfl (Nat.le_of_ble_eq_true rfl) rfl (by first | exact mkP_get hpp | exact setGet (by (try simp only [List.length_set]); rw [mkP_len (by omega)]; omega)) (Nat.le_of_ble_eq_true rfl) rfl ?_)
      refine ev_nil (hK19 _ ?_); clear hK19
      refine good_seq fun K20 hK20 => ?_
      refine good_region rfl ?_
      refine ev_q rfl (q_move (by conv => lhs; whnf) ?_)
      refine ev_q rfl (q_int rfl rfl ?_)
      intro n21 hn21
      replace hn21 := in64 hn21 (by omega) (by omega)
      refine ev_q rfl (q_assign (by conv => lhs; whnf) ?_)
      refine ev_nil (hK20 _ ?_); clear hK20
      refine good_seq fun K22 hK22 => ?_
      refine good_region rfl ?_
      refine ev_q rfl (q_move (by conv => lhs; whnf) ?_)
      refine ev_q rfl (q_move (by conv => lhs; whnf) ?_)
      refine ev_q rfl (q_move (by conv => lhs; whnf) ?_)
      refine ev_q rfl (q_idxO tE29 rfl rfl rfl (by exact Int.natCast_nonneg _) (by omega) rfl ?_)
      refine ev_q rfl (q_fieldAddrE fO88_4 rfl rfl ?_)
      refine ev_k rfl (k_storeE sz2 rfl (by conv => lhs; whnf) rfl rfl rfl (Nat.le_of_ble_eq_true rfl) rfl (by first | exact mkP_get hpp | exact setGet (by (try simp only [List.length_set]); rw [mkP_len (by omega)]; omega)) (Nat.le_of_ble_eq_true rfl) rfl ?_)
      refine ev_nil (hK22 _ ?_); clear hK22
      refine good_seq fun K23 hK23 => ?_
      refine good_region rfl ?_
      refine ev_q rfl (q_move (by conv => lhs; whnf) ?_)
      refine ev_q rfl (q_int rfl rfl ?_)
      intro n24 hn24
      replace hn24 := in64 hn24 (by omega) (by omega)
      refine ev_q rfl (q_assign (by conv => lhs; whnf) ?_)
      refine ev_nil (hK23 _ ?_); clear hK23
      refine good_seq fun K25 hK25 => ?_
      refine good_region rfl ?_
      refine ev_q rfl (q_move (by conv => lhs; whnf) ?_)
      refine ev_q rfl (q_move (by conv => lhs; whnf) ?_)
      refine ev_q rfl (q_move (by conv => lhs; whnf) ?_)
      refine ev_q rfl (q_idxO tE29 rfl rfl rfl (by exact Int.natCast_nonneg _) (by omega) rfl ?_)
      refine ev_q rfl (q_fieldAddrE fO88_5 rfl rfl ?_)
      refine ev_k rfl (k_storeE sz2 rfl (by conv => lhs; whnf) rfl rfl rfl (Nat.le_of_ble_eq_true rfl) rfl (by first | exact mkP_get hpp | exact setGet (by (try simp only [List.length_set]); rw [mkP_len (by omega)]; omega)) (Nat.le_of_ble_eq_true rfl) rfl ?_)
      refine ev_nil (hK25 _ ?_); clear hK25
      refine good_region rfl ?_
      refine ev_q rfl (q_move (by conv => lhs; whnf) ?_)
      refine ev_q rfl (q_int rfl rfl ?_)
      intro n26 hn26
      replace hn26 := in64 hn26 (by omega) (by omega)
      refine ev_q rfl (q_assign (by conv => lhs; whnf) ?_)
      refine ev_nil (hK9 _ ?_); clear hK9
      refine good_region rfl ?_
      refine ev_q rfl (q_move (by conv => lhs; whnf) ?_)
      refine ev_q rfl (q_int rfl rfl ?_)
      intro n27 hn27
      replace hn27 := in64 hn27 (by omega) (by omega)
      refine ev_q rfl (q_assign (by conv => lhs; whnf) ?_)
      refine ev_nil ?_
      clear hK2
      refine ⟨i + 1, ?_, ?_, ?_⟩
      · show _ ≤ _; omega
      · first | omega | (simp only []; omega) | (dsimp only; omega)
      · refine sub_weak ?_ ?_
        · exact weakH_row (rowEq (mkP_step (by omega) (by omega) (by omega) (by omega) (by omega) (by omega))) (weakH_none _)
        · refine weakE_upd ?e5 ?r5 (weakE_upd ?e1 ?r1 (weakE_upd ?e0 ?r0 (weakE_junk _ _)))
          case e0 => first | rfl | exact fI (by omega) | (simp_all)
          case r0 => intro h hh; simp [refs] at hh; subst hh; rfl
          case e1 => first | rfl | exact fI (by omega) | (simp_all)
          case r1 => intro h hh; cases hh
          case e5 => first | rfl | exact fI (by omega) | (simp_all)
          case r5 => intro h hh; cases hh

-- laws.markNetwork
set_option maxRecDepth 20000 in
set_option maxHeartbeats 2000000 in
theorem D_laws_markNetwork (ns : List Int) (ps : List Pi) (k : Int) (hn : ns.length ≤ 17592186044416) (hp : ps.length ≤ 2513169434843) (hk : 0 ≤ k ∧ k ≤ 1000000) : DenX Try.prog 23 [(1000000, .row 2 1 (ns.map ci)), (1000001, .row 88 6 (ps.map piA))] [.agg [.own 1000000 ns.length, .own 1000001 ps.length], .s (.int .i64 k)] [(1000000, .row 2 1 (mkC k ns ns.length)), (1000001, .row 88 6 (mkP (k + ns.length) ps ps.length))] (.s (.int .i64 (k + ns.length + 6 * ps.length))) := by
  refine denX_of_good Try.func23 (by decide) rfl (Nat.le_of_ble_eq_true rfl) (Nat.le_of_ble_eq_true rfl) rfl ?_
  refine good_seq fun K1 hK1 => ?_
  refine good_region rfl ?_
  refine ev_k rfl (k_box (by conv => lhs; whnf) rfl rfl rfl ?_)
  refine ev_q rfl (q_assign (by conv => lhs; whnf) ?_)
  refine ev_nil (hK1 _ ?_); clear hK1
  refine good_seq fun K2 hK2 => ?_
  refine good_region rfl ?_
  refine ev_q rfl (q_fieldAddrP fO31_0 rfl rfl ?_)
  refine ev_q rfl (q_load tA22 rfl ?_)
  refine ev_q rfl (q_move (by conv => lhs; whnf) ?_)
  refine ev_k rfl (k_callXI [(1000000, 1000000)] (D_laws_markInt64S ns _ hn (by omega)) rfl (rfl) (rfl) ⟨rfl, trivial⟩ ⟨rfl, ⟨rfl, rfl, by rw [mkC_len (Nat.le_refl _)]; simp⟩, trivial⟩ rfl rfl rfl ?_)
  intro n3 hn3
  refine ev_q rfl (q_assign (by conv => lhs; whnf) ?_)
  refine ev_nil (hK2 _ ?_); clear hK2
  refine good_seq fun K4 hK4 => ?_
  refine good_region rfl ?_
  refine ev_q rfl (q_fieldAddrP fO31_1 rfl rfl ?_)
  refine ev_q rfl (q_load tA29 rfl ?_)
  refine ev_q rfl (q_move (by conv => lhs; whnf) ?_)
  refine ev_k rfl (k_callXI [(1000000, 1000001)] (D_laws_markPipeS ps _ hp (by omega)) rfl (rfl) (rfl) ⟨rfl, trivial⟩ ⟨rfl, ⟨rfl, rfl, by rw [mkP_len (Nat.le_refl _)]; simp⟩, trivial⟩ rfl rfl rfl ?_)
  intro n5 hn5
  refine ev_q rfl (q_assign (by conv => lhs; whnf) ?_)
  refine ev_nil (hK4 _ ?_); clear hK4
  refine good_seq fun K6 hK6 => ?_
  refine good_region rfl ?_
  refine ev_q rfl (q_move (by conv => lhs; whnf) ?_)
  refine ev_q rfl (q_assign (by conv => lhs; whnf) ?_)
  refine ev_nil (hK6 _ ?_); clear hK6
  refine good_ret ?_
  repeat (first | refine thenQ_ret ?_ | refine blockQ_ret ?_)
  refine fx_tmp rfl (by conv => lhs; whnf) ?_
  exact ⟨_, conv_eq (by first | rfl | exact fI (by first | omega | grind) | (exfalso; first | omega | grind)), weakH_row (rowEq (by first | rfl | (rw [e]; done) | (rw [e]; rfl) | (simp_all; done))) (weakH_row (rowEq (by first | rfl | (rw [e]; done) | (rw [e]; rfl) | (simp_all; done))) (weakH_none _)), refsIn_ok rfl⟩

def pab (ps : List Pi) (wa gr : Int) (j : Nat) : Int := match ps[j]? with
  | some p => ((plo p wa gr).natAbs : Int)
  | none => 0
theorem pab_eq {ps : List Pi} {wa gr : Int} {j : Nat} {p : Pi} (h : ps[j]? = some p) : pab ps wa gr j = ((plo p wa gr).natAbs : Int) := by unfold pab; rw [h]
def lsA (ps : List Pi) (wa gr : Int) : Nat → Int
  | 0 => 0
  | i + 1 => lsA ps wa gr i + pab ps wa gr i
def lsB (ps : List Pi) (wa gr : Int) (n : Nat) : List Int := (List.range n).map (pab ps wa gr)
theorem lsB_s {ps : List Pi} {wa gr : Int} {n : Nat} : lsB ps wa gr (n + 1) = lsB ps wa gr n ++ [pab ps wa gr n] := by unfold lsB; rw [List.range_succ, List.map_append]; rfl
theorem lsB_len {ps : List Pi} {wa gr : Int} {n : Nat} : (lsB ps wa gr n).length = n := by simp [lsB]
theorem lsB_get {ps : List Pi} {wa gr : Int} {n j : Nat} (h : j < n) : (lsB ps wa gr n)[j]? = some (pab ps wa gr j) := by simp [lsB, h]
def lsh (ps : List Pi) (wa gr : Int) (j : Nat) : Int := if lsA ps wa gr ps.length = 0 then 0 else dr (1000 * pab ps wa gr j) (lsA ps wa gr ps.length)
def lsL (ps : List Pi) (wa gr : Int) (n : Nat) : List Int := (List.range n).map (lsh ps wa gr)
theorem lsL_s {ps : List Pi} {wa gr : Int} {n : Nat} : lsL ps wa gr (n + 1) = lsL ps wa gr n ++ [lsh ps wa gr n] := by unfold lsL; rw [List.range_succ, List.map_append]; rfl
theorem lsL_len {ps : List Pi} {wa gr : Int} {n : Nat} : (lsL ps wa gr n).length = n := by simp [lsL]
theorem lsL_get {ps : List Pi} {wa gr : Int} {n j : Nat} (h : j < n) : (lsL ps wa gr n)[j]? = some (lsh ps wa gr j) := by simp [lsL, h]
theorem pab_bd {ns : List Int} {ps : List Pi} {wa gr : Int} (ok : netOk ns ps) (h3 : -5000 ≤ wa ∧ wa ≤ 20000) (h4 : -5000 ≤ gr ∧ gr ≤ 20000) (j : Nat) : 0 ≤ pab ps wa gr j ∧ pab ps wa gr j ≤ 12500001 := by
  unfold pab
  cases h : ps[j]? with
  | none => exact ⟨by simp, by simp⟩
  | some p => have := plo_bd (ok.2 _ _ h).1.1 h3 h4; simp only; omega
theorem lsA_bd {ns : List Int} {ps : List Pi} {wa gr : Int} (ok : netOk ns ps) (h3 : -5000 ≤ wa ∧ wa ≤ 20000) (h4 : -5000 ≤ gr ∧ gr ≤ 20000) : ∀ i : Nat, 0 ≤ lsA ps wa gr i ∧ lsA ps wa gr i ≤ i * 12500001
  | 0 => by simp [lsA]
  | i + 1 => by
    have ih := lsA_bd ok h3 h4 i
    have := pab_bd ok h3 h4 i
    rw [lsA]; omega
theorem lsA_s {ps : List Pi} {wa gr : Int} {i : Nat} : lsA ps wa gr (i + 1) = lsA ps wa gr i + pab ps wa gr i := rfl
noncomputable def lsC (ns : List Int) (ps : List Pi) (wa gr : Int) : Int := if netOk ns ps then (if (-5000 ≤ wa ∧ wa ≤ 20000) ∧ (-5000 ≤ gr ∧ gr ≤ 20000) then 0 else 2) else 1
theorem lsC_ok {ns : List Int} {ps : List Pi} {wa gr : Int} (h : lsC ns ps wa gr = 0) : netOk ns ps ∧ (-5000 ≤ wa ∧ wa ≤ 20000) ∧ (-5000 ≤ gr ∧ gr ≤ 20000) := by
  unfold lsC at h
  split at h
  · split at h
    · exact ⟨by assumption, by assumption⟩
    · omega
  · omega
noncomputable def lsR (ns : List Int) (ps : List Pi) (wa gr : Int) : List Int := if lsC ns ps wa gr = 0 then lsL ps wa gr ps.length else []
theorem lsR_no {ns : List Int} {ps : List Pi} {wa gr : Int} (h : ¬ lsC ns ps wa gr = 0) : lsR ns ps wa gr = [] := if_neg h
theorem lsR_ok {ns : List Int} {ps : List Pi} {wa gr : Int} (h : lsC ns ps wa gr = 0) : lsR ns ps wa gr = lsL ps wa gr ps.length := if_pos h
theorem lsR_len {ns : List Int} {ps : List Pi} {wa gr : Int} : (lsR ns ps wa gr).length ≤ 20 := by
  by_cases h : lsC ns ps wa gr = 0
  · rw [lsR_ok h, lsL_len]; have := (lsC_ok h).1.1.2.2; omega
  · rw [lsR_no h]; simp
theorem appE2 {f : Int → AV} {l : List Int} {l2 : List Int} {n m : Int} (h : l2 = l ++ [m]) (e : n = m) : l.map f ++ [f n] = l2.map f := by subst h; subst e; simp
theorem fillN {α : Type} {f : α → AV} {z : AV} {xs : List α} {i : Nat} {p : α} (h : xs[i]? = some p) (hv : z = f p) : fillC f z xs i = fillC f z xs (i + 1) := by
  have this := fillG (f := f) (z := z) (List.getElem?_eq_some_iff.1 h).1
  obtain ⟨hl, he⟩ := List.getElem?_eq_some_iff.1 this
  have hs := List.set_getElem_self hl
  rw [he] at hs
  rw [← fillS h hv]
  exact hs.symm

-- spec.l00Max
set_option maxRecDepth 20000 in
set_option maxHeartbeats 2000000 in
theorem D_spec_l00Max (a b : Int)  : Den Try.prog 117 [.s (.int .i64 a), .s (.int .i64 b)] (.s (.int .i64 (if a > b then a else b))) := by
  refine den_of_good Try.func117 (by decide) rfl (Nat.le_of_ble_eq_true rfl) (Nat.le_of_ble_eq_true rfl) ?_
  refine good_seq fun K1 hK1 => ?_
  refine good_region rfl ?_
  refine ev_q rfl (q_assign (by conv => lhs; whnf) ?_)
  refine ev_nil (hK1 _ ?_); clear hK1
  refine good_seq fun K2 hK2 => ?_
  refine good_seq fun K3 hK3 => ?_
  refine good_region rfl ?_
  refine ev_q rfl (q_move (by conv => lhs; whnf) ?_)
  refine ev_q rfl (q_move (by conv => lhs; whnf) ?_)
  refine ev_q rfl (q_int rfl rfl ?_)
  intro b4 hb4; cases b4
  · replace hb4 := dF hb4
    refine ev_nil (hK3 _ ?_); clear hK3
    refine good_condF rfl ?_
    refine good_skip (hK2 _ ?_); clear hK2
    refine good_seq fun K5 hK5 => ?_
    refine good_region rfl ?_
    refine ev_q rfl (q_move (by conv => lhs; whnf) ?_)
    refine ev_q rfl (q_assign (by conv => lhs; whnf) ?_)
    refine ev_nil (hK5 _ ?_); clear hK5
    refine good_ret ?_
    repeat (first | refine thenQ_ret ?_ | refine blockQ_ret ?_)
    refine ret_tmp (st := _) rfl (by conv => lhs; whnf) rfl ?_
    first | rfl | exact fI (by first | omega | grind) | (exfalso; first | omega | grind)
  · replace hb4 := dT hb4
    refine ev_nil (hK3 _ ?_); clear hK3
    refine good_condT rfl ?_
    refine good_seq fun K6 hK6 => ?_
    refine good_region rfl ?_
    refine ev_q rfl (q_move (by conv => lhs; whnf) ?_)
    refine ev_q rfl (q_assign (by conv => lhs; whnf) ?_)
    refine ev_nil (hK6 _ ?_); clear hK6
    refine good_ret ?_
    repeat (first | refine thenQ_ret ?_ | refine blockQ_ret ?_)
    refine ret_tmp (st := _) rfl (by conv => lhs; whnf) rfl ?_
    clear hK2
    first | rfl | exact fI (by first | omega | grind) | (exfalso; first | omega | grind)

-- spec.l03Abs
set_option maxRecDepth 20000 in
set_option maxHeartbeats 2000000 in
theorem D_spec_l03Abs (a : Int) (h : -9223372036854775807 ≤ a ∧ a ≤ 9223372036854775807) : Den Try.prog 67 [.s (.int .i64 a)] (.s (.int .i64 ((a.natAbs : Int)))) := by
  refine den_of_good Try.func67 (by decide) rfl (Nat.le_of_ble_eq_true rfl) (Nat.le_of_ble_eq_true rfl) ?_
  refine good_seq fun K1 hK1 => ?_
  refine good_region rfl ?_
  refine ev_q rfl (q_assign (by conv => lhs; whnf) ?_)
  refine ev_nil (hK1 _ ?_); clear hK1
  refine good_seq fun K2 hK2 => ?_
  refine good_region rfl ?_
  refine ev_q rfl (q_move (by conv => lhs; whnf) ?_)
  refine ev_q rfl (q_move (by conv => lhs; whnf) ?_)
  refine ev_q rfl (q_neg rfl ?_)
  intro n3 hn3
  replace hn3 := neg64 hn3 (by omega) (by omega)
  refine ev_q rfl (q_callI rfl rfl (rfl) (D_spec_l00Max ..) ?_)
  intro n4 hn4
  refine ev_q rfl (q_assign (by conv => lhs; whnf) ?_)
  refine ev_nil (hK2 _ ?_); clear hK2
  refine good_ret ?_
  repeat (first | refine thenQ_ret ?_ | refine blockQ_ret ?_)
  refine ret_tmp (st := _) rfl (by conv => lhs; whnf) rfl ?_
  first | rfl | exact fI (by first | omega | grind) | (exfalso; first | omega | grind)

-- spec.LossShares
set_option maxRecDepth 20000 in
set_option maxHeartbeats 2000000 in
theorem D_spec_LossShares_X (ns : List Int) (ps : List Pi) (wa gr : Int) (hn : ns.length ≤ 17592186044416) (hp : ps.length ≤ 2513169434843) (hz : idSz ps) : DenX Try.prog 21 [] [.agg [.lst 1 (ns.map ci), .lst 6 (ps.map piA)], .s (.int .i64 wa), .s (.int .i64 gr)] [(66, .row 2 1 ((lsR ns ps wa gr).map ci))] (.tup [.own 66 (lsR ns ps wa gr).length, .s (.int .i64 (lsC ns ps wa gr))]) := by
  refine denX_of_good Try.func21 (by decide) rfl (Nat.le_of_ble_eq_true rfl) (Nat.le_of_ble_eq_true rfl) rfl ?_
  refine good_seq fun K1 hK1 => ?_
  refine good_region rfl ?_
  refine ev_k rfl (k_box (by conv => lhs; whnf) rfl rfl rfl ?_)
  refine ev_q rfl (q_assign (by conv => lhs; whnf) ?_)
  refine ev_q rfl (q_assign (by conv => lhs; whnf) ?_)
  refine ev_nil (hK1 _ ?_); clear hK1
  refine good_seq fun K2 hK2 => ?_
  refine good_seq fun K3 hK3 => ?_
  refine good_region rfl ?_
  refine ev_q rfl (q_callB rfl rfl (rfl) (D_spec_l04Ok ns ps hn hp hz) ?_)
  intro b4 hb4; cases b4
  · first | replace hb4 := dF hb4 | skip
    refine ev_q rfl (q_not rfl rfl ?_)
    refine ev_nil (hK3 _ ?_); clear hK3
    refine good_condT rfl ?_
    refine good_seq fun K5 hK5 => ?_
    refine good_region rfl ?_
    refine ev_q rfl (q_assign (by conv => lhs; whnf) ?_)
    refine ev_q rfl (q_assign (by conv => lhs; whnf) ?_)
    refine ev_nil (hK5 _ ?_); clear hK5
    refine good_ret ?_
    repeat (first | refine thenQ_ret ?_ | refine blockQ_ret ?_)
    refine fx_many rfl ?_
    refine fxs_tmp (by conv => lhs; whnf) ?_
    refine fxs_tmp (by conv => lhs; whnf) ?_
    refine fx_nil ?_
    clear hK2
    first | (have e : lsR ns ps wa gr = lsL ps wa gr ps.length := lsR_ok ec; have el : (lsR ns ps wa gr).length = ps.length := (by rw [e, lsL_len])) | (have e : lsR ns ps wa gr = [] := lsR_no (by unfold lsC; grind))
    exact ⟨_, .tup (.cons (conv_nil rfl (by decide) (by rw [e]; rfl)) (.cons (conv_eq (by first | rfl | exact fI (by first | omega | (unfold lsC; grind) | grind) | (exfalso; first | omega | grind))) (.nil))), weakH_row (rowEq (by first | (rw [e]; rfl) | (rw [e, show ps.length = i by omega]))) (weakH_none _), refsIn_ok rfl⟩
  · first | replace hb4 := dT hb4 | skip
    refine ev_q rfl (q_not rfl rfl ?_)
    refine ev_nil (hK3 _ ?_); clear hK3
    refine good_condF rfl ?_
    refine good_skip (hK2 _ ?_); clear hK2
    refine good_seq fun K6 hK6 => ?_
    refine good_seq fun K7 hK7 => ?_
    refine good_region rfl ?_
    refine ev_q rfl (q_move (by conv => lhs; whnf) ?_)
    refine ev_q rfl (q_callB rfl rfl (rfl) (D_spec_l03Degrees ..) ?_)
    intro b8 hb8; cases b8
    · first | replace hb8 := dF hb8 | skip
      refine ev_q rfl (q_not rfl rfl ?_)
      refine ev_q rfl (q_move (by conv => lhs; whnf) ?_)
      refine ev_skip rfl ?_
      refine ev_skip rfl ?_
      refine ev_skip rfl ?_
      refine ev_q rfl (q_pickT rfl (by conv => lhs; whnf) ?_)
      refine ev_nil (hK7 _ ?_); clear hK7
      refine good_condT rfl ?_
      refine good_seq fun K9 hK9 => ?_
      refine good_region rfl ?_
      refine ev_q rfl (q_assign (by conv => lhs; whnf) ?_)
      refine ev_q rfl (q_assign (by conv => lhs; whnf) ?_)
      refine ev_nil (hK9 _ ?_); clear hK9
      refine good_ret ?_
      repeat (first | refine thenQ_ret ?_ | refine blockQ_ret ?_)
      refine fx_many rfl ?_
      refine fxs_tmp (by conv => lhs; whnf) ?_
      refine fxs_tmp (by conv => lhs; whnf) ?_
      refine fx_nil ?_
      clear hK6
      first | (have e : lsR ns ps wa gr = lsL ps wa gr ps.length := lsR_ok ec; have el : (lsR ns ps wa gr).length = ps.length := (by rw [e, lsL_len])) | (have e : lsR ns ps wa gr = [] := lsR_no (by unfold lsC; grind))
      exact ⟨_, .tup (.cons (conv_nil rfl (by decide) (by rw [e]; rfl)) (.cons (conv_eq (by first | rfl | exact fI (by first | omega | (unfold lsC; grind) | grind) | (exfalso; first | omega | grind))) (.nil))), weakH_row (rowEq (by first | (rw [e]; rfl) | (rw [e, show ps.length = i by omega]))) (weakH_none _), refsIn_ok rfl⟩
    · first | replace hb8 := dT hb8 | skip
      refine ev_q rfl (q_not rfl rfl ?_)
      refine ev_q rfl (q_move (by conv => lhs; whnf) ?_)
      refine ev_q rfl (q_move (by conv => lhs; whnf) ?_)
      refine ev_q rfl (q_callB rfl rfl (rfl) (D_spec_l03Degrees ..) ?_)
      intro b10 hb10; cases b10
      · first | replace hb10 := dF hb10 | skip
        refine ev_q rfl (q_not rfl rfl ?_)
        refine ev_q rfl (q_pickF rfl (by conv => lhs; whnf) ?_)
        refine ev_nil (hK7 _ ?_); clear hK7
        refine good_condT rfl ?_
        refine good_seq fun K11 hK11 => ?_
        refine good_region rfl ?_
        refine ev_q rfl (q_assign (by conv => lhs; whnf) ?_)
        refine ev_q rfl (q_assign (by conv => lhs; whnf) ?_)
        refine ev_nil (hK11 _ ?_); clear hK11
        refine good_ret ?_
        repeat (first | refine thenQ_ret ?_ | refine blockQ_ret ?_)
        refine fx_many rfl ?_
        refine fxs_tmp (by conv => lhs; whnf) ?_
        refine fxs_tmp (by conv => lhs; whnf) ?_
        refine fx_nil ?_
        clear hK6
        first | (have e : lsR ns ps wa gr = lsL ps wa gr ps.length := lsR_ok ec; have el : (lsR ns ps wa gr).length = ps.length := (by rw [e, lsL_len])) | (have e : lsR ns ps wa gr = [] := lsR_no (by unfold lsC; grind))
        exact ⟨_, .tup (.cons (conv_nil rfl (by decide) (by rw [e]; rfl)) (.cons (conv_eq (by first | rfl | exact fI (by first | omega | (unfold lsC; grind) | grind) | (exfalso; first | omega | grind))) (.nil))), weakH_row (rowEq (by first | (rw [e]; rfl) | (rw [e, show ps.length = i by omega]))) (weakH_none _), refsIn_ok rfl⟩
      · first | replace hb10 := dT hb10 | skip
        refine ev_q rfl (q_not rfl rfl ?_)
        refine ev_q rfl (q_pickF rfl (by conv => lhs; whnf) ?_)
        refine ev_nil (hK7 _ ?_); clear hK7
        refine good_condF rfl ?_
        refine good_skip (hK6 _ ?_); clear hK6
        refine good_seq fun K12 hK12 => ?_
        refine good_region rfl ?_
        have ec : lsC ns ps wa gr = 0 := by unfold lsC; rw [if_pos (by assumption), if_pos (by omega)]
        have ok := lsC_ok ec
        refine ev_k rfl (k_lit tE22 zA2 rfl rfl (by decide) (by decide) rfl rfl rfl ?_)
        refine ev_q rfl (q_assign (by conv => lhs; whnf) ?_)
        refine ev_nil (hK12 _ ?_); clear hK12
        refine good_seq fun K13 hK13 => ?_
        refine good_region rfl ?_
        refine ev_q rfl (q_assign (by conv => lhs; whnf) ?_)
        refine ev_nil (hK13 _ ?_); clear hK13
        refine good_seq fun K14 hK14 => ?_
        refine good_seq fun K15 hK15 => ?_
        refine good_region rfl ?_
        refine ev_q rfl (q_assign (by conv => lhs; whnf) ?_)
        refine ev_nil (hK15 _ ?_); clear hK15
        refine good_block ?_
        refine good_loop (α := Nat) (fun i => { env := upd (upd (upd (upd (upd (upd ((fun _ => .junk)) 1 (.s (.int .i64 wa))) 2 (.s (.int .i64 gr))) 3 (.ptr 3 0)) 8 (.own 51 i)) 9 (.s (.int .i64 (lsA ps wa gr i)))) 10 (.s (.int .i64 i)), H := upd (upd ((fun _ => none)) 51 (some (.row 2 1 ((lsB ps wa gr i).map ci)))) 3 (some (.box 31 [.lst 1 (ns.map ci), .lst 6 (ps.map piA)])) }) (fun i => i ≤ ps.length) (fun i => ps.length - i) 0 ?_ ?_ ?_
        · show 0 ≤ _; omega
        · refine Sub.trans (sub_move 8 24 51 rfl rfl rfl (by decide)) ?_
          refine sub_weak ?_ ?_
          · exact weakH_box (boxEq (rfl)) rfl (weakH_row (rowEq (rfl)) (weakH_none _))
          · refine weakE_upd ?e10 ?r10 (weakE_upd ?e9 ?r9 (weakE_upd ?e8 ?r8 (weakE_upd ?e3 ?r3 (weakE_upd ?e2 ?r2 (weakE_upd ?e1 ?r1 (weakE_junk _ _))))))
            case e1 => first | rfl | exact fI (by omega) | (simp_all)
            case r1 => intro h hh; cases hh
            case e2 => first | rfl | exact fI (by omega) | (simp_all)
            case r2 => intro h hh; cases hh
            case e3 => first | rfl | exact fI (by omega) | (simp_all)
            case r3 => intro h hh; simp [refs] at hh; subst hh; rfl
            case e8 => first | rfl | exact fI (by omega) | (first | rfl | exact ownEq (by simp [lsB_len]))
            case r8 => intro h hh; simp [refs] at hh; subst hh; rfl
            case e9 => first | rfl | exact fI (by omega) | (first | rfl | exact fI (by omega))
            case r9 => intro h hh; cases hh
            case e10 => first | rfl | exact fI (by omega) | (simp_all)
            case r10 => intro h hh; cases hh
        · rintro i hI
          refine good_seq fun K16 hK16 => ?_
          refine good_seq fun K17 hK17 => ?_
          refine good_region rfl ?_
          refine ev_q rfl (q_move (by conv => lhs; whnf) ?_)
          refine ev_q rfl (q_fieldAddrP fO31_1 rfl rfl ?_)
          refine ev_q rfl (q_load tA29 rfl ?_)
          refine ev_q rfl (q_len tEs29 rfl ?_)
          intro n18 hn18
          try simp only [List.length_map] at hn18
          refine ev_q rfl (q_int rfl rfl ?_)
          intro b19 hb19; cases b19
          · replace hb19 := dF hb19
            refine ev_nil (hK17 _ ?_); clear hK17
            refine good_condF rfl ?_
            refine good_exit ?_
            repeat (first | refine thenQ_exit ?_ | refine blockQ_pass rfl ?_)
            refine blockQ_exit (hK14 _ ?_); clear hK14
            refine good_seq fun K20 hK20 => ?_
            refine good_region rfl ?_
            refine ev_k rfl (k_lit tE22 zA2 rfl rfl (by decide) (by decide) rfl rfl rfl ?_)
            refine ev_q rfl (q_assign (by conv => lhs; whnf) ?_)
            refine ev_nil (hK20 _ ?_); clear hK20
            refine good_seq fun K21 hK21 => ?_
            refine good_seq fun K22 hK22 => ?_
            refine good_region rfl ?_
            refine ev_q rfl (q_assign (by conv => lhs; whnf) ?_)
            refine ev_nil (hK22 _ ?_); clear hK22
            refine good_block ?_
            refine good_loop (α := Nat) (fun i => { env := upd (upd (upd (upd ((fun _ => .junk)) 8 (.own 51 ps.length)) 9 (.s (.int .i64 (lsA ps wa gr ps.length)))) 12 (.own 66 i)) 13 (.s (.int .i64 i)), H := upd (upd ((fun _ => none)) 66 (some (.row 2 1 ((lsL ps wa gr i).map ci)))) 51 (some (.row 2 1 ((lsB ps wa gr ps.length).map ci))) }) (fun i => i ≤ ps.length) (fun i => ps.length - i) 0 ?_ ?_ ?_
            · show 0 ≤ _; omega
            · refine Sub.trans (sub_move 12 55 66 rfl rfl rfl (by decide)) ?_
              refine sub_weak ?_ ?_
              · exact weakH_row (rowEq (by rw [show ps.length = i by omega])) (weakH_row (rowEq (rfl)) (weakH_none _))
              · refine weakE_upd ?e13 ?r13 (weakE_upd ?e12 ?r12 (weakE_upd ?e9 ?r9 (weakE_upd ?e8 ?r8 (weakE_junk _ _))))
                case e8 => first | rfl | exact fI (by omega) | (first | rfl | exact ownEq (by omega))
                case r8 => intro h hh; simp [refs] at hh; subst hh; rfl
                case e9 => first | rfl | exact fI (by omega) | (first | rfl | exact fI (by rw [show ps.length = i by omega]) | exact fI (by omega))
                case r9 => intro h hh; cases hh
                case e12 => first | rfl | exact fI (by omega) | (first | rfl | exact ownEq (by simp [lsL_len]))
                case r12 => intro h hh; simp [refs] at hh; subst hh; rfl
                case e13 => first | rfl | exact fI (by omega) | (simp_all)
                case r13 => intro h hh; cases hh
            · rintro i hI
              refine good_seq fun K23 hK23 => ?_
              refine good_seq fun K24 hK24 => ?_
              refine good_region rfl ?_
              refine ev_q rfl (q_move (by conv => lhs; whnf) ?_)
              refine ev_q rfl (q_move (by conv => lhs; whnf) ?_)
              refine ev_q rfl (q_len tEs22 rfl ?_)
              intro n25 hn25
              try simp only [List.length_map] at hn25
              refine ev_q rfl (q_int rfl rfl ?_)
              intro b26 hb26; cases b26
              · replace hb26 := dF hb26
                refine ev_nil (hK24 _ ?_); clear hK24
                refine good_condF rfl ?_
                refine good_exit ?_
                repeat (first | refine thenQ_exit ?_ | refine blockQ_pass rfl ?_)
                refine blockQ_exit (hK21 _ ?_); clear hK21
                refine good_seq fun K27 hK27 => ?_
                refine good_region rfl ?_
                refine ev_q rfl (q_move (by conv => lhs; whnf) ?_)
                refine ev_q rfl (q_assign (by conv => lhs; whnf) ?_)
                refine ev_q rfl (q_assign (by conv => lhs; whnf) ?_)
                refine ev_nil (hK27 _ ?_); clear hK27
                refine good_ret ?_
                repeat (first | refine thenQ_ret ?_ | refine blockQ_ret ?_)
                refine fx_many rfl ?_
                refine fxs_tmp (by conv => lhs; whnf) ?_
                refine fxs_tmp (by conv => lhs; whnf) ?_
                refine fx_nil ?_
                clear hK16 hK23
                first | (have e : lsR ns ps wa gr = lsL ps wa gr ps.length := lsR_ok ec; have el : (lsR ns ps wa gr).length = ps.length := (by rw [e, lsL_len])) | (have e : lsR ns ps wa gr = [] := lsR_no (by unfold lsC; grind))
                exact ⟨_, .tup (.cons (conv_eq (by first | rfl | (rw [e]; done) | (rw [e]; rfl) | exact ownEq (by first | omega | simp_all))) (.cons (conv_eq (by first | rfl | exact fI (by first | omega | (unfold lsC; grind) | grind) | (exfalso; first | omega | grind))) (.nil))), weakH_row (rowEq (by first | (rw [e]; rfl) | (rw [e, show ps.length = i by omega]))) (weakH_none _), refsIn_ok rfl⟩
              · replace hb26 := dT hb26
                have hpq := pab_bd ok.1 ok.2.1 ok.2.2 i
                have hab := lsA_bd ok.1 ok.2.1 ok.2.2 ps.length
                have h20 := ok.1.1.2.2
                refine ev_nil (hK24 _ ?_); clear hK24
                refine good_condT rfl ?_
                refine good_skip (hK23 _ ?_); clear hK23
                refine good_seq fun K28 hK28 => ?_
                refine good_block ?_
                refine good_seq fun K29 hK29 => ?_
                refine good_region rfl ?_
                refine ev_q rfl (q_move (by conv => lhs; whnf) ?_)
                refine ev_q rfl (q_int rfl rfl ?_)
                intro b30 hb30; cases b30
                · replace hb30 := eqF hb30
                  have hsh : lsh ps wa gr i = dr (1000 * pab ps wa gr i) (lsA ps wa gr ps.length) := if_neg (by omega)
                  refine ev_nil (hK29 _ ?_); clear hK29
                  refine good_condF rfl ?_
                  refine good_region rfl ?_
                  refine ev_q rfl (q_move (by conv => lhs; whnf) ?_)
                  refine ev_q rfl (q_move (by conv => lhs; whnf) ?_)
                  refine ev_q rfl (q_move (by conv => lhs; whnf) ?_)
                  refine ev_q rfl (q_idxO tE22 rfl rfl rfl (by exact Int.natCast_nonneg _) (by omega) rfl ?_)
                  refine ev_q rfl (q_loadE tA2 rfl rfl (by exact map_get (lsB_get (j := i) (by omega))) rfl ?_)
                  refine ev_q rfl (q_int rfl rfl ?_)
                  intro n31 hn31
                  replace hn31 := in64 hn31 (by omega) (by omega)
                  refine ev_q rfl (q_move (by conv => lhs; whnf) ?_)
                  refine ev_q rfl (q_callI rfl rfl (rfl) (D_spec_l01Div _ _ (by omega) (by omega)) ?_)
                  intro n32 hn32
                  rw [hn31] at hn32
                  refine ev_k rfl (k_lit tE22 zA2 rfl rfl (by decide) (by decide) rfl rfl rfl ?_)
                  refine ev_k rfl (k_app tApp22 rfl rfl (by simp [lsB_len, lsL_len]) rfl (.inl rfl) (by simp [lsB_len, lsL_len, maxLen]; omega) (by simp [lsB_len, lsL_len]; omega) ?_)
                  refine ev_q rfl (q_assign (by conv => lhs; whnf) ?_)
                  refine ev_nil (hK28 _ ?_); clear hK28
                  first | refine good_weak (sub_move 12 76 66 rfl rfl rfl (by decide)) ?_ | skip
                  refine good_region rfl ?_
                  refine ev_q rfl (q_move (by conv => lhs; whnf) ?_)
                  refine ev_q rfl (q_int rfl rfl ?_)
                  intro n33 hn33
                  replace hn33 := in64 hn33 (by omega) (by omega)
                  refine ev_q rfl (q_assign (by conv => lhs; whnf) ?_)
                  refine ev_nil ?_
                  clear hK16 hK21
                  refine ⟨i + 1, ?_, ?_, ?_⟩
                  · show _ ≤ _; omega
                  · first | omega | (simp only []; omega) | (dsimp only; omega)
                  · refine sub_weak ?_ ?_
                    · exact weakH_row (rowEq (rfl)) (weakH_row (rowEq (appE2 lsL_s (by rw [hsh]; first | done | omega))) (weakH_none _))
                    · refine weakE_upd ?e13 ?r13 (weakE_upd ?e12 ?r12 (weakE_upd ?e9 ?r9 (weakE_upd ?e8 ?r8 (weakE_junk _ _))))
                      case e8 => first | rfl | exact fI (by omega) | (first | rfl | exact ownEq (by omega))
                      case r8 => intro h hh; simp [refs] at hh; subst hh; rfl
                      case e9 => first | rfl | exact fI (by omega) | (first | rfl | exact fI (by rw [show ps.length = i by omega]) | exact fI (by omega))
                      case r9 => intro h hh; cases hh
                      case e12 => first | rfl | exact fI (by omega) | (first | rfl | exact ownEq (by simp [lsL_len]))
                      case r12 => intro h hh; simp [refs] at hh; subst hh; rfl
                      case e13 => first | rfl | exact fI (by omega) | (simp_all)
                      case r13 => intro h hh; cases hh
                · replace hb30 := eqT hb30
                  have hsh : lsh ps wa gr i = 0 := if_pos (by omega)
                  refine ev_nil (hK29 _ ?_); clear hK29
                  refine good_condT rfl ?_
                  refine good_region rfl ?_
                  refine ev_q rfl (q_move (by conv => lhs; whnf) ?_)
                  refine ev_k rfl (k_lit tE22 zA2 rfl rfl (by decide) (by decide) rfl rfl rfl ?_)
                  refine ev_k rfl (k_app tApp22 rfl rfl (by simp [lsB_len, lsL_len]) rfl (.inr rfl) (by simp [lsB_len, lsL_len, maxLen]; omega) (by simp [lsB_len, lsL_len]; omega) ?_)
                  refine ev_q rfl (q_assign (by conv => lhs; whnf) ?_)
                  refine ev_nil (hK28 _ ?_); clear hK28
                  first | refine good_weak (sub_move 12 76 66 rfl rfl rfl (by decide)) ?_ | skip
                  refine good_region rfl ?_
                  refine ev_q rfl (q_move (by conv => lhs; whnf) ?_)
                  refine ev_q rfl (q_int rfl rfl ?_)
                  intro n34 hn34
                  replace hn34 := in64 hn34 (by omega) (by omega)
                  refine ev_q rfl (q_assign (by conv => lhs; whnf) ?_)
                  refine ev_nil ?_
                  clear hK16 hK21
                  refine ⟨i + 1, ?_, ?_, ?_⟩
                  · show _ ≤ _; omega
                  · first | omega | (simp only []; omega) | (dsimp only; omega)
                  · refine sub_weak ?_ ?_
                    · exact weakH_row (rowEq (rfl)) (weakH_row (rowEq (appE2 lsL_s (by rw [hsh]; first | done | omega))) (weakH_none _))
                    · refine weakE_upd ?e13 ?r13 (weakE_upd ?e12 ?r12 (weakE_upd ?e9 ?r9 (weakE_upd ?e8 ?r8 (weakE_junk _ _))))
                      case e8 => first | rfl | exact fI (by omega) | (first | rfl | exact ownEq (by omega))
                      case r8 => intro h hh; simp [refs] at hh; subst hh; rfl
                      case e9 => first | rfl | exact fI (by omega) | (first | rfl | exact fI (by rw [show ps.length = i by omega]) | exact fI (by omega))
                      case r9 => intro h hh; cases hh
                      case e12 => first | rfl | exact fI (by omega) | (first | rfl | exact ownEq (by simp [lsL_len]))
                      case r12 => intro h hh; simp [refs] at hh; subst hh; rfl
                      case e13 => first | rfl | exact fI (by omega) | (simp_all)
                      case r13 => intro h hh; cases hh
          · replace hb19 := dT hb19
            obtain ⟨p, hpp⟩ := getL (xs := ps) (n := (i : Int)) (by omega) (by omega)
            replace hpp : ps[i]? = some p := hpp
            obtain ⟨_, _, _, _, hle, _, hlo⟩ := (ok.1.2 i p hpp).1.1
            have hpb := plo_bd (ok.1.2 i p hpp).1.1 ok.2.1 ok.2.2
            have hpe : plo p wa gr = dr (p.lo * p.le * (wa - gr)) 100000 := rfl
            have hpa := pab_eq (wa := wa) (gr := gr) hpp
            have hst := lsA_s (ps := ps) (wa := wa) (gr := gr) (i := i)
            have hbd := lsA_bd ok.1 ok.2.1 ok.2.2 i
            have hab := lsA_bd ok.1 ok.2.1 ok.2.2 ps.length
            have h20 := ok.1.1.2.2
            refine ev_nil (hK17 _ ?_); clear hK17
            refine good_condT rfl ?_
            refine good_skip (hK16 _ ?_); clear hK16
            refine good_seq fun K35 hK35 => ?_
            refine good_block ?_
            refine good_seq fun K36 hK36 => ?_
            refine good_draw 17 hmix (by kernel_rfl) rfl ?_
            refine qo_q rfl (q_fieldAddrP fO31_1 rfl rfl ?_)
            refine qo_q rfl (q_load tA29 rfl ?_)
            refine qo_q rfl (q_move (by conv => lhs; whnf) ?_)
            refine qo_q rfl (q_idx tE29 rfl rfl (by exact Int.natCast_nonneg _) (by exact map_get hpp) rfl ?_)
            refine qo_q rfl (q_fieldAddr fO88_5 rfl rfl ?_)
            refine qo_q rfl (q_load tA2 rfl ?_)
            refine qo_q rfl (q_fieldAddrP fO31_1 rfl rfl ?_)
            refine qo_q rfl (q_load tA29 rfl ?_)
            refine qo_q rfl (q_move (by conv => lhs; whnf) ?_)
            refine qo_q rfl (q_idx tE29 rfl rfl (by exact Int.natCast_nonneg _) (by exact map_get hpp) rfl ?_)
            refine qo_q rfl (q_fieldAddr fO88_3 rfl rfl ?_)
            refine qo_q rfl (q_load tA2 rfl ?_)
            refine qo_q rfl (q_move (by conv => lhs; whnf) ?_)
            refine qo_q rfl (q_move (by conv => lhs; whnf) ?_)
            refine qo_q rfl (q_callI rfl rfl (rfl) (D_spec_l10Loses _ _ _ _ (by omega) (by omega) (by omega) (by omega)) ?_)
            intro n37 hn37
            refine qo_q rfl (q_callI rfl rfl (rfl) (D_spec_l03Abs _ (by omega)) ?_)
            intro n38 hn38
            refine qo_q rfl (q_assign (by conv => lhs; whnf) ?_)
            refine qo_nil ?_
            refine ev_nil (hK36 _ ?_); clear hK36
            refine good_seq fun K39 hK39 => ?_
            refine good_region rfl ?_
            refine ev_q rfl (q_move (by conv => lhs; whnf) ?_)
            refine ev_q rfl (q_move (by conv => lhs; whnf) ?_)
            refine ev_k rfl (k_lit tE22 zA2 rfl rfl (by decide) (by decide) rfl rfl rfl ?_)
            refine ev_k rfl (k_app tApp22 rfl rfl (by simp [lsB_len, lsL_len]) rfl (.inr rfl) (by simp [lsB_len, lsL_len, maxLen]; omega) (by simp [lsB_len, lsL_len]; omega) ?_)
            refine ev_q rfl (q_assign (by conv => lhs; whnf) ?_)
            refine ev_nil (hK39 _ ?_); clear hK39
            refine good_region rfl ?_
            refine ev_q rfl (q_move (by conv => lhs; whnf) ?_)
            refine ev_q rfl (q_move (by conv => lhs; whnf) ?_)
            refine ev_q rfl (q_int rfl rfl ?_)
            intro n40 hn40
            replace hn40 := in64 hn40 (by omega) (by omega)
            refine ev_q rfl (q_assign (by conv => lhs; whnf) ?_)
            refine ev_nil (hK35 _ ?_); clear hK35
            refine good_region rfl ?_
            refine ev_q rfl (q_move (by conv => lhs; whnf) ?_)
            refine ev_q rfl (q_int rfl rfl ?_)
            intro n41 hn41
            replace hn41 := in64 hn41 (by omega) (by omega)
            refine ev_q rfl (q_assign (by conv => lhs; whnf) ?_)
            refine ev_nil ?_
            clear hK14
            refine ⟨i + 1, ?_, ?_, ?_⟩
            · show _ ≤ _; omega
            · first | omega | (simp only []; omega) | (dsimp only; omega)
            · refine sub_weak ?_ ?_
              · exact weakH_box (boxEq (rfl)) rfl (weakH_row (rowEq (appE2 lsB_s (by omega))) (weakH_none _))
              · refine weakE_upd ?e10 ?r10 (weakE_upd ?e9 ?r9 (weakE_upd ?e8 ?r8 (weakE_upd ?e3 ?r3 (weakE_upd ?e2 ?r2 (weakE_upd ?e1 ?r1 (weakE_junk _ _))))))
                case e1 => first | rfl | exact fI (by omega) | (simp_all)
                case r1 => intro h hh; cases hh
                case e2 => first | rfl | exact fI (by omega) | (simp_all)
                case r2 => intro h hh; cases hh
                case e3 => first | rfl | exact fI (by omega) | (simp_all)
                case r3 => intro h hh; simp [refs] at hh; subst hh; rfl
                case e8 => first | rfl | exact fI (by omega) | (first | rfl | exact ownEq (by simp [lsB_len]))
                case r8 => intro h hh; simp [refs] at hh; subst hh; rfl
                case e9 => first | rfl | exact fI (by omega) | (first | rfl | exact fI (by omega))
                case r9 => intro h hh; cases hh
                case e10 => first | rfl | exact fI (by omega) | (simp_all)
                case r10 => intro h hh; cases hh
theorem D_spec_LossShares (ns : List Int) (ps : List Pi) (wa gr : Int) (hn : ns.length ≤ 17592186044416) (hp : ps.length ≤ 2513169434843) (hz : idSz ps) : Den Try.prog 21 [.agg [.lst 1 (ns.map ci), .lst 6 (ps.map piA)], .s (.int .i64 wa), .s (.int .i64 gr)] (.tup [.lst 1 ((lsR ns ps wa gr).map ci), .s (.int .i64 (lsC ns ps wa gr))]) :=
  den_of_denX (D_spec_LossShares_X ns ps wa gr hn hp hz) (by change (some (.tup [.lst 1 (List.take (lsR ns ps wa gr).length ((lsR ns ps wa gr).map ci)), .s (.int .i64 (lsC ns ps wa gr))]) : Option AV) = some (.tup [.lst 1 ((lsR ns ps wa gr).map ci), .s (.int .i64 (lsC ns ps wa gr))]); simp only [takeMap])

-- impl.LossShares
set_option maxRecDepth 20000 in
set_option maxHeartbeats 2000000 in
theorem D_impl_LossShares_X (ns : List Int) (ps : List Pi) (wa gr : Int) (hn : ns.length ≤ 17592186044416) (hp : ps.length ≤ 2513169434843) (hz : idSz ps) : DenX Try.prog 22 [] [.agg [.lst 1 (ns.map ci), .lst 6 (ps.map piA)], .s (.int .i64 wa), .s (.int .i64 gr)] [(45, .row 2 1 ((lsR ns ps wa gr).map ci))] (.tup [.own 45 (lsR ns ps wa gr).length, .s (.int .i64 (lsC ns ps wa gr))]) := by
  refine denX_of_good Try.func22 (by decide) rfl (Nat.le_of_ble_eq_true rfl) (Nat.le_of_ble_eq_true rfl) rfl ?_
  refine good_seq fun K1 hK1 => ?_
  refine good_region rfl ?_
  refine ev_k rfl (k_box (by conv => lhs; whnf) rfl rfl rfl ?_)
  refine ev_q rfl (q_assign (by conv => lhs; whnf) ?_)
  refine ev_q rfl (q_assign (by conv => lhs; whnf) ?_)
  refine ev_nil (hK1 _ ?_); clear hK1
  refine good_seq fun K2 hK2 => ?_
  refine good_block ?_
  refine good_seq fun K3 hK3 => ?_
  refine good_region rfl ?_
  refine ev_q rfl (q_loadA tA31 rfl rfl rfl ?_)
  refine ev_q rfl (q_callB rfl rfl (rfl) (D_impl_ValidNetwork ns ps hn hp hz) ?_)
  intro b4 hb4; cases b4
  · first | replace hb4 := dF hb4 | skip
    refine ev_q rfl (q_not rfl rfl ?_)
    refine ev_q rfl (q_assign (by conv => lhs; whnf) ?_)
    refine ev_nil (hK3 _ ?_); clear hK3
    refine good_condT rfl ?_
    refine good_seq fun K5 hK5 => ?_
    refine good_region rfl ?_
    refine ev_q rfl (q_assign (by conv => lhs; whnf) ?_)
    refine ev_q rfl (q_assign (by conv => lhs; whnf) ?_)
    refine ev_nil (hK5 _ ?_); clear hK5
    refine good_ret ?_
    repeat (first | refine thenQ_ret ?_ | refine blockQ_ret ?_)
    refine fx_many rfl ?_
    refine fxs_tmp (by conv => lhs; whnf) ?_
    refine fxs_tmp (by conv => lhs; whnf) ?_
    refine fx_nil ?_
    clear hK2
    first | (have e : lsR ns ps wa gr = lsL ps wa gr ps.length := lsR_ok ec; have el : (lsR ns ps wa gr).length = ps.length := (by rw [e, lsL_len])) | (have e : lsR ns ps wa gr = [] := lsR_no (by unfold lsC; grind))
    exact ⟨_, .tup (.cons (conv_nil rfl (by decide) (by rw [e]; rfl)) (.cons (conv_eq (by first | rfl | exact fI (by first | omega | (unfold lsC; grind) | grind) | (exfalso; first | omega | grind))) (.nil))), weakH_row (rowEq (by first | (rw [e]; rfl) | (rw [e]; have e3 := fillE (f := ci) (z := ci 0) (xs := lsL ps wa gr ps.length) (i := i) (by rw [lsL_len]; omega) rfl; rw [takeLen (by simp [fillC, lsL_len]; omega)] at e3; exact e3))) (weakH_none _), refsIn_ok rfl⟩
  · first | replace hb4 := dT hb4 | skip
    refine ev_q rfl (q_not rfl rfl ?_)
    refine ev_q rfl (q_assign (by conv => lhs; whnf) ?_)
    refine ev_nil (hK3 _ ?_); clear hK3
    refine good_condF rfl ?_
    refine good_seq fun K6 hK6 => ?_
    refine good_region rfl ?_
    refine ev_q rfl (q_move (by conv => lhs; whnf) ?_)
    refine ev_q rfl (q_callB rfl rfl (rfl) (D_impl_degreesOk ..) ?_)
    intro b7 hb7; cases b7
    · first | replace hb7 := dF hb7 | skip
      refine ev_q rfl (q_not rfl rfl ?_)
      refine ev_q rfl (q_move (by conv => lhs; whnf) ?_)
      refine ev_skip rfl ?_
      refine ev_skip rfl ?_
      refine ev_skip rfl ?_
      refine ev_q rfl (q_pickT rfl (by conv => lhs; whnf) ?_)
      refine ev_q rfl (q_assign (by conv => lhs; whnf) ?_)
      refine ev_nil (hK6 _ ?_); clear hK6
      refine good_condT rfl ?_
      refine good_seq fun K8 hK8 => ?_
      refine good_region rfl ?_
      refine ev_q rfl (q_assign (by conv => lhs; whnf) ?_)
      refine ev_q rfl (q_assign (by conv => lhs; whnf) ?_)
      refine ev_nil (hK8 _ ?_); clear hK8
      refine good_ret ?_
      repeat (first | refine thenQ_ret ?_ | refine blockQ_ret ?_)
      refine fx_many rfl ?_
      refine fxs_tmp (by conv => lhs; whnf) ?_
      refine fxs_tmp (by conv => lhs; whnf) ?_
      refine fx_nil ?_
      clear hK2
      first | (have e : lsR ns ps wa gr = lsL ps wa gr ps.length := lsR_ok ec; have el : (lsR ns ps wa gr).length = ps.length := (by rw [e, lsL_len])) | (have e : lsR ns ps wa gr = [] := lsR_no (by unfold lsC; grind))
      exact ⟨_, .tup (.cons (conv_nil rfl (by decide) (by rw [e]; rfl)) (.cons (conv_eq (by first | rfl | exact fI (by first | omega | (unfold lsC; grind) | grind) | (exfalso; first | omega | grind))) (.nil))), weakH_row (rowEq (by first | (rw [e]; rfl) | (rw [e]; have e3 := fillE (f := ci) (z := ci 0) (xs := lsL ps wa gr ps.length) (i := i) (by rw [lsL_len]; omega) rfl; rw [takeLen (by simp [fillC, lsL_len]; omega)] at e3; exact e3))) (weakH_none _), refsIn_ok rfl⟩
    · first | replace hb7 := dT hb7 | skip
      refine ev_q rfl (q_not rfl rfl ?_)
      refine ev_q rfl (q_move (by conv => lhs; whnf) ?_)
      refine ev_q rfl (q_move (by conv => lhs; whnf) ?_)
      refine ev_q rfl (q_callB rfl rfl (rfl) (D_impl_degreesOk ..) ?_)
      intro b9 hb9; cases b9
      · first | replace hb9 := dF hb9 | skip
        refine ev_q rfl (q_not rfl rfl ?_)
        refine ev_q rfl (q_pickF rfl (by conv => lhs; whnf) ?_)
        refine ev_q rfl (q_assign (by conv => lhs; whnf) ?_)
        refine ev_nil (hK6 _ ?_); clear hK6
        refine good_condT rfl ?_
        refine good_seq fun K10 hK10 => ?_
        refine good_region rfl ?_
        refine ev_q rfl (q_assign (by conv => lhs; whnf) ?_)
        refine ev_q rfl (q_assign (by conv => lhs; whnf) ?_)
        refine ev_nil (hK10 _ ?_); clear hK10
        refine good_ret ?_
        repeat (first | refine thenQ_ret ?_ | refine blockQ_ret ?_)
        refine fx_many rfl ?_
        refine fxs_tmp (by conv => lhs; whnf) ?_
        refine fxs_tmp (by conv => lhs; whnf) ?_
        refine fx_nil ?_
        clear hK2
        first | (have e : lsR ns ps wa gr = lsL ps wa gr ps.length := lsR_ok ec; have el : (lsR ns ps wa gr).length = ps.length := (by rw [e, lsL_len])) | (have e : lsR ns ps wa gr = [] := lsR_no (by unfold lsC; grind))
        exact ⟨_, .tup (.cons (conv_nil rfl (by decide) (by rw [e]; rfl)) (.cons (conv_eq (by first | rfl | exact fI (by first | omega | (unfold lsC; grind) | grind) | (exfalso; first | omega | grind))) (.nil))), weakH_row (rowEq (by first | (rw [e]; rfl) | (rw [e]; have e3 := fillE (f := ci) (z := ci 0) (xs := lsL ps wa gr ps.length) (i := i) (by rw [lsL_len]; omega) rfl; rw [takeLen (by simp [fillC, lsL_len]; omega)] at e3; exact e3))) (weakH_none _), refsIn_ok rfl⟩
      · first | replace hb9 := dT hb9 | skip
        refine ev_q rfl (q_not rfl rfl ?_)
        refine ev_q rfl (q_pickF rfl (by conv => lhs; whnf) ?_)
        refine ev_q rfl (q_assign (by conv => lhs; whnf) ?_)
        refine ev_nil (hK6 _ ?_); clear hK6
        refine good_condF rfl ?_
        refine good_skip (hK2 _ ?_); clear hK2
        refine good_seq fun K11 hK11 => ?_
        refine good_region rfl ?_
        refine ev_q rfl (q_assign (by conv => lhs; whnf) ?_)
        refine ev_nil (hK11 _ ?_); clear hK11
        refine good_seq fun K12 hK12 => ?_
        refine good_seq fun K13 hK13 => ?_
        refine good_region rfl ?_
        have ec : lsC ns ps wa gr = 0 := by unfold lsC; rw [if_pos (by assumption), if_pos (by omega)]
        have ok := lsC_ok ec
        refine ev_q rfl (q_fieldAddrP fO31_1 rfl rfl ?_)
        refine ev_q rfl (q_load tA29 rfl ?_)
        refine ev_q rfl (q_len tEs29 rfl ?_)
        intro n14 hn14
        try simp only [List.length_map] at hn14
        refine ev_q rfl (q_move (by conv => lhs; whnf) ?_)
        refine ev_nil (hK13 _ ?_); clear hK13
        refine good_block ?_
        refine good_loop (α := Nat) (fun i => { env := upd (upd (upd (upd (upd (upd (upd ((fun _ => .junk)) 1 (.s (.int .i64 wa))) 2 (.s (.int .i64 gr))) 3 (.ptr 3 0)) 8 (.s (.int .i64 (lsA ps wa gr i)))) 28 (.lst 6 (ps.map piA))) 29 (.s (.int .i64 ((ps.length : Int))))) 30 (.s (.int .i64 i)), H := upd ((fun _ => none)) 3 (some (.box 31 [.lst 1 (ns.map ci), .lst 6 (ps.map piA)])) }) (fun i => i ≤ ps.length) (fun i => ps.length - i) 0 ?_ ?_ ?_
        · show 0 ≤ _; omega
        · refine sub_weak ?_ ?_
          · exact weakH_box (boxEq (rfl)) rfl (weakH_none _)
          · refine weakE_upd ?e30 ?r30 (weakE_upd ?e29 ?r29 (weakE_upd ?e28 ?r28 (weakE_upd ?e8 ?r8 (weakE_upd ?e3 ?r3 (weakE_upd ?e2 ?r2 (weakE_upd ?e1 ?r1 (weakE_junk _ _)))))))
            case e1 => first | rfl | exact fI (by omega) | (simp_all)
            case r1 => intro h hh; cases hh
            case e2 => first | rfl | exact fI (by omega) | (simp_all)
            case r2 => intro h hh; cases hh
            case e3 => first | rfl | exact fI (by omega) | (simp_all)
            case r3 => intro h hh; simp [refs] at hh; subst hh; rfl
            case e8 => first | rfl | exact fI (by omega) | (first | rfl | exact fI (by omega))
            case r8 => intro h hh; cases hh
            case e28 => first | rfl | exact fI (by omega) | (simp_all)
            case r28 => intro h hh; cases hh
            case e29 => first | rfl | exact fI (by omega) | (simp_all)
            case r29 => intro h hh; cases hh
            case e30 => first | rfl | exact fI (by omega) | (simp_all)
            case r30 => intro h hh; cases hh
        · rintro i hI
          refine good_seq fun K15 hK15 => ?_
          refine good_region rfl ?_
          refine ev_q rfl (q_int rfl rfl ?_)
          intro b16 hb16; cases b16
          · replace hb16 := dF hb16
            refine ev_nil (hK15 _ ?_); clear hK15
            refine good_seq fun K17 hK17 => ?_
            refine good_condF rfl ?_
            refine good_exit ?_
            repeat (first | refine thenQ_exit ?_ | refine blockQ_pass rfl ?_)
            refine blockQ_exit (hK12 _ ?_); clear hK12
            refine good_seq fun K18 hK18 => ?_
            refine good_region rfl ?_
            refine ev_q rfl (q_fieldAddrP fO31_1 rfl rfl ?_)
            refine ev_q rfl (q_load tA29 rfl ?_)
            refine ev_q rfl (q_len tEs29 rfl ?_)
            intro n19 hn19
            try simp only [List.length_map] at hn19
            refine ev_k rfl (k_make tE22 rfl rfl zA2 tBy2 rfl (by omega) (by omega) (by omega) rfl (by show _ = ps.length; omega) ?_)
            refine ev_q rfl (q_assign (by conv => lhs; whnf) ?_)
            refine ev_nil (hK18 _ ?_); clear hK18
            refine good_seq fun K20 hK20 => ?_
            refine good_seq fun K21 hK21 => ?_
            refine good_region rfl ?_
            refine ev_q rfl (q_fieldAddrP fO31_1 rfl rfl ?_)
            refine ev_q rfl (q_load tA29 rfl ?_)
            refine ev_q rfl (q_len tEs29 rfl ?_)
            intro n22 hn22
            try simp only [List.length_map] at hn22
            refine ev_q rfl (q_move (by conv => lhs; whnf) ?_)
            refine ev_nil (hK21 _ ?_); clear hK21
            refine good_block ?_
            refine good_loop (α := Nat) (fun i => { env := upd (upd (upd (upd (upd (upd (upd ((fun _ => .junk)) 1 (.s (.int .i64 wa))) 2 (.s (.int .i64 gr))) 8 (.s (.int .i64 (lsA ps wa gr ps.length)))) 11 (.own 45 ps.length)) 47 (.lst 6 (ps.map piA))) 48 (.s (.int .i64 ((ps.length : Int))))) 49 (.s (.int .i64 i)), H := upd ((fun _ => none)) 45 (some (.row 2 1 (fillC ci (ci 0) (lsL ps wa gr ps.length) i))) }) (fun i => i ≤ ps.length) (fun i => ps.length - i) 0 ?_ ?_ ?_
            · show 0 ≤ _; omega
            · refine sub_weak ?_ ?_
              · exact weakH_row (rowEq (fill0 (by first | (rw [lsL_len]; done) | (rw [lsL_len]; omega)))) (weakH_none _)
              · refine weakE_upd ?e49 ?r49 (weakE_upd ?e48 ?r48 (weakE_upd ?e47 ?r47 (weakE_upd ?e11 ?r11 (weakE_upd ?e8 ?r8 (weakE_upd ?e2 ?r2 (weakE_upd ?e1 ?r1 (weakE_junk _ _)))))))
                case e1 => first | rfl | exact fI (by omega) | (simp_all)
                case r1 => intro h hh; cases hh
                case e2 => first | rfl | exact fI (by omega) | (simp_all)
                case r2 => intro h hh; cases hh
                case e8 => first | rfl | exact fI (by omega) | (first | rfl | exact fI (by rw [show ps.length = i by omega]) | exact fI (by omega))
                case r8 => intro h hh; cases hh
                case e11 => first | rfl | exact fI (by omega) | (simp_all)
                case r11 => intro h hh; simp [refs] at hh; subst hh; rfl
                case e47 => first | rfl | exact fI (by omega) | (simp_all)
                case r47 => intro h hh; cases hh
                case e48 => first | rfl | exact fI (by omega) | (simp_all)
                case r48 => intro h hh; cases hh
                case e49 => first | rfl | exact fI (by omega) | (simp_all)
                case r49 => intro h hh; cases hh
            · rintro i hI
              refine good_seq fun K23 hK23 => ?_
              refine good_region rfl ?_
              refine ev_q rfl (q_int rfl rfl ?_)
              intro b24 hb24; cases b24
              · replace hb24 := dF hb24
                refine ev_nil (hK23 _ ?_); clear hK23
                refine good_seq fun K25 hK25 => ?_
                refine good_condF rfl ?_
                refine good_exit ?_
                repeat (first | refine thenQ_exit ?_ | refine blockQ_pass rfl ?_)
                refine blockQ_exit (hK20 _ ?_); clear hK20
                refine good_seq fun K26 hK26 => ?_
                refine good_region rfl ?_
                refine ev_q rfl (q_move (by conv => lhs; whnf) ?_)
                refine ev_q rfl (q_assign (by conv => lhs; whnf) ?_)
                refine ev_q rfl (q_assign (by conv => lhs; whnf) ?_)
                refine ev_nil (hK26 _ ?_); clear hK26
                refine good_ret ?_
                repeat (first | refine thenQ_ret ?_ | refine blockQ_ret ?_)
                refine fx_many rfl ?_
                refine fxs_tmp (by conv => lhs; whnf) ?_
                refine fxs_tmp (by conv => lhs; whnf) ?_
                refine fx_nil ?_
                clear hK17 hK25
                first | (have e : lsR ns ps wa gr = lsL ps wa gr ps.length := lsR_ok ec; have el : (lsR ns ps wa gr).length = ps.length := (by rw [e, lsL_len])) | (have e : lsR ns ps wa gr = [] := lsR_no (by unfold lsC; grind))
                exact ⟨_, .tup (.cons (conv_eq (by first | rfl | (rw [e]; done) | (rw [e]; rfl) | exact ownEq (by first | omega | simp_all))) (.cons (conv_eq (by first | rfl | exact fI (by first | omega | (unfold lsC; grind) | grind) | (exfalso; first | omega | grind))) (.nil))), weakH_row (rowEq (by first | (rw [e]; rfl) | (rw [e]; have e3 := fillE (f := ci) (z := ci 0) (xs := lsL ps wa gr ps.length) (i := i) (by rw [lsL_len]; omega) rfl; rw [takeLen (by simp [fillC, lsL_len]; omega)] at e3; exact e3))) (weakH_none _), refsIn_ok rfl⟩
              · replace hb24 := dT hb24
                obtain ⟨p, hpp⟩ := getL (xs := ps) (n := (i : Int)) (by omega) (by omega)
                replace hpp : ps[i]? = some p := hpp
                obtain ⟨_, _, _, _, hle, _, hlo⟩ := (ok.1.2 i p hpp).1.1
                have hpb := plo_bd (ok.1.2 i p hpp).1.1 ok.2.1 ok.2.2
                have hpe : plo p wa gr = dr (p.lo * p.le * (wa - gr)) 100000 := rfl
                have hpa := pab_eq (wa := wa) (gr := gr) hpp
                have hst := lsA_s (ps := ps) (wa := wa) (gr := gr) (i := i)
                have hbd := lsA_bd ok.1 ok.2.1 ok.2.2 i
                have hab := lsA_bd ok.1 ok.2.1 ok.2.2 ps.length
                have h20 := ok.1.1.2.2
                refine ev_nil (hK23 _ ?_); clear hK23
                refine good_seq fun K27 hK27 => ?_
                refine good_condT rfl ?_
                refine good_skip (hK27 _ ?_); clear hK27
                refine good_seq fun K28 hK28 => ?_
                refine good_block ?_
                refine good_seq fun K29 hK29 => ?_
                refine good_region rfl ?_
                refine ev_q rfl (q_move (by conv => lhs; whnf) ?_)
                refine ev_q rfl (q_idx tE29 rfl rfl (by exact Int.natCast_nonneg _) (by exact map_get hpp) rfl ?_)
                refine ev_q rfl (q_loadA tA88 rfl rfl rfl ?_)
                refine ev_k rfl (k_alloc zA88 rfl ?_)
                refine ev_q rfl (q_assign (by conv => lhs; whnf) ?_)
                refine ev_k rfl (k_store sz88 rfl (by conv => lhs; whnf) rfl rfl rfl (Nat.le_of_ble_eq_true rfl) rfl ?_)
                refine ev_nil (hK29 _ ?_); clear hK29
                refine good_seq fun K30 hK30 => ?_
                refine good_region rfl ?_
                refine ev_q rfl (q_move (by conv => lhs; whnf) ?_)
                refine ev_q rfl (q_int rfl rfl ?_)
                intro b31 hb31; cases b31
                · replace hb31 := dF hb31
                  have hsh : lsh ps wa gr i = 0 := if_pos (by omega)
                  refine ev_nil (hK30 _ ?_); clear hK30
                  refine good_condF rfl ?_
                  refine good_skip (hK28 _ ?_); clear hK28
                  refine good_region rfl ?_
                  refine ev_q rfl (q_int rfl rfl ?_)
                  intro n32 hn32
                  replace hn32 := in64 hn32 (by omega) (by omega)
                  refine ev_q rfl (q_move (by conv => lhs; whnf) ?_)
                  refine ev_nil ?_
                  clear hK17 hK20
                  refine ⟨i + 1, ?_, ?_, ?_⟩
                  · show _ ≤ _; omega
                  · first | omega | (simp only []; omega) | (dsimp only; omega)
                  · refine sub_weak ?_ ?_
                    · exact weakH_row (rowEq (by first | exact fillS (lsL_get (n := ps.length) (j := i) (by omega)) (by rw [hsh]; exact fI (k := .i64) (by omega)) | exact fillN (lsL_get (n := ps.length) (j := i) (by omega)) (by rw [hsh]))) (weakH_none _)
                    · refine weakE_upd ?e49 ?r49 (weakE_upd ?e48 ?r48 (weakE_upd ?e47 ?r47 (weakE_upd ?e11 ?r11 (weakE_upd ?e8 ?r8 (weakE_upd ?e2 ?r2 (weakE_upd ?e1 ?r1 (weakE_junk _ _)))))))
                      case e1 => first | rfl | exact fI (by omega) | (simp_all)
                      case r1 => intro h hh; cases hh
                      case e2 => first | rfl | exact fI (by omega) | (simp_all)
                      case r2 => intro h hh; cases hh
                      case e8 => first | rfl | exact fI (by omega) | (first | rfl | exact fI (by rw [show ps.length = i by omega]) | exact fI (by omega))
                      case r8 => intro h hh; cases hh
                      case e11 => first | rfl | exact fI (by omega) | (simp_all)
                      case r11 => intro h hh; simp [refs] at hh; subst hh; rfl
                      case e47 => first | rfl | exact fI (by omega) | (simp_all)
                      case r47 => intro h hh; cases hh
                      case e48 => first | rfl | exact fI (by omega) | (simp_all)
                      case r48 => intro h hh; cases hh
                      case e49 => first | rfl | exact fI (by omega) | (simp_all)
                      case r49 => intro h hh; cases hh
                · replace hb31 := dT hb31
                  have hsh : lsh ps wa gr i = dr (1000 * pab ps wa gr i) (lsA ps wa gr ps.length) := if_neg (by omega)
                  refine ev_nil (hK30 _ ?_); clear hK30
                  refine good_condT rfl ?_
                  refine good_region rfl ?_
                  refine ev_q rfl (q_move (by conv => lhs; whnf) ?_)
                  refine ev_q rfl (q_move (by conv => lhs; whnf) ?_)
                  refine ev_q rfl (q_loadA tA88 rfl rfl rfl ?_)
                  refine ev_q rfl (q_move (by conv => lhs; whnf) ?_)
                  refine ev_q rfl (q_move (by conv => lhs; whnf) ?_)
                  refine ev_q rfl (q_callI rfl rfl (rfl) (D_impl_Pipe_loss _ _ _ _ _ _ _ _ (by omega) (by omega) (by omega) (by omega)) ?_)
                  intro n33 hn33
                  refine ev_q rfl (q_callI rfl rfl (rfl) (D_impl_abs _ (by omega)) ?_)
                  intro n34 hn34
                  refine ev_q rfl (q_int rfl rfl ?_)
                  intro n35 hn35
                  replace hn35 := in64 hn35 (by omega) (by omega)
                  refine ev_q rfl (q_move (by conv => lhs; whnf) ?_)
                  refine ev_q rfl (q_callI rfl rfl (rfl) (D_impl_divRound _ _ (by omega) (by omega)) ?_)
                  intro n36 hn36
                  have e63 : n35 = 1000 * pab ps wa gr i := by omega
                  rw [e63] at hn36
                  refine ev_q rfl (q_idxO tE22 rfl rfl rfl (by exact Int.natCast_nonneg _) (by omega) rfl ?_)
                  refine ev_k rfl (k_storeE sz2 rfl (by conv => lhs; whnf) rfl rfl rfl (Nat.le_of_ble_eq_true rfl) rfl (by first | exact fillG (by rw [lsL_len]; omega)) (Nat.le_of_ble_eq_true rfl) rfl ?_)
                  refine ev_nil (hK28 _ ?_); clear hK28
                  refine good_region rfl ?_
                  refine ev_q rfl (q_int rfl rfl ?_)
                  intro n37 hn37
                  replace hn37 := in64 hn37 (by omega) (by omega)
                  refine ev_q rfl (q_move (by conv => lhs; whnf) ?_)
                  refine ev_nil ?_
                  clear hK17 hK20
                  refine ⟨i + 1, ?_, ?_, ?_⟩
                  · show _ ≤ _; omega
                  · first | omega | (simp only []; omega) | (dsimp only; omega)
                  · refine sub_weak ?_ ?_
                    · exact weakH_row (rowEq (by first | exact fillS (lsL_get (n := ps.length) (j := i) (by omega)) (by rw [hsh]; exact fI (k := .i64) (by omega)) | exact fillN (lsL_get (n := ps.length) (j := i) (by omega)) (by rw [hsh]))) (weakH_none _)
                    · refine weakE_upd ?e49 ?r49 (weakE_upd ?e48 ?r48 (weakE_upd ?e47 ?r47 (weakE_upd ?e11 ?r11 (weakE_upd ?e8 ?r8 (weakE_upd ?e2 ?r2 (weakE_upd ?e1 ?r1 (weakE_junk _ _)))))))
                      case e1 => first | rfl | exact fI (by omega) | (simp_all)
                      case r1 => intro h hh; cases hh
                      case e2 => first | rfl | exact fI (by omega) | (simp_all)
                      case r2 => intro h hh; cases hh
                      case e8 => first | rfl | exact fI (by omega) | (first | rfl | exact fI (by rw [show ps.length = i by omega]) | exact fI (by omega))
                      case r8 => intro h hh; cases hh
                      case e11 => first | rfl | exact fI (by omega) | (simp_all)
                      case r11 => intro h hh; simp [refs] at hh; subst hh; rfl
                      case e47 => first | rfl | exact fI (by omega) | (simp_all)
                      case r47 => intro h hh; cases hh
                      case e48 => first | rfl | exact fI (by omega) | (simp_all)
                      case r48 => intro h hh; cases hh
                      case e49 => first | rfl | exact fI (by omega) | (simp_all)
                      case r49 => intro h hh; cases hh
          · replace hb16 := dT hb16
            obtain ⟨p, hpp⟩ := getL (xs := ps) (n := (i : Int)) (by omega) (by omega)
            replace hpp : ps[i]? = some p := hpp
            obtain ⟨_, _, _, _, hle, _, hlo⟩ := (ok.1.2 i p hpp).1.1
            have hpb := plo_bd (ok.1.2 i p hpp).1.1 ok.2.1 ok.2.2
            have hpe : plo p wa gr = dr (p.lo * p.le * (wa - gr)) 100000 := rfl
            have hpa := pab_eq (wa := wa) (gr := gr) hpp
            have hst := lsA_s (ps := ps) (wa := wa) (gr := gr) (i := i)
            have hbd := lsA_bd ok.1 ok.2.1 ok.2.2 i
            have hab := lsA_bd ok.1 ok.2.1 ok.2.2 ps.length
            have h20 := ok.1.1.2.2
            refine ev_nil (hK15 _ ?_); clear hK15
            refine good_seq fun K38 hK38 => ?_
            refine good_condT rfl ?_
            refine good_skip (hK38 _ ?_); clear hK38
            refine good_seq fun K39 hK39 => ?_
            refine good_block ?_
            refine good_seq fun K40 hK40 => ?_
            refine good_region rfl ?_
            refine ev_q rfl (q_idx tE29 rfl rfl (by exact Int.natCast_nonneg _) (by exact map_get hpp) rfl ?_)
            refine ev_q rfl (q_loadA tA88 rfl rfl rfl ?_)
            refine ev_k rfl (k_alloc zA88 rfl ?_)
            refine ev_k rfl (k_store sz88 rfl (by conv => lhs; whnf) rfl rfl rfl (Nat.le_of_ble_eq_true rfl) rfl ?_)
            refine ev_nil (hK40 _ ?_); clear hK40
            refine good_region rfl ?_
            refine ev_q rfl (q_move (by conv => lhs; whnf) ?_)
            refine ev_q rfl (q_loadA tA88 rfl rfl rfl ?_)
            refine ev_q rfl (q_move (by conv => lhs; whnf) ?_)
            refine ev_q rfl (q_move (by conv => lhs; whnf) ?_)
            refine ev_q rfl (q_callI rfl rfl (rfl) (D_impl_Pipe_loss _ _ _ _ _ _ _ _ (by omega) (by omega) (by omega) (by omega)) ?_)
            intro n41 hn41
            refine ev_q rfl (q_callI rfl rfl (rfl) (D_impl_abs _ (by omega)) ?_)
            intro n42 hn42
            refine ev_q rfl (q_int rfl rfl ?_)
            intro n43 hn43
            replace hn43 := in64 hn43 (by omega) (by omega)
            refine ev_q rfl (q_assign (by conv => lhs; whnf) ?_)
            refine ev_nil (hK39 _ ?_); clear hK39
            refine good_region rfl ?_
            refine ev_q rfl (q_int rfl rfl ?_)
            intro n44 hn44
            replace hn44 := in64 hn44 (by omega) (by omega)
            refine ev_q rfl (q_move (by conv => lhs; whnf) ?_)
            refine ev_nil ?_
            clear hK12
            refine ⟨i + 1, ?_, ?_, ?_⟩
            · show _ ≤ _; omega
            · first | omega | (simp only []; omega) | (dsimp only; omega)
            · refine sub_weak ?_ ?_
              · exact weakH_box (boxEq (rfl)) rfl (weakH_none _)
              · refine weakE_upd ?e30 ?r30 (weakE_upd ?e29 ?r29 (weakE_upd ?e28 ?r28 (weakE_upd ?e8 ?r8 (weakE_upd ?e3 ?r3 (weakE_upd ?e2 ?r2 (weakE_upd ?e1 ?r1 (weakE_junk _ _)))))))
                case e1 => first | rfl | exact fI (by omega) | (simp_all)
                case r1 => intro h hh; cases hh
                case e2 => first | rfl | exact fI (by omega) | (simp_all)
                case r2 => intro h hh; cases hh
                case e3 => first | rfl | exact fI (by omega) | (simp_all)
                case r3 => intro h hh; simp [refs] at hh; subst hh; rfl
                case e8 => first | rfl | exact fI (by omega) | (first | rfl | exact fI (by omega))
                case r8 => intro h hh; cases hh
                case e28 => first | rfl | exact fI (by omega) | (simp_all)
                case r28 => intro h hh; cases hh
                case e29 => first | rfl | exact fI (by omega) | (simp_all)
                case r29 => intro h hh; cases hh
                case e30 => first | rfl | exact fI (by omega) | (simp_all)
                case r30 => intro h hh; cases hh
theorem D_impl_LossShares (ns : List Int) (ps : List Pi) (wa gr : Int) (hn : ns.length ≤ 17592186044416) (hp : ps.length ≤ 2513169434843) (hz : idSz ps) : Den Try.prog 22 [.agg [.lst 1 (ns.map ci), .lst 6 (ps.map piA)], .s (.int .i64 wa), .s (.int .i64 gr)] (.tup [.lst 1 ((lsR ns ps wa gr).map ci), .s (.int .i64 (lsC ns ps wa gr))]) :=
  den_of_denX (D_impl_LossShares_X ns ps wa gr hn hp hz) (by change (some (.tup [.lst 1 (List.take (lsR ns ps wa gr).length ((lsR ns ps wa gr).map ci)), .s (.int .i64 (lsC ns ps wa gr))]) : Option AV) = some (.tup [.lst 1 ((lsR ns ps wa gr).map ci), .s (.int .i64 (lsC ns ps wa gr))]); simp only [takeMap])

-- laws.FnExactLossShares
set_option maxRecDepth 20000 in
set_option maxHeartbeats 2000000 in
theorem D_laws_FnExactLossShares (ns : List Int) (ps : List Pi) (wa gr : Int) (hn : ns.length ≤ 17592186044416) (hp : ps.length ≤ 2513169434843) (hz : idSz ps) : Den Try.prog 5 [.agg [.lst 1 (ns.map ci), .lst 6 (ps.map piA)], .s (.int .i64 wa), .s (.int .i64 gr)] (.s (.bool true)) := by
  refine den_of_good Try.func5 (by decide) rfl (Nat.le_of_ble_eq_true rfl) (Nat.le_of_ble_eq_true rfl) ?_
  refine good_seq fun K1 hK1 => ?_
  refine good_region rfl ?_
  refine ev_k rfl (k_box (by conv => lhs; whnf) rfl rfl rfl ?_)
  refine ev_q rfl (q_assign (by conv => lhs; whnf) ?_)
  refine ev_nil (hK1 _ ?_); clear hK1
  refine good_seq fun K2 hK2 => ?_
  refine good_region rfl ?_
  refine ev_q rfl (q_assign (by conv => lhs; whnf) ?_)
  refine ev_nil (hK2 _ ?_); clear hK2
  refine good_seq fun K3 hK3 => ?_
  refine good_region rfl ?_
  refine ev_q rfl (q_loadA tA25 rfl rfl rfl ?_)
  refine ev_q rfl (q_move (by conv => lhs; whnf) ?_)
  refine ev_q rfl (q_callI rfl rfl (rfl) (D_laws_szNetwork ns ps _ hn hp hz (by omega)) ?_)
  intro n4 hn4
  refine ev_q rfl (q_assign (by conv => lhs; whnf) ?_)
  refine ev_nil (hK3 _ ?_); clear hK3
  refine good_seq fun K5 hK5 => ?_
  refine good_seq fun K6 hK6 => ?_
  refine good_region rfl ?_
  refine ev_q rfl (q_move (by conv => lhs; whnf) ?_)
  refine ev_q rfl (q_int rfl rfl ?_)
  intro b7 hb7; cases b7
  · replace hb7 := dF hb7
    refine ev_nil (hK6 _ ?_); clear hK6
    refine good_condF rfl ?_
    refine good_skip (hK5 _ ?_); clear hK5
    refine good_seq fun K8 hK8 => ?_
    refine good_region rfl ?_
    refine ev_q rfl (q_loadA tA25 rfl rfl rfl ?_)
    refine ev_q rfl (q_call rfl rfl (rfl) (D_laws_toNetwork ns ps hn hp) rfl ?_)
    refine ev_q rfl (q_move (by conv => lhs; whnf) ?_)
    refine ev_q rfl (q_move (by conv => lhs; whnf) ?_)
    refine ev_q rfl (q_call rfl rfl (rfl) (D_spec_LossShares ns ps wa gr hn hp hz) rfl ?_)
    refine ev_q rfl (q_move (by conv => lhs; whnf) ?_)
    refine ev_q rfl (q_extract rfl rfl ?_)
    refine ev_q rfl (q_extractI rfl rfl ?_)
    intro n9 hn9
    refine ev_q rfl (q_assign (by conv => lhs; whnf) ?_)
    refine ev_q rfl (q_assign (by conv => lhs; whnf) ?_)
    refine ev_nil (hK8 _ ?_); clear hK8
    refine good_seq fun K10 hK10 => ?_
    refine good_region rfl ?_
    refine ev_q rfl (q_loadA tA25 rfl rfl rfl ?_)
    refine ev_k rfl (k_callX [(900001, 900000), (900002, 900001)] (D_laws_toNetwork_X ns ps hn hp) rfl (rfl) (rfl) trivial ⟨⟨rfl, show (900000 : Nat) < 1000000 by decide⟩, ⟨⟨rfl, show (900001 : Nat) < 1000000 by decide⟩, trivial⟩⟩ rfl rfl rfl ?_)
    refine ev_k rfl (k_alloc zA31 rfl ?_)
    refine ev_k rfl (k_store sz31 rfl (by conv => lhs; whnf) rfl rfl rfl (Nat.le_of_ble_eq_true rfl) rfl ?_)
    refine ev_nil (hK10 _ ?_); clear hK10
    refine good_seq fun K11 hK11 => ?_
    refine good_region rfl ?_
    refine ev_q rfl (q_loadA tA31 rfl rfl rfl ?_)
    refine ev_q rfl (q_move (by conv => lhs; whnf) ?_)
    refine ev_q rfl (q_move (by conv => lhs; whnf) ?_)
    refine ev_k rfl (k_callXc [(45, 900002)] (D_impl_LossShares_X ns ps wa gr hn hp hz) rfl (by change some ([.agg [.lst 1 (List.take (ns).length ((ns).map ci)), .lst 6 (List.take (ps).length ((ps).map piA))], .s (.int .i64 wa), .s (.int .i64 gr)] : List AV) = some _; (simp only [takeMap]) <;> rfl) (⟨rfl, ⟨pure_ci, trivial⟩⟩) trivial ⟨⟨rfl, show (900002 : Nat) < 1000000 by decide⟩, trivial⟩ rfl rfl rfl ?_)
    refine ev_q rfl (q_move (by conv => lhs; whnf) ?_)
    refine ev_q rfl (q_extract rfl rfl ?_)
    refine ev_q rfl (q_extractI rfl rfl ?_)
    intro n12 hn12
    refine ev_q rfl (q_assign (by conv => lhs; whnf) ?_)
    refine ev_q rfl (q_assign (by conv => lhs; whnf) ?_)
    refine ev_nil (hK11 _ ?_); clear hK11
    refine good_seq fun K13 hK13 => ?_
    refine good_seq fun K14 hK14 => ?_
    refine good_region rfl ?_
    refine ev_q rfl (q_move (by conv => lhs; whnf) ?_)
    refine ev_q rfl (q_move (by conv => lhs; whnf) ?_)
    refine ev_q rfl (q_callB rfl rfl (by change ([.lst 1 (List.take ((lsR ns ps wa gr)).length (((lsR ns ps wa gr)).map ci)), .lst 1 (((lsR ns ps wa gr)).map ci)] : List AV) = _; simp only [takeMap]) (D_laws_eqInt64S (lsR ns ps wa gr) (by have := lsR_len (ns := ns) (ps := ps) (wa := wa) (gr := gr); omega)) ?_)
    intro b15 hb15; cases b15
    · first | replace hb15 := dF hb15 | skip
      refine ev_q rfl (q_not rfl rfl ?_)
      refine ev_q rfl (q_move (by conv => lhs; whnf) ?_)
      refine ev_skip rfl ?_
      refine ev_skip rfl ?_
      refine ev_skip rfl ?_
      refine ev_q rfl (q_pickT rfl (by conv => lhs; whnf) ?_)
      refine ev_nil (hK14 _ ?_); clear hK14
      refine good_condT rfl ?_
      refine good_seq fun K16 hK16 => ?_
      refine good_region rfl ?_
      refine ev_q rfl (q_assign (by conv => lhs; whnf) ?_)
      refine ev_nil (hK16 _ ?_); clear hK16
      refine good_ret ?_
      repeat (first | refine thenQ_ret ?_ | refine blockQ_ret ?_)
      refine ret_tmp (st := _) rfl (by conv => lhs; whnf) rfl ?_
      clear hK13
      first | rfl | (exfalso; first | omega | contradiction | grind)
    · first | replace hb15 := dT hb15 | skip
      refine ev_q rfl (q_not rfl rfl ?_)
      refine ev_q rfl (q_move (by conv => lhs; whnf) ?_)
      refine ev_q rfl (q_move (by conv => lhs; whnf) ?_)
      refine ev_q rfl (q_move (by conv => lhs; whnf) ?_)
      refine ev_q rfl (q_int rfl rfl ?_)
      intro b17 hb17; cases b17
      · replace hb17 := neF hb17
        refine ev_q rfl (q_pickF rfl (by conv => lhs; whnf) ?_)
        refine ev_nil (hK14 _ ?_); clear hK14
        refine good_condF rfl ?_
        refine good_skip (hK13 _ ?_); clear hK13
        refine good_seq fun K18 hK18 => ?_
        refine good_seq fun K19 hK19 => ?_
        refine good_draw 5 hmix (by kernel_rfl) rfl ?_
        refine qo_q rfl (q_loadA tA31 rfl rfl rfl ?_)
        refine qo_q rfl (q_loadA tA25 rfl rfl rfl ?_)
        refine qo_q rfl (q_call rfl rfl (rfl) (D_laws_toNetwork ns ps hn hp) rfl ?_)
        refine qo_q rfl (q_callB rfl rfl (by change ([.agg [.lst 1 (List.take (ns).length ((ns).map ci)), .lst 6 (List.take (ps).length ((ps).map piA))], .agg [.lst 1 ((ns).map ci), .lst 6 ((ps).map piA)]] : List AV) = _; simp only [takeMap]) (D_laws_eqNetwork ns ps hn hp) ?_)
        intro b20 hb20; cases b20
        · first | replace hb20 := dF hb20 | skip
          refine qo_q rfl (q_not rfl rfl ?_)
          refine qo_nil ?_
          refine ev_nil (hK19 _ ?_); clear hK19
          refine good_condT rfl ?_
          refine good_seq fun K21 hK21 => ?_
          refine good_region rfl ?_
          refine ev_q rfl (q_assign (by conv => lhs; whnf) ?_)
          refine ev_nil (hK21 _ ?_); clear hK21
          refine good_ret ?_
          repeat (first | refine thenQ_ret ?_ | refine blockQ_ret ?_)
          refine ret_tmp (st := _) rfl (by conv => lhs; whnf) rfl ?_
          clear hK18
          first | rfl | (exfalso; first | omega | contradiction | grind)
        · first | replace hb20 := dT hb20 | skip
          refine qo_q rfl (q_not rfl rfl ?_)
          refine qo_nil ?_
          refine ev_nil (hK19 _ ?_); clear hK19
          refine good_condF rfl ?_
          refine good_skip (hK18 _ ?_); clear hK18
          refine good_seq fun K22 hK22 => ?_
          refine good_region rfl ?_
          refine ev_q rfl (q_assign (by conv => lhs; whnf) ?_)
          refine ev_nil (hK22 _ ?_); clear hK22
          refine good_seq fun K23 hK23 => ?_
          refine good_region rfl ?_
          refine ev_q rfl (q_loadA tA31 rfl rfl rfl ?_)
          refine ev_q rfl (q_move (by conv => lhs; whnf) ?_)
          refine ev_k rfl (k_callXI [(1000000, 900000), (1000001, 900001)] (D_laws_markNetwork ns ps _ hn hp (by omega)) rfl (rfl) (rfl) ⟨rfl, ⟨rfl, trivial⟩⟩ ⟨rfl, ⟨rfl, rfl, by first | (rw [mkC_len (Nat.le_refl _)]; simp; done) | (rw [mkP_len (Nat.le_refl _)]; simp; done)⟩, ⟨rfl, ⟨rfl, rfl, by first | (rw [mkC_len (Nat.le_refl _)]; simp; done) | (rw [mkP_len (Nat.le_refl _)]; simp; done)⟩, trivial⟩⟩ rfl rfl rfl ?_)
          intro n24 hn24
          refine ev_q rfl (q_assign (by conv => lhs; whnf) ?_)
          refine ev_nil (hK23 _ ?_); clear hK23
          refine good_seq fun K25 hK25 => ?_
          refine good_seq fun K26 hK26 => ?_
          refine good_region rfl ?_
          refine ev_q rfl (q_move (by conv => lhs; whnf) ?_)
          refine ev_q rfl (q_int rfl rfl ?_)
          intro b27 hb27; cases b27
          · replace hb27 := dF hb27
            refine ev_q rfl (q_move (by conv => lhs; whnf) ?_)
            refine ev_q rfl (q_move (by conv => lhs; whnf) ?_)
            refine ev_q rfl (q_move (by conv => lhs; whnf) ?_)
            refine ev_q rfl (q_callB rfl rfl (by change ([.lst 1 (List.take ((lsR ns ps wa gr)).length (((lsR ns ps wa gr)).map ci)), .lst 1 (((lsR ns ps wa gr)).map ci)] : List AV) = _; simp only [takeMap]) (D_laws_eqInt64S (lsR ns ps wa gr) (by have := lsR_len (ns := ns) (ps := ps) (wa := wa) (gr := gr); omega)) ?_)
            intro b28 hb28; cases b28
            · first | replace hb28 := dF hb28 | skip
              refine ev_q rfl (q_not rfl rfl ?_)
              refine ev_q rfl (q_pickF rfl (by conv => lhs; whnf) ?_)
              refine ev_q rfl (q_move (by conv => lhs; whnf) ?_)
              refine ev_skip rfl ?_
              refine ev_skip rfl ?_
              refine ev_skip rfl ?_
              refine ev_q rfl (q_pickT rfl (by conv => lhs; whnf) ?_)
              refine ev_nil (hK26 _ ?_); clear hK26
              refine good_condT rfl ?_
              refine good_seq fun K29 hK29 => ?_
              refine good_region rfl ?_
              refine ev_q rfl (q_assign (by conv => lhs; whnf) ?_)
              refine ev_nil (hK29 _ ?_); clear hK29
              refine good_ret ?_
              repeat (first | refine thenQ_ret ?_ | refine blockQ_ret ?_)
              refine ret_tmp (st := _) rfl (by conv => lhs; whnf) rfl ?_
              clear hK25
              first | rfl | (exfalso; first | omega | contradiction | grind)
            · first | replace hb28 := dT hb28 | skip
              refine ev_q rfl (q_not rfl rfl ?_)
              refine ev_q rfl (q_pickF rfl (by conv => lhs; whnf) ?_)
              refine ev_q rfl (q_move (by conv => lhs; whnf) ?_)
              refine ev_q rfl (q_move (by conv => lhs; whnf) ?_)
              refine ev_q rfl (q_move (by conv => lhs; whnf) ?_)
              refine ev_q rfl (q_int rfl rfl ?_)
              intro b30 hb30; cases b30
              · replace hb30 := neF hb30
                refine ev_q rfl (q_pickF rfl (by conv => lhs; whnf) ?_)
                refine ev_nil (hK26 _ ?_); clear hK26
                refine good_condF rfl ?_
                refine good_skip (hK25 _ ?_); clear hK25
                refine good_seq fun K31 hK31 => ?_
                refine good_region rfl ?_
                refine ev_q rfl (q_assign (by conv => lhs; whnf) ?_)
                refine ev_nil (hK31 _ ?_); clear hK31
                refine good_seq fun K32 hK32 => ?_
                refine good_region rfl ?_
                refine ev_q rfl (q_move (by conv => lhs; whnf) ?_)
                refine ev_q rfl (q_move (by conv => lhs; whnf) ?_)
                refine ev_k rfl (k_callXI [(1000000, 900002)] (D_laws_markInt64S (lsR ns ps wa gr) _ (by have := lsR_len (ns := ns) (ps := ps) (wa := wa) (gr := gr); omega) (by omega)) rfl (rfl) (rfl) ⟨rfl, trivial⟩ ⟨rfl, ⟨rfl, rfl, by rw [mkC_len (Nat.le_refl _)]; simp⟩, trivial⟩ rfl rfl rfl ?_)
                intro n33 hn33
                refine ev_q rfl (q_assign (by conv => lhs; whnf) ?_)
                refine ev_nil (hK32 _ ?_); clear hK32
                refine good_seq fun K34 hK34 => ?_
                refine good_region rfl ?_
                refine ev_q rfl (q_assign (by conv => lhs; whnf) ?_)
                refine ev_nil (hK34 _ ?_); clear hK34
                refine good_seq fun K35 hK35 => ?_
                refine good_region rfl ?_
                refine ev_q rfl (q_move (by conv => lhs; whnf) ?_)
                refine ev_q rfl (q_move (by conv => lhs; whnf) ?_)
                refine ev_q rfl (q_callI rfl rfl (by change ([.lst 1 (List.take ((lsR ns ps wa gr)).length (mkC 1 ((lsR ns ps wa gr)) ((lsR ns ps wa gr)).length)), .s (.int .i64 1)] : List AV) = _; rw [mkC_take]) (D_laws_heldInt64S (lsR ns ps wa gr) 1 (by have := lsR_len (ns := ns) (ps := ps) (wa := wa) (gr := gr); omega) (by omega)) ?_)
                intro n36 hn36
                refine ev_q rfl (q_assign (by conv => lhs; whnf) ?_)
                refine ev_nil (hK35 _ ?_); clear hK35
                refine good_seq fun K37 hK37 => ?_
                refine good_seq fun K38 hK38 => ?_
                refine good_region rfl ?_
                refine ev_q rfl (q_move (by conv => lhs; whnf) ?_)
                refine ev_q rfl (q_int rfl rfl ?_)
                intro b39 hb39; cases b39
                · replace hb39 := dF hb39
                  refine ev_nil (hK38 _ ?_); clear hK38
                  refine good_condF rfl ?_
                  refine good_skip (hK37 _ ?_); clear hK37
                  refine good_seq fun K40 hK40 => ?_
                  refine good_seq fun K41 hK41 => ?_
                  refine good_region rfl ?_
                  refine ev_q rfl (q_move (by conv => lhs; whnf) ?_)
                  refine ev_q rfl (q_move (by conv => lhs; whnf) ?_)
                  refine ev_q rfl (q_int rfl rfl ?_)
                  intro b42 hb42; cases b42
                  · replace hb42 := neF hb42
                    refine ev_nil (hK41 _ ?_); clear hK41
                    refine good_condF rfl ?_
                    refine good_skip (hK40 _ ?_); clear hK40
                    refine good_seq fun K43 hK43 => ?_
                    refine good_region rfl ?_
                    refine ev_q rfl (q_loadA tA25 rfl rfl rfl ?_)
                    refine ev_q rfl (q_call rfl rfl (rfl) (D_laws_toNetwork ns ps hn hp) rfl ?_)
                    refine ev_q rfl (q_move (by conv => lhs; whnf) ?_)
                    refine ev_q rfl (q_move (by conv => lhs; whnf) ?_)
                    refine ev_q rfl (q_call rfl rfl (rfl) (D_impl_LossShares ns ps wa gr hn hp hz) rfl ?_)
                    refine ev_q rfl (q_move (by conv => lhs; whnf) ?_)
                    refine ev_q rfl (q_extract rfl rfl ?_)
                    refine ev_q rfl (q_extractI rfl rfl ?_)
                    intro n44 hn44
                    refine ev_q rfl (q_assign (by conv => lhs; whnf) ?_)
                    refine ev_q rfl (q_assign (by conv => lhs; whnf) ?_)
                    refine ev_nil (hK43 _ ?_); clear hK43
                    refine good_seq fun K45 hK45 => ?_
                    refine good_seq fun K46 hK46 => ?_
                    refine good_region rfl ?_
                    refine ev_q rfl (q_move (by conv => lhs; whnf) ?_)
                    refine ev_q rfl (q_move (by conv => lhs; whnf) ?_)
                    refine ev_q rfl (q_callB rfl rfl (rfl) (D_laws_eqInt64S (lsR ns ps wa gr) (by have := lsR_len (ns := ns) (ps := ps) (wa := wa) (gr := gr); omega)) ?_)
                    intro b47 hb47; cases b47
                    · first | replace hb47 := dF hb47 | skip
                      refine ev_q rfl (q_not rfl rfl ?_)
                      refine ev_q rfl (q_move (by conv => lhs; whnf) ?_)
                      refine ev_skip rfl ?_
                      refine ev_skip rfl ?_
                      refine ev_skip rfl ?_
                      refine ev_q rfl (q_pickT rfl (by conv => lhs; whnf) ?_)
                      refine ev_nil (hK46 _ ?_); clear hK46
                      refine good_condT rfl ?_
                      refine good_seq fun K48 hK48 => ?_
                      refine good_region rfl ?_
                      refine ev_q rfl (q_assign (by conv => lhs; whnf) ?_)
                      refine ev_nil (hK48 _ ?_); clear hK48
                      refine good_ret ?_
                      repeat (first | refine thenQ_ret ?_ | refine blockQ_ret ?_)
                      refine ret_tmp (st := _) rfl (by conv => lhs; whnf) rfl ?_
                      clear hK45
                      first | rfl | (exfalso; first | omega | contradiction | grind)
                    · first | replace hb47 := dT hb47 | skip
                      refine ev_q rfl (q_not rfl rfl ?_)
                      refine ev_q rfl (q_move (by conv => lhs; whnf) ?_)
                      refine ev_q rfl (q_move (by conv => lhs; whnf) ?_)
                      refine ev_q rfl (q_move (by conv => lhs; whnf) ?_)
                      refine ev_q rfl (q_int rfl rfl ?_)
                      intro b49 hb49; cases b49
                      · replace hb49 := neF hb49
                        refine ev_q rfl (q_pickF rfl (by conv => lhs; whnf) ?_)
                        refine ev_nil (hK46 _ ?_); clear hK46
                        refine good_condF rfl ?_
                        refine good_skip (hK45 _ ?_); clear hK45
                        refine good_seq fun K50 hK50 => ?_
                        refine good_region rfl ?_
                        refine ev_q rfl (q_assign (by conv => lhs; whnf) ?_)
                        refine ev_nil (hK50 _ ?_); clear hK50
                        refine good_seq fun K51 hK51 => ?_
                        refine good_region rfl ?_
                        refine ev_q rfl (q_move (by conv => lhs; whnf) ?_)
                        refine ev_q rfl (q_move (by conv => lhs; whnf) ?_)
                        refine ev_q rfl (q_callI rfl rfl (by change ([.lst 1 (List.take ((lsR ns ps wa gr)).length (mkC 1 ((lsR ns ps wa gr)) ((lsR ns ps wa gr)).length)), .s (.int .i64 1)] : List AV) = _; rw [mkC_take]) (D_laws_heldInt64S (lsR ns ps wa gr) 1 (by have := lsR_len (ns := ns) (ps := ps) (wa := wa) (gr := gr); omega) (by omega)) ?_)
                        intro n52 hn52
                        refine ev_q rfl (q_assign (by conv => lhs; whnf) ?_)
                        refine ev_nil (hK51 _ ?_); clear hK51
                        refine good_seq fun K53 hK53 => ?_
                        refine good_seq fun K54 hK54 => ?_
                        refine good_region rfl ?_
                        refine ev_q rfl (q_move (by conv => lhs; whnf) ?_)
                        refine ev_q rfl (q_int rfl rfl ?_)
                        intro b55 hb55; cases b55
                        · replace hb55 := dF hb55
                          refine ev_nil (hK54 _ ?_); clear hK54
                          refine good_condF rfl ?_
                          refine good_skip (hK53 _ ?_); clear hK53
                          refine good_seq fun K56 hK56 => ?_
                          refine good_seq fun K57 hK57 => ?_
                          refine good_region rfl ?_
                          refine ev_q rfl (q_move (by conv => lhs; whnf) ?_)
                          refine ev_q rfl (q_move (by conv => lhs; whnf) ?_)
                          refine ev_q rfl (q_int rfl rfl ?_)
                          intro b58 hb58; cases b58
                          · replace hb58 := neF hb58
                            refine ev_nil (hK57 _ ?_); clear hK57
                            refine good_condF rfl ?_
                            refine good_skip (hK56 _ ?_); clear hK56
                            refine good_seq fun K59 hK59 => ?_
                            refine good_region rfl ?_
                            refine ev_q rfl (q_assign (by conv => lhs; whnf) ?_)
                            refine ev_nil (hK59 _ ?_); clear hK59
                            refine good_ret ?_
                            repeat (first | refine thenQ_ret ?_ | refine blockQ_ret ?_)
                            refine ret_tmp (st := _) rfl (by conv => lhs; whnf) rfl ?_
                            first | rfl | (exfalso; first | omega | contradiction | grind)
                          · replace hb58 := neT hb58
                            refine ev_nil (hK57 _ ?_); clear hK57
                            refine good_condT rfl ?_
                            refine good_seq fun K60 hK60 => ?_
                            refine good_region rfl ?_
                            refine ev_q rfl (q_assign (by conv => lhs; whnf) ?_)
                            refine ev_nil (hK60 _ ?_); clear hK60
                            refine good_ret ?_
                            repeat (first | refine thenQ_ret ?_ | refine blockQ_ret ?_)
                            refine ret_tmp (st := _) rfl (by conv => lhs; whnf) rfl ?_
                            clear hK56
                            first | rfl | (exfalso; first | omega | contradiction | grind)
                        · replace hb55 := dT hb55
                          refine ev_nil (hK54 _ ?_); clear hK54
                          refine good_condT rfl ?_
                          refine good_seq fun K61 hK61 => ?_
                          refine good_region rfl ?_
                          refine ev_q rfl (q_assign (by conv => lhs; whnf) ?_)
                          refine ev_nil (hK61 _ ?_); clear hK61
                          refine good_ret ?_
                          repeat (first | refine thenQ_ret ?_ | refine blockQ_ret ?_)
                          refine ret_tmp (st := _) rfl (by conv => lhs; whnf) rfl ?_
                          clear hK53
                          first | rfl | (exfalso; first | omega | contradiction | grind)
                      · replace hb49 := neT hb49
                        refine ev_q rfl (q_pickF rfl (by conv => lhs; whnf) ?_)
                        refine ev_nil (hK46 _ ?_); clear hK46
                        refine good_condT rfl ?_
                        refine good_seq fun K62 hK62 => ?_
                        refine good_region rfl ?_
                        refine ev_q rfl (q_assign (by conv => lhs; whnf) ?_)
                        refine ev_nil (hK62 _ ?_); clear hK62
                        refine good_ret ?_
                        repeat (first | refine thenQ_ret ?_ | refine blockQ_ret ?_)
                        refine ret_tmp (st := _) rfl (by conv => lhs; whnf) rfl ?_
                        clear hK45
                        first | rfl | (exfalso; first | omega | contradiction | grind)
                  · replace hb42 := neT hb42
                    refine ev_nil (hK41 _ ?_); clear hK41
                    refine good_condT rfl ?_
                    refine good_seq fun K63 hK63 => ?_
                    refine good_region rfl ?_
                    refine ev_q rfl (q_assign (by conv => lhs; whnf) ?_)
                    refine ev_nil (hK63 _ ?_); clear hK63
                    refine good_ret ?_
                    repeat (first | refine thenQ_ret ?_ | refine blockQ_ret ?_)
                    refine ret_tmp (st := _) rfl (by conv => lhs; whnf) rfl ?_
                    clear hK40
                    first | rfl | (exfalso; first | omega | contradiction | grind)
                · replace hb39 := dT hb39
                  refine ev_nil (hK38 _ ?_); clear hK38
                  refine good_condT rfl ?_
                  refine good_seq fun K64 hK64 => ?_
                  refine good_region rfl ?_
                  refine ev_q rfl (q_assign (by conv => lhs; whnf) ?_)
                  refine ev_nil (hK64 _ ?_); clear hK64
                  refine good_ret ?_
                  repeat (first | refine thenQ_ret ?_ | refine blockQ_ret ?_)
                  refine ret_tmp (st := _) rfl (by conv => lhs; whnf) rfl ?_
                  clear hK37
                  first | rfl | (exfalso; first | omega | contradiction | grind)
              · replace hb30 := neT hb30
                refine ev_q rfl (q_pickF rfl (by conv => lhs; whnf) ?_)
                refine ev_nil (hK26 _ ?_); clear hK26
                refine good_condT rfl ?_
                refine good_seq fun K65 hK65 => ?_
                refine good_region rfl ?_
                refine ev_q rfl (q_assign (by conv => lhs; whnf) ?_)
                refine ev_nil (hK65 _ ?_); clear hK65
                refine good_ret ?_
                repeat (first | refine thenQ_ret ?_ | refine blockQ_ret ?_)
                refine ret_tmp (st := _) rfl (by conv => lhs; whnf) rfl ?_
                clear hK25
                first | rfl | (exfalso; first | omega | contradiction | grind)
          · replace hb27 := dT hb27
            refine ev_q rfl (q_move (by conv => lhs; whnf) ?_)
            refine ev_skip rfl ?_
            refine ev_skip rfl ?_
            refine ev_skip rfl ?_
            refine ev_skip rfl ?_
            refine ev_q rfl (q_pickT rfl (by conv => lhs; whnf) ?_)
            refine ev_q rfl (q_move (by conv => lhs; whnf) ?_)
            refine ev_skip rfl ?_
            refine ev_skip rfl ?_
            refine ev_skip rfl ?_
            refine ev_q rfl (q_pickT rfl (by conv => lhs; whnf) ?_)
            refine ev_nil (hK26 _ ?_); clear hK26
            refine good_condT rfl ?_
            refine good_seq fun K66 hK66 => ?_
            refine good_region rfl ?_
            refine ev_q rfl (q_assign (by conv => lhs; whnf) ?_)
            refine ev_nil (hK66 _ ?_); clear hK66
            refine good_ret ?_
            repeat (first | refine thenQ_ret ?_ | refine blockQ_ret ?_)
            refine ret_tmp (st := _) rfl (by conv => lhs; whnf) rfl ?_
            clear hK25
            first | rfl | (exfalso; first | omega | contradiction | grind)
      · replace hb17 := neT hb17
        refine ev_q rfl (q_pickF rfl (by conv => lhs; whnf) ?_)
        refine ev_nil (hK14 _ ?_); clear hK14
        refine good_condT rfl ?_
        refine good_seq fun K67 hK67 => ?_
        refine good_region rfl ?_
        refine ev_q rfl (q_assign (by conv => lhs; whnf) ?_)
        refine ev_nil (hK67 _ ?_); clear hK67
        refine good_ret ?_
        repeat (first | refine thenQ_ret ?_ | refine blockQ_ret ?_)
        refine ret_tmp (st := _) rfl (by conv => lhs; whnf) rfl ?_
        clear hK13
        first | rfl | (exfalso; first | omega | contradiction | grind)
  · replace hb7 := dT hb7
    refine ev_nil (hK6 _ ?_); clear hK6
    refine good_condT rfl ?_
    refine good_seq fun K68 hK68 => ?_
    refine good_region rfl ?_
    refine ev_q rfl (q_assign (by conv => lhs; whnf) ?_)
    refine ev_nil (hK68 _ ?_); clear hK68
    refine good_ret ?_
    repeat (first | refine thenQ_ret ?_ | refine blockQ_ret ?_)
    refine ret_tmp (st := _) rfl (by conv => lhs; whnf) rfl ?_
    clear hK5
    first | rfl | (exfalso; first | omega | contradiction | grind)

end Go.Proofs.Ytpoppoglnjoomaa.DFnExactLossShares
