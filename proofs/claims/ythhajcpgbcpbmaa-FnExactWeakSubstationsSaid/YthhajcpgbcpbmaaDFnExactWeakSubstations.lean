/- Walks through the functions that FnExactWeakSubstations reaches: what each answers. -/
import Derived.Test.YthhajcpgbcpbmaaDFnExactWeakSubstationsb
set_option linter.unusedVariables false
set_option linter.unusedSimpArgs false
namespace Go.Proofs.Ythhajcpgbcpbmaa.DFnExactWeakSubstations
open Go Go.RowKit Go.Proofs Go.Proofs.Ythhajcpgbcpbmaa Go.Proofs.Ythhajcpgbcpbmaa.Ev
-- spec.l12Ask
set_option maxRecDepth 20000 in
set_option maxHeartbeats 2000000 in
theorem D_spec_l12Ask (xs : List Sb) (ds : List Int) (pr : Int) (hx : xs.length ≤ 2932031007402) (hz : ∀ (j : Nat) (x : Sb), xs[j]? = some x → x.id.size ≤ 140737488351232) (hd : ds.length ≤ 17592186044416) : Den Try.prog 68 [.lst 5 (xs.map sbA), .s (.int .i64 pr), .lst 1 (ds.map ci)] (.s (.int .i64 (sbC xs ds pr))) := by
  refine den_of_good Try.func68 (by decide) rfl (Nat.le_of_ble_eq_true rfl) (Nat.le_of_ble_eq_true rfl) ?_
  refine good_seq fun K1 hK1 => ?_
  refine good_region rfl ?_
  refine ev_q rfl (q_assign (by conv => lhs; whnf) ?_)
  refine ev_nil (hK1 _ ?_); clear hK1
  refine good_seq fun K2 hK2 => ?_
  refine good_seq fun K3 hK3 => ?_
  refine good_region rfl ?_
  refine ev_q rfl (q_move (by conv => lhs; whnf) ?_)
  refine ev_q rfl (q_callB rfl rfl (rfl) (D_spec_l12Ok _ hx hz) ?_)
  intro b4 hb4; cases b4
  · first | replace hb4 := dF hb4 | skip
    refine ev_q rfl (q_not rfl rfl ?_)
    refine ev_nil (hK3 _ ?_); clear hK3
    refine good_condT rfl ?_
    refine good_seq fun K5 hK5 => ?_
    refine good_region rfl ?_
    refine ev_q rfl (q_assign (by conv => lhs; whnf) ?_)
    refine ev_nil (hK5 _ ?_); clear hK5
    refine good_ret ?_
    repeat (first | refine thenQ_ret ?_ | refine blockQ_ret ?_)
    refine ret_tmp (st := _) rfl (by conv => lhs; whnf) rfl ?_
    clear hK2
    first | exact fI (by rw [sbC1 (by assumption)]) | exact fI (by rw [sbC2 (by assumption) (fun h => by first | exact absurd h.1 (by assumption) | (have := h.2.1; omega) | (have := h.2.2 _ _ hpk; omega))]) | exact fI (by rw [sbC0 (by assumption) (by assumption) (by omega) (all_finI (Q := fun _ q => 0 ≤ q ∧ q ≤ 100000000) hJk (by omega))])
  · first | replace hb4 := dT hb4 | skip
    refine ev_q rfl (q_not rfl rfl ?_)
    refine ev_nil (hK3 _ ?_); clear hK3
    refine good_condF rfl ?_
    refine good_skip (hK2 _ ?_); clear hK2
    refine good_seq fun K6 hK6 => ?_
    refine good_seq fun K7 hK7 => ?_
    refine good_region rfl ?_
    refine ev_q rfl (q_move (by conv => lhs; whnf) ?_)
    refine ev_q rfl (q_callB rfl rfl (rfl) (D_spec_l02Degrees ..) ?_)
    intro b8 hb8; cases b8
    · first | replace hb8 := dF hb8 | skip
      refine ev_q rfl (q_not rfl rfl ?_)
      refine ev_q rfl (q_move (by conv => lhs; whnf) ?_)
      refine ev_skip rfl ?_
      refine ev_skip rfl ?_
      refine ev_skip rfl ?_
      refine ev_skip rfl ?_
      refine ev_skip rfl ?_
      refine ev_q rfl (q_pickT rfl (by conv => lhs; whnf) ?_)
      refine ev_nil (hK7 _ ?_); clear hK7
      refine good_condT rfl ?_
      refine good_seq fun K9 hK9 => ?_
      refine good_region rfl ?_
      refine ev_q rfl (q_assign (by conv => lhs; whnf) ?_)
      refine ev_nil (hK9 _ ?_); clear hK9
      refine good_ret ?_
      repeat (first | refine thenQ_ret ?_ | refine blockQ_ret ?_)
      refine ret_tmp (st := _) rfl (by conv => lhs; whnf) rfl ?_
      clear hK6
      first | exact fI (by rw [sbC1 (by assumption)]) | exact fI (by rw [sbC2 (by assumption) (fun h => by first | exact absurd h.1 (by assumption) | (have := h.2.1; omega) | (have := h.2.2 _ _ hpk; omega))]) | exact fI (by rw [sbC0 (by assumption) (by assumption) (by omega) (all_finI (Q := fun _ q => 0 ≤ q ∧ q ≤ 100000000) hJk (by omega))])
    · first | replace hb8 := dT hb8 | skip
      refine ev_q rfl (q_not rfl rfl ?_)
      refine ev_q rfl (q_move (by conv => lhs; whnf) ?_)
      refine ev_q rfl (q_move (by conv => lhs; whnf) ?_)
      refine ev_q rfl (q_len tEs37 rfl ?_)
      intro n10 hn10
      try simp only [List.length_map] at hn10
      refine ev_q rfl (q_move (by conv => lhs; whnf) ?_)
      refine ev_q rfl (q_len tEs33 rfl ?_)
      intro n11 hn11
      try simp only [List.length_map] at hn11
      refine ev_q rfl (q_int rfl rfl ?_)
      intro b12 hb12; cases b12
      · replace hb12 := neF hb12
        refine ev_q rfl (q_pickF rfl (by conv => lhs; whnf) ?_)
        refine ev_nil (hK7 _ ?_); clear hK7
        refine good_condF rfl ?_
        refine good_skip (hK6 _ ?_); clear hK6
        refine good_seq fun K13 hK13 => ?_
        refine good_seq fun K14 hK14 => ?_
        refine good_region rfl ?_
        refine ev_q rfl (q_assign (by conv => lhs; whnf) ?_)
        refine ev_nil (hK14 _ ?_); clear hK14
        refine good_block ?_
        refine good_loop (α := Nat) (fun k => { env := upd (upd ((fun _ => .junk)) 2 (.lst 1 (ds.map ci))) 7 (.s (.int .i64 k)), H := fun _ => none }) (fun k => k ≤ ds.length ∧ ∀ j q, j < k → ds[j]? = some q → (0) ≤ q ∧ q ≤ 100000000) (fun k => ds.length - k) 0 ?_ ?_ ?_
        · exact ⟨by omega, fun j u hj => by omega⟩
        · refine sub_weak ?_ ?_
          · exact weakH_none _
          · refine weakE_upd ?e7 ?r7 (weakE_upd ?e2 ?r2 (weakE_junk _ _))
            case e2 => first | rfl | exact fI (by omega) | (simp_all)
            case r2 => intro h hh; cases hh
            case e7 => first | rfl | exact fI (by omega) | (simp_all)
            case r7 => intro h hh; cases hh
        · rintro k ⟨hIk, hJk⟩
          refine good_seq fun K15 hK15 => ?_
          refine good_seq fun K16 hK16 => ?_
          refine good_region rfl ?_
          refine ev_q rfl (q_move (by conv => lhs; whnf) ?_)
          refine ev_q rfl (q_move (by conv => lhs; whnf) ?_)
          refine ev_q rfl (q_len tEs37 rfl ?_)
          intro n17 hn17
          try simp only [List.length_map] at hn17
          refine ev_q rfl (q_int rfl rfl ?_)
          intro b18 hb18; cases b18
          · replace hb18 := dF hb18
            refine ev_nil (hK16 _ ?_); clear hK16
            refine good_condF rfl ?_
            refine good_exit ?_
            repeat (first | refine thenQ_exit ?_ | refine blockQ_pass rfl ?_)
            refine blockQ_exit (hK13 _ ?_); clear hK13
            refine good_seq fun K19 hK19 => ?_
            refine good_region rfl ?_
            refine ev_q rfl (q_assign (by conv => lhs; whnf) ?_)
            refine ev_nil (hK19 _ ?_); clear hK19
            refine good_ret ?_
            repeat (first | refine thenQ_ret ?_ | refine blockQ_ret ?_)
            refine ret_tmp (st := _) rfl (by conv => lhs; whnf) rfl ?_
            clear hK15
            first | exact fI (by rw [sbC1 (by assumption)]) | exact fI (by rw [sbC2 (by assumption) (fun h => by first | exact absurd h.1 (by assumption) | (have := h.2.1; omega) | (have := h.2.2 _ _ hpk; omega))]) | exact fI (by rw [sbC0 (by assumption) (by assumption) (by omega) (all_finI (Q := fun _ q => 0 ≤ q ∧ q ≤ 100000000) hJk (by omega))])
          · replace hb18 := dT hb18
            obtain ⟨pk, hpk⟩ := getL (xs := ds) (n := (k : Int)) (by omega) (by omega)
            replace hpk : ds[k]? = some pk := hpk
            refine ev_nil (hK16 _ ?_); clear hK16
            refine good_condT rfl ?_
            refine good_skip (hK15 _ ?_); clear hK15
            refine good_seq fun K20 hK20 => ?_
            refine good_block ?_
            refine good_seq fun K21 hK21 => ?_
            refine good_region rfl ?_
            refine ev_q rfl (q_move (by conv => lhs; whnf) ?_)
            refine ev_q rfl (q_move (by conv => lhs; whnf) ?_)
            refine ev_q rfl (q_idx tE37 rfl rfl (by exact Int.natCast_nonneg _) (by exact map_get hpk) rfl ?_)
            refine ev_q rfl (q_load tA2 rfl ?_)
            refine ev_q rfl (q_callB rfl rfl (rfl) (D_spec_l02Watts ..) ?_)
            intro b22 hb22; cases b22
            · first | replace hb22 := dF hb22 | skip
              refine ev_q rfl (q_not rfl rfl ?_)
              refine ev_nil (hK21 _ ?_); clear hK21
              refine good_condT rfl ?_
              refine good_seq fun K23 hK23 => ?_
              refine good_region rfl ?_
              refine ev_q rfl (q_assign (by conv => lhs; whnf) ?_)
              refine ev_nil (hK23 _ ?_); clear hK23
              refine good_ret ?_
              repeat (first | refine thenQ_ret ?_ | refine blockQ_ret ?_)
              refine ret_tmp (st := _) rfl (by conv => lhs; whnf) rfl ?_
              clear hK13 hK20
              first | exact fI (by rw [sbC1 (by assumption)]) | exact fI (by rw [sbC2 (by assumption) (fun h => by first | exact absurd h.1 (by assumption) | (have := h.2.1; omega) | (have := h.2.2 _ _ hpk; omega))]) | exact fI (by rw [sbC0 (by assumption) (by assumption) (by omega) (all_finI (Q := fun _ q => 0 ≤ q ∧ q ≤ 100000000) hJk (by omega))])
            · first | replace hb22 := dT hb22 | skip
              refine ev_q rfl (q_not rfl rfl ?_)
              refine ev_nil (hK21 _ ?_); clear hK21
              refine good_condF rfl ?_
              refine good_skip (hK20 _ ?_); clear hK20
              refine good_region rfl ?_
              refine ev_q rfl (q_move (by conv => lhs; whnf) ?_)
              refine ev_q rfl (q_int rfl rfl ?_)
              intro n24 hn24
              replace hn24 := in64 hn24 (by omega) (by omega)
              refine ev_q rfl (q_assign (by conv => lhs; whnf) ?_)
              refine ev_nil ?_
              clear hK13
              refine ⟨k + 1, ?_, ?_, ?_⟩
              · exact ⟨by omega, all_extI (Q := fun _ q => (0) ≤ q ∧ q ≤ 100000000) hJk hpk (by omega)⟩
              · first | omega | (simp only []; omega) | (dsimp only; omega)
              · refine sub_weak ?_ ?_
                · exact weakH_none _
                · refine weakE_upd ?e7 ?r7 (weakE_upd ?e2 ?r2 (weakE_junk _ _))
                  case e2 => first | rfl | exact fI (by omega) | (simp_all)
                  case r2 => intro h hh; cases hh
                  case e7 => first | rfl | exact fI (by omega) | (simp_all)
                  case r7 => intro h hh; cases hh
      · replace hb12 := neT hb12
        refine ev_q rfl (q_pickF rfl (by conv => lhs; whnf) ?_)
        refine ev_nil (hK7 _ ?_); clear hK7
        refine good_condT rfl ?_
        refine good_seq fun K25 hK25 => ?_
        refine good_region rfl ?_
        refine ev_q rfl (q_assign (by conv => lhs; whnf) ?_)
        refine ev_nil (hK25 _ ?_); clear hK25
        refine good_ret ?_
        repeat (first | refine thenQ_ret ?_ | refine blockQ_ret ?_)
        refine ret_tmp (st := _) rfl (by conv => lhs; whnf) rfl ?_
        clear hK6
        first | exact fI (by rw [sbC1 (by assumption)]) | exact fI (by rw [sbC2 (by assumption) (fun h => by first | exact absurd h.1 (by assumption) | (have := h.2.1; omega) | (have := h.2.2 _ _ hpk; omega))]) | exact fI (by rw [sbC0 (by assumption) (by assumption) (by omega) (all_finI (Q := fun _ q => 0 ≤ q ∧ q ≤ 100000000) hJk (by omega))])

-- impl.WeakSubstations
set_option maxRecDepth 20000 in
set_option maxHeartbeats 2000000 in
theorem D_impl_WeakSubstations_X (xs : List Sb) (ds : List Int) (pr : Int) (hx : xs.length ≤ 2932031007402) (hz : ∀ (j : Nat) (x : Sb), xs[j]? = some x → x.id.size ≤ 140737488351232) (hd : ds.length ≤ 17592186044416) : DenX Try.prog 37 [] [.lst 5 (xs.map sbA), .s (.int .i64 pr), .lst 1 (ds.map ci)] [(43, .row 2 1 ((wkL xs ds pr).map ci))] (.tup [.own 43 (wkL xs ds pr).length, .s (.int .i64 (sbC xs ds pr))]) := by
  refine denX_of_good Try.func37 (by decide) rfl (Nat.le_of_ble_eq_true rfl) (Nat.le_of_ble_eq_true rfl) rfl ?_
  refine good_seq fun K1 hK1 => ?_
  refine good_region rfl ?_
  refine ev_q rfl (q_assign (by conv => lhs; whnf) ?_)
  refine ev_q rfl (q_assign (by conv => lhs; whnf) ?_)
  refine ev_nil (hK1 _ ?_); clear hK1
  refine good_seq fun K2 hK2 => ?_
  refine good_seq fun K3 hK3 => ?_
  refine good_region rfl ?_
  refine ev_q rfl (q_move (by conv => lhs; whnf) ?_)
  refine ev_q rfl (q_move (by conv => lhs; whnf) ?_)
  refine ev_q rfl (q_move (by conv => lhs; whnf) ?_)
  refine ev_q rfl (q_callI rfl rfl (rfl) (D_impl_substationsCode xs ds pr hx hz hd) ?_)
  intro n4 hn4
  refine ev_q rfl (q_assign (by conv => lhs; whnf) ?_)
  refine ev_nil (hK3 _ ?_); clear hK3
  refine good_seq fun K5 hK5 => ?_
  refine good_region rfl ?_
  refine ev_q rfl (q_move (by conv => lhs; whnf) ?_)
  refine ev_q rfl (q_int rfl rfl ?_)
  intro b6 hb6; cases b6
  · replace hb6 := neF hb6
    refine ev_nil (hK5 _ ?_); clear hK5
    refine good_condF rfl ?_
    refine good_skip (hK2 _ ?_); clear hK2
    refine good_seq fun K7 hK7 => ?_
    refine good_region rfl ?_
    refine ev_q rfl (q_assign (by conv => lhs; whnf) ?_)
    refine ev_nil (hK7 _ ?_); clear hK7
    refine good_seq fun K8 hK8 => ?_
    refine good_seq fun K9 hK9 => ?_
    refine good_region rfl ?_
    refine ev_q rfl (q_move (by conv => lhs; whnf) ?_)
    refine ev_q rfl (q_len tEs33 rfl ?_)
    intro n10 hn10
    try simp only [List.length_map] at hn10
    refine ev_q rfl (q_move (by conv => lhs; whnf) ?_)
    refine ev_nil (hK9 _ ?_); clear hK9
    refine good_block ?_
    have hok := sbC_ok (show sbC xs ds pr = 0 by omega)
    refine good_loop (α := Nat) (fun i => { env := upd (upd (upd (upd (upd (upd ((fun _ => .junk)) 1 (.s (.int .i64 pr))) 2 (.lst 1 (ds.map ci))) 9 (.own 43 (ixs (wkP xs ds pr) i).length)) 21 (.lst 5 (xs.map sbA))) 22 (.s (.int .i64 ((xs.length : Int))))) 23 (.s (.int .i64 i)), H := upd ((fun _ => none)) 43 (some (.row 2 1 ((ixs (wkP xs ds pr) i).map ci))) }) (fun i => i ≤ xs.length) (fun i => xs.length - i) 0 ?_ ?_ ?_
    · show 0 ≤ _; omega
    · refine Sub.trans (sub_nil 9 43 2 1 rfl rfl (by decide)) ?_
      refine sub_weak ?_ ?_
      · exact weakH_row (rowEq (rfl)) (weakH_none _)
      · refine weakE_upd ?e23 ?r23 (weakE_upd ?e22 ?r22 (weakE_upd ?e21 ?r21 (weakE_upd ?e9 ?r9 (weakE_upd ?e2 ?r2 (weakE_upd ?e1 ?r1 (weakE_junk _ _))))))
        case e1 => first | rfl | exact fI (by omega) | (simp_all)
        case r1 => intro h hh; cases hh
        case e2 => first | rfl | exact fI (by omega) | (simp_all)
        case r2 => intro h hh; cases hh
        case e9 => first | rfl | exact fI (by omega) | (first | rfl | (rw [hst]; exact ownEq (by simp)) | (rw [hst]))
        case r9 => intro h hh; simp [refs] at hh; subst hh; rfl
        case e21 => first | rfl | exact fI (by omega) | (simp_all)
        case r21 => intro h hh; cases hh
        case e22 => first | rfl | exact fI (by omega) | (simp_all)
        case r22 => intro h hh; cases hh
        case e23 => first | rfl | exact fI (by omega) | (simp_all)
        case r23 => intro h hh; cases hh
    · rintro i hI
      refine good_seq fun K11 hK11 => ?_
      refine good_region rfl ?_
      refine ev_q rfl (q_int rfl rfl ?_)
      intro b12 hb12; cases b12
      · replace hb12 := dF hb12
        refine ev_nil (hK11 _ ?_); clear hK11
        refine good_seq fun K13 hK13 => ?_
        refine good_condF rfl ?_
        refine good_exit ?_
        repeat (first | refine thenQ_exit ?_ | refine blockQ_pass rfl ?_)
        refine blockQ_exit (hK8 _ ?_); clear hK8
        refine good_seq fun K14 hK14 => ?_
        refine good_region rfl ?_
        refine ev_q rfl (q_move (by conv => lhs; whnf) ?_)
        refine ev_q rfl (q_assign (by conv => lhs; whnf) ?_)
        refine ev_q rfl (q_assign (by conv => lhs; whnf) ?_)
        refine ev_nil (hK14 _ ?_); clear hK14
        refine good_ret ?_
        repeat (first | refine thenQ_ret ?_ | refine blockQ_ret ?_)
        refine fx_many rfl ?_
        refine fxs_tmp (by conv => lhs; whnf) ?_
        refine fxs_tmp (by conv => lhs; whnf) ?_
        refine fx_nil ?_
        clear hK13
        have e2 : sbC xs ds pr = n4 := (by omega)
        first | (have e : wkL xs ds pr = [] := wkL_no (by omega)) | (have e : wkL xs ds pr = ixs (wkP xs ds pr) i := (by rw [wkL_ok (by omega), show xs.length = i by omega]))
        exact ⟨_, .tup (.cons (conv_eq (by first | rfl | (rw [e]; done) | (rw [e]; rfl) | exact ownEq (by first | omega | simp_all))) (.cons (conv_eq (by first | rfl | exact fI (by first | omega | grind) | (exfalso; first | omega | grind))) (.nil))), weakH_row (rowEq (by first | rfl | (rw [e]; done) | (rw [e]; rfl) | (simp_all; done))) (weakH_none _), refsIn_ok rfl⟩
      · replace hb12 := dT hb12
        obtain ⟨p, hp⟩ := getL (xs := xs) (n := (i : Int)) (by omega) (by omega)
        replace hp : xs[i]? = some p := hp
        obtain ⟨l, hl⟩ := getL (xs := ds) (n := (i : Int)) (by omega) (by omega)
        replace hl : ds[i]? = some l := hl
        have hzp := hz i p hp
        obtain ⟨_, hx1, hx2, hx3, hx4⟩ := (hok.1.2 i p hp).1
        have hlb := hok.2.2.2 _ _ hl
        have epf := pfj_eq (pr := pr) hp hl
        have h12 := hok.1.1
        refine ev_nil (hK11 _ ?_); clear hK11
        refine good_seq fun K15 hK15 => ?_
        refine good_condT rfl ?_
        refine good_skip (hK15 _ ?_); clear hK15
        refine good_seq fun K16 hK16 => ?_
        refine good_block ?_
        refine good_seq fun K17 hK17 => ?_
        refine good_region rfl ?_
        refine ev_q rfl (q_move (by conv => lhs; whnf) ?_)
        refine ev_q rfl (q_idx tE33 rfl rfl (by exact Int.natCast_nonneg _) (by exact map_get hp) rfl ?_)
        refine ev_q rfl (q_loadA tA27 rfl rfl rfl ?_)
        refine ev_k rfl (k_alloc zA27 rfl ?_)
        refine ev_q rfl (q_assign (by conv => lhs; whnf) ?_)
        refine ev_k rfl (k_store sz27 rfl (by conv => lhs; whnf) rfl rfl rfl (Nat.le_of_ble_eq_true rfl) rfl ?_)
        refine ev_nil (hK17 _ ?_); clear hK17
        refine good_seq fun K18 hK18 => ?_
        refine good_draw 12 hmix (by kernel_rfl) rfl ?_
        refine qo_q rfl (q_loadA tA27 rfl rfl rfl ?_)
        refine qo_q rfl (q_move (by conv => lhs; whnf) ?_)
        refine qo_q rfl (q_move (by conv => lhs; whnf) ?_)
        refine qo_q rfl (q_move (by conv => lhs; whnf) ?_)
        refine qo_q rfl (q_idx tE37 rfl rfl (by exact Int.natCast_nonneg _) (by exact map_get hl) rfl ?_)
        refine qo_q rfl (q_load tA2 rfl ?_)
        refine qo_q rfl (q_call rfl rfl (rfl) (D_impl_Substation_primaryFlow p.id p.nd p.tr p.su p.re pr l (by omega) (by omega) (by omega) (by omega)) rfl ?_)
        refine qo_q rfl (q_move (by conv => lhs; whnf) ?_)
        refine qo_q rfl (q_extractI rfl rfl ?_)
        intro n19 hn19
        refine qo_q rfl (q_extractB rfl rfl ?_)
        intro b20 hb20; cases b20
        · first | replace hb20 := dF hb20 | skip
          have hst := ixs_T (p := (wkP xs ds pr)) (n := i) (show 100000 < pfj xs ds pr i by omega)
          have hln := ixs_len (p := (wkP xs ds pr)) i
          refine qo_q rfl (q_assign (by conv => lhs; whnf) ?_)
          refine qo_q rfl (q_assign (by conv => lhs; whnf) ?_)
          refine qo_nil ?_
          refine ev_nil (hK18 _ ?_); clear hK18
          refine good_seq fun K21 hK21 => ?_
          refine good_region rfl ?_
          refine ev_q rfl (q_move (by conv => lhs; whnf) ?_)
          refine ev_q rfl (q_not rfl rfl ?_)
          refine ev_nil (hK21 _ ?_); clear hK21
          refine good_condT rfl ?_
          refine good_region rfl ?_
          refine ev_q rfl (q_move (by conv => lhs; whnf) ?_)
          refine ev_q rfl (q_move (by conv => lhs; whnf) ?_)
          refine ev_k rfl (k_lit tE37 zA2 rfl rfl (by decide) (by decide) rfl rfl rfl ?_)
          refine ev_k rfl (k_app tApp37 rfl rfl (by simp) rfl (.inr rfl) (by show _ ≤ _; have := (ixs_len (p := (wkP xs ds pr)) i); simp [maxLen]; omega) (by have := (ixs_len (p := (wkP xs ds pr)) i); simp; omega) ?_)
          refine ev_q rfl (q_assign (by conv => lhs; whnf) ?_)
          refine ev_nil (hK16 _ ?_); clear hK16
          refine good_region rfl ?_
          refine ev_q rfl (q_int rfl rfl ?_)
          intro n22 hn22
          replace hn22 := in64 hn22 (by omega) (by omega)
          refine ev_q rfl (q_move (by conv => lhs; whnf) ?_)
          refine ev_nil ?_
          clear hK8
          refine ⟨i + 1, ?_, ?_, ?_⟩
          · show _ ≤ _; omega
          · first | omega | (simp only []; omega) | (dsimp only; omega)
          · refine sub_weak ?_ ?_
            · exact weakH_row (rowEq (by rw [hst]; first | done | (rw [List.map_append]; rfl))) (weakH_none _)
            · refine weakE_upd ?e23 ?r23 (weakE_upd ?e22 ?r22 (weakE_upd ?e21 ?r21 (weakE_upd ?e9 ?r9 (weakE_upd ?e2 ?r2 (weakE_upd ?e1 ?r1 (weakE_junk _ _))))))
              case e1 => first | rfl | exact fI (by omega) | (simp_all)
              case r1 => intro h hh; cases hh
              case e2 => first | rfl | exact fI (by omega) | (simp_all)
              case r2 => intro h hh; cases hh
              case e9 => first | rfl | exact fI (by omega) | (first | rfl | (rw [hst]; exact ownEq (by simp)) | (rw [hst]))
              case r9 => intro h hh; simp [refs] at hh; subst hh; rfl
              case e21 => first | rfl | exact fI (by omega) | (simp_all)
              case r21 => intro h hh; cases hh
              case e22 => first | rfl | exact fI (by omega) | (simp_all)
              case r22 => intro h hh; cases hh
              case e23 => first | rfl | exact fI (by omega) | (simp_all)
              case r23 => intro h hh; cases hh
        · first | replace hb20 := dT hb20 | skip
          have hst := ixs_F (p := (wkP xs ds pr)) (n := i) (show ¬ 100000 < pfj xs ds pr i by omega)
          refine qo_q rfl (q_assign (by conv => lhs; whnf) ?_)
          refine qo_q rfl (q_assign (by conv => lhs; whnf) ?_)
          refine qo_nil ?_
          refine ev_nil (hK18 _ ?_); clear hK18
          refine good_seq fun K23 hK23 => ?_
          refine good_region rfl ?_
          refine ev_q rfl (q_move (by conv => lhs; whnf) ?_)
          refine ev_q rfl (q_not rfl rfl ?_)
          refine ev_nil (hK23 _ ?_); clear hK23
          refine good_condF rfl ?_
          refine good_skip (hK16 _ ?_); clear hK16
          refine good_region rfl ?_
          refine ev_q rfl (q_int rfl rfl ?_)
          intro n24 hn24
          replace hn24 := in64 hn24 (by omega) (by omega)
          refine ev_q rfl (q_move (by conv => lhs; whnf) ?_)
          refine ev_nil ?_
          clear hK8
          refine ⟨i + 1, ?_, ?_, ?_⟩
          · show _ ≤ _; omega
          · first | omega | (simp only []; omega) | (dsimp only; omega)
          · refine sub_weak ?_ ?_
            · exact weakH_row (rowEq (by rw [hst]; first | done | (rw [List.map_append]; rfl))) (weakH_none _)
            · refine weakE_upd ?e23 ?r23 (weakE_upd ?e22 ?r22 (weakE_upd ?e21 ?r21 (weakE_upd ?e9 ?r9 (weakE_upd ?e2 ?r2 (weakE_upd ?e1 ?r1 (weakE_junk _ _))))))
              case e1 => first | rfl | exact fI (by omega) | (simp_all)
              case r1 => intro h hh; cases hh
              case e2 => first | rfl | exact fI (by omega) | (simp_all)
              case r2 => intro h hh; cases hh
              case e9 => first | rfl | exact fI (by omega) | (first | rfl | (rw [hst]; exact ownEq (by simp)) | (rw [hst]))
              case r9 => intro h hh; simp [refs] at hh; subst hh; rfl
              case e21 => first | rfl | exact fI (by omega) | (simp_all)
              case r21 => intro h hh; cases hh
              case e22 => first | rfl | exact fI (by omega) | (simp_all)
              case r22 => intro h hh; cases hh
              case e23 => first | rfl | exact fI (by omega) | (simp_all)
              case r23 => intro h hh; cases hh
  · replace hb6 := neT hb6
    refine ev_nil (hK5 _ ?_); clear hK5
    refine good_condT rfl ?_
    refine good_seq fun K25 hK25 => ?_
    refine good_region rfl ?_
    refine ev_q rfl (q_move (by conv => lhs; whnf) ?_)
    refine ev_q rfl (q_assign (by conv => lhs; whnf) ?_)
    refine ev_q rfl (q_assign (by conv => lhs; whnf) ?_)
    refine ev_nil (hK25 _ ?_); clear hK25
    refine good_ret ?_
    repeat (first | refine thenQ_ret ?_ | refine blockQ_ret ?_)
    refine fx_many rfl ?_
    refine fxs_tmp (by conv => lhs; whnf) ?_
    refine fxs_tmp (by conv => lhs; whnf) ?_
    refine fx_nil ?_
    clear hK2
    have e2 : sbC xs ds pr = n4 := (by omega)
    first | (have e : wkL xs ds pr = [] := wkL_no (by omega)) | (have e : wkL xs ds pr = ixs (wkP xs ds pr) i := (by rw [wkL_ok (by omega), show xs.length = i by omega]))
    exact ⟨_, .tup (.cons (conv_nil rfl (by decide) (by rw [e]; rfl)) (.cons (conv_eq (by first | rfl | exact fI (by first | omega | grind) | (exfalso; first | omega | grind))) (.nil))), weakH_row (rowEq (by first | rfl | (rw [e]; done) | (rw [e]; rfl) | (simp_all; done))) (weakH_none _), refsIn_ok rfl⟩
theorem D_impl_WeakSubstations (xs : List Sb) (ds : List Int) (pr : Int) (hx : xs.length ≤ 2932031007402) (hz : ∀ (j : Nat) (x : Sb), xs[j]? = some x → x.id.size ≤ 140737488351232) (hd : ds.length ≤ 17592186044416) : Den Try.prog 37 [.lst 5 (xs.map sbA), .s (.int .i64 pr), .lst 1 (ds.map ci)] (.tup [.lst 1 ((wkL xs ds pr).map ci), .s (.int .i64 (sbC xs ds pr))]) :=
  den_of_denX (D_impl_WeakSubstations_X xs ds pr hx hz hd) (by change (some (.tup [.lst 1 (List.take (wkL xs ds pr).length ((wkL xs ds pr).map ci)), .s (.int .i64 (sbC xs ds pr))]) : Option AV) = some (.tup [.lst 1 ((wkL xs ds pr).map ci), .s (.int .i64 (sbC xs ds pr))]); simp only [takeMap])

-- spec.WeakSubstations
set_option maxRecDepth 20000 in
set_option maxHeartbeats 2000000 in
theorem D_spec_WeakSubstations_X (xs : List Sb) (ds : List Int) (pr : Int) (hx : xs.length ≤ 2932031007402) (hz : ∀ (j : Nat) (x : Sb), xs[j]? = some x → x.id.size ≤ 140737488351232) (hd : ds.length ≤ 17592186044416) : DenX Try.prog 36 [] [.lst 5 (xs.map sbA), .s (.int .i64 pr), .lst 1 (ds.map ci)] [(38, .row 2 1 ((wkL xs ds pr).map ci))] (.tup [.own 38 (wkL xs ds pr).length, .s (.int .i64 (sbC xs ds pr))]) := by
  refine denX_of_good Try.func36 (by decide) rfl (Nat.le_of_ble_eq_true rfl) (Nat.le_of_ble_eq_true rfl) rfl ?_
  refine good_seq fun K1 hK1 => ?_
  refine good_region rfl ?_
  refine ev_q rfl (q_assign (by conv => lhs; whnf) ?_)
  refine ev_q rfl (q_assign (by conv => lhs; whnf) ?_)
  refine ev_nil (hK1 _ ?_); clear hK1
  refine good_seq fun K2 hK2 => ?_
  refine good_region rfl ?_
  refine ev_q rfl (q_move (by conv => lhs; whnf) ?_)
  refine ev_q rfl (q_move (by conv => lhs; whnf) ?_)
  refine ev_q rfl (q_move (by conv => lhs; whnf) ?_)
  refine ev_q rfl (q_callI rfl rfl (rfl) (D_spec_l12Ask xs ds pr hx hz hd) ?_)
  intro n3 hn3
  refine ev_q rfl (q_assign (by conv => lhs; whnf) ?_)
  refine ev_nil (hK2 _ ?_); clear hK2
  refine good_seq fun K4 hK4 => ?_
  refine good_seq fun K5 hK5 => ?_
  refine good_region rfl ?_
  refine ev_q rfl (q_move (by conv => lhs; whnf) ?_)
  refine ev_q rfl (q_int rfl rfl ?_)
  intro b6 hb6; cases b6
  · replace hb6 := neF hb6
    refine ev_nil (hK5 _ ?_); clear hK5
    refine good_condF rfl ?_
    refine good_skip (hK4 _ ?_); clear hK4
    refine good_seq fun K7 hK7 => ?_
    refine good_region rfl ?_
    refine ev_k rfl (k_lit tE37 zA2 rfl rfl (by decide) (by decide) rfl rfl rfl ?_)
    refine ev_q rfl (q_assign (by conv => lhs; whnf) ?_)
    refine ev_nil (hK7 _ ?_); clear hK7
    refine good_seq fun K8 hK8 => ?_
    refine good_seq fun K9 hK9 => ?_
    refine good_region rfl ?_
    refine ev_q rfl (q_assign (by conv => lhs; whnf) ?_)
    refine ev_nil (hK9 _ ?_); clear hK9
    refine good_block ?_
    have hok := sbC_ok (show sbC xs ds pr = 0 by omega)
    refine good_loop (α := Nat) (fun i => { env := upd (upd (upd (upd (upd ((fun _ => .junk)) 0 (.lst 5 (xs.map sbA))) 1 (.s (.int .i64 pr))) 2 (.lst 1 (ds.map ci))) 9 (.own 38 (ixs (wkP xs ds pr) i).length)) 10 (.s (.int .i64 i)), H := upd ((fun _ => none)) 38 (some (.row 2 1 ((ixs (wkP xs ds pr) i).map ci))) }) (fun i => i ≤ xs.length) (fun i => xs.length - i) 0 ?_ ?_ ?_
    · show 0 ≤ _; omega
    · refine Sub.trans (sub_move 9 18 38 rfl rfl rfl (by decide)) ?_
      refine sub_weak ?_ ?_
      · exact weakH_row (rowEq (rfl)) (weakH_none _)
      · refine weakE_upd ?e10 ?r10 (weakE_upd ?e9 ?r9 (weakE_upd ?e2 ?r2 (weakE_upd ?e1 ?r1 (weakE_upd ?e0 ?r0 (weakE_junk _ _)))))
        case e0 => first | rfl | exact fI (by omega) | (simp_all)
        case r0 => intro h hh; cases hh
        case e1 => first | rfl | exact fI (by omega) | (simp_all)
        case r1 => intro h hh; cases hh
        case e2 => first | rfl | exact fI (by omega) | (simp_all)
        case r2 => intro h hh; cases hh
        case e9 => first | rfl | exact fI (by omega) | (first | rfl | (rw [hst]; exact ownEq (by simp)) | (rw [hst]))
        case r9 => intro h hh; simp [refs] at hh; subst hh; rfl
        case e10 => first | rfl | exact fI (by omega) | (simp_all)
        case r10 => intro h hh; cases hh
    · rintro i hI
      refine good_seq fun K10 hK10 => ?_
      refine good_seq fun K11 hK11 => ?_
      refine good_region rfl ?_
      refine ev_q rfl (q_move (by conv => lhs; whnf) ?_)
      refine ev_q rfl (q_move (by conv => lhs; whnf) ?_)
      refine ev_q rfl (q_len tEs33 rfl ?_)
      intro n12 hn12
      try simp only [List.length_map] at hn12
      refine ev_q rfl (q_int rfl rfl ?_)
      intro b13 hb13; cases b13
      · replace hb13 := dF hb13
        refine ev_nil (hK11 _ ?_); clear hK11
        refine good_condF rfl ?_
        refine good_exit ?_
        repeat (first | refine thenQ_exit ?_ | refine blockQ_pass rfl ?_)
        refine blockQ_exit (hK8 _ ?_); clear hK8
        refine good_seq fun K14 hK14 => ?_
        refine good_region rfl ?_
        refine ev_q rfl (q_move (by conv => lhs; whnf) ?_)
        refine ev_q rfl (q_assign (by conv => lhs; whnf) ?_)
        refine ev_q rfl (q_assign (by conv => lhs; whnf) ?_)
        refine ev_nil (hK14 _ ?_); clear hK14
        refine good_ret ?_
        repeat (first | refine thenQ_ret ?_ | refine blockQ_ret ?_)
        refine fx_many rfl ?_
        refine fxs_tmp (by conv => lhs; whnf) ?_
        refine fxs_tmp (by conv => lhs; whnf) ?_
        refine fx_nil ?_
        clear hK10
        have e2 : sbC xs ds pr = n3 := (by omega)
        first | (have e : wkL xs ds pr = [] := wkL_no (by omega)) | (have e : wkL xs ds pr = ixs (wkP xs ds pr) i := (by rw [wkL_ok (by omega), show xs.length = i by omega]))
        exact ⟨_, .tup (.cons (conv_eq (by first | rfl | (rw [e]; done) | (rw [e]; rfl) | exact ownEq (by first | omega | simp_all))) (.cons (conv_eq (by first | rfl | exact fI (by first | omega | grind) | (exfalso; first | omega | grind))) (.nil))), weakH_row (rowEq (by first | rfl | (rw [e]; done) | (rw [e]; rfl) | (simp_all; done))) (weakH_none _), refsIn_ok rfl⟩
      · replace hb13 := dT hb13
        obtain ⟨p, hp⟩ := getL (xs := xs) (n := (i : Int)) (by omega) (by omega)
        replace hp : xs[i]? = some p := hp
        obtain ⟨l, hl⟩ := getL (xs := ds) (n := (i : Int)) (by omega) (by omega)
        replace hl : ds[i]? = some l := hl
        have hzp := hz i p hp
        obtain ⟨_, hx1, hx2, hx3, hx4⟩ := (hok.1.2 i p hp).1
        have hlb := hok.2.2.2 _ _ hl
        have epf := pfj_eq (pr := pr) hp hl
        have h12 := hok.1.1
        refine ev_nil (hK11 _ ?_); clear hK11
        refine good_condT rfl ?_
        refine good_skip (hK10 _ ?_); clear hK10
        refine good_seq fun K15 hK15 => ?_
        refine good_block ?_
        refine good_seq fun K16 hK16 => ?_
        refine good_draw 10 hmix (by kernel_rfl) rfl ?_
        refine qo_q rfl (q_move (by conv => lhs; whnf) ?_)
        refine qo_q rfl (q_move (by conv => lhs; whnf) ?_)
        refine qo_q rfl (q_idx tE33 rfl rfl (by exact Int.natCast_nonneg _) (by exact map_get hp) rfl ?_)
        refine qo_q rfl (q_move (by conv => lhs; whnf) ?_)
        refine qo_q rfl (q_move (by conv => lhs; whnf) ?_)
        refine qo_q rfl (q_move (by conv => lhs; whnf) ?_)
        refine qo_q rfl (q_idx tE37 rfl rfl (by exact Int.natCast_nonneg _) (by exact map_get hl) rfl ?_)
        refine qo_q rfl (q_load tA2 rfl ?_)
        refine qo_q rfl (q_callI rfl rfl (rfl) (D_spec_l12Needed p.id p.nd p.tr p.su p.re pr l (by omega) (by omega) (by omega) (by omega)) ?_)
        intro n17 hn17
        refine qo_q rfl (q_int rfl rfl ?_)
        intro b18 hb18; cases b18
        · replace hb18 := dF hb18
          have hst := ixs_F (p := (wkP xs ds pr)) (n := i) (show ¬ 100000 < pfj xs ds pr i by omega)
          refine qo_nil ?_
          refine ev_nil (hK16 _ ?_); clear hK16
          refine good_condF rfl ?_
          refine good_skip (hK15 _ ?_); clear hK15
          refine good_region rfl ?_
          refine ev_q rfl (q_move (by conv => lhs; whnf) ?_)
          refine ev_q rfl (q_int rfl rfl ?_)
          intro n19 hn19
          replace hn19 := in64 hn19 (by omega) (by omega)
          refine ev_q rfl (q_assign (by conv => lhs; whnf) ?_)
          refine ev_nil ?_
          clear hK8
          refine ⟨i + 1, ?_, ?_, ?_⟩
          · show _ ≤ _; omega
          · first | omega | (simp only []; omega) | (dsimp only; omega)
          · refine sub_weak ?_ ?_
            · exact weakH_row (rowEq (by rw [hst]; first | done | (rw [List.map_append]; rfl))) (weakH_none _)
            · refine weakE_upd ?e10 ?r10 (weakE_upd ?e9 ?r9 (weakE_upd ?e2 ?r2 (weakE_upd ?e1 ?r1 (weakE_upd ?e0 ?r0 (weakE_junk _ _)))))
              case e0 => first | rfl | exact fI (by omega) | (simp_all)
              case r0 => intro h hh; cases hh
              case e1 => first | rfl | exact fI (by omega) | (simp_all)
              case r1 => intro h hh; cases hh
              case e2 => first | rfl | exact fI (by omega) | (simp_all)
              case r2 => intro h hh; cases hh
              case e9 => first | rfl | exact fI (by omega) | (first | rfl | (rw [hst]; exact ownEq (by simp)) | (rw [hst]))
              case r9 => intro h hh; simp [refs] at hh; subst hh; rfl
              case e10 => first | rfl | exact fI (by omega) | (simp_all)
              case r10 => intro h hh; cases hh
        · replace hb18 := dT hb18
          have hst := ixs_T (p := (wkP xs ds pr)) (n := i) (show 100000 < pfj xs ds pr i by omega)
          have hln := ixs_len (p := (wkP xs ds pr)) i
          refine qo_nil ?_
          refine ev_nil (hK16 _ ?_); clear hK16
          refine good_condT rfl ?_
          refine good_region rfl ?_
          refine ev_q rfl (q_move (by conv => lhs; whnf) ?_)
          refine ev_q rfl (q_move (by conv => lhs; whnf) ?_)
          refine ev_k rfl (k_lit tE37 zA2 rfl rfl (by decide) (by decide) rfl rfl rfl ?_)
          refine ev_k rfl (k_app tApp37 rfl rfl (by simp) rfl (.inr rfl) (by show _ ≤ _; have := (ixs_len (p := (wkP xs ds pr)) i); simp [maxLen]; omega) (by have := (ixs_len (p := (wkP xs ds pr)) i); simp; omega) ?_)
          refine ev_q rfl (q_assign (by conv => lhs; whnf) ?_)
          refine ev_nil (hK15 _ ?_); clear hK15
          refine good_region rfl ?_
          refine ev_q rfl (q_move (by conv => lhs; whnf) ?_)
          refine ev_q rfl (q_int rfl rfl ?_)
          intro n20 hn20
          replace hn20 := in64 hn20 (by omega) (by omega)
          refine ev_q rfl (q_assign (by conv => lhs; whnf) ?_)
          refine ev_nil ?_
          clear hK8
          refine ⟨i + 1, ?_, ?_, ?_⟩
          · show _ ≤ _; omega
          · first | omega | (simp only []; omega) | (dsimp only; omega)
          · refine sub_weak ?_ ?_
            · exact weakH_row (rowEq (by rw [hst]; first | done | (rw [List.map_append]; rfl))) (weakH_none _)
            · refine weakE_upd ?e10 ?r10 (weakE_upd ?e9 ?r9 (weakE_upd ?e2 ?r2 (weakE_upd ?e1 ?r1 (weakE_upd ?e0 ?r0 (weakE_junk _ _)))))
              case e0 => first | rfl | exact fI (by omega) | (simp_all)
              case r0 => intro h hh; cases hh
              case e1 => first | rfl | exact fI (by omega) | (simp_all)
              case r1 => intro h hh; cases hh
              case e2 => first | rfl | exact fI (by omega) | (simp_all)
              case r2 => intro h hh; cases hh
              case e9 => first | rfl | exact fI (by omega) | (first | rfl | (rw [hst]; exact ownEq (by simp)) | (rw [hst]))
              case r9 => intro h hh; simp [refs] at hh; subst hh; rfl
              case e10 => first | rfl | exact fI (by omega) | (simp_all)
              case r10 => intro h hh; cases hh
  · replace hb6 := neT hb6
    refine ev_nil (hK5 _ ?_); clear hK5
    refine good_condT rfl ?_
    refine good_seq fun K21 hK21 => ?_
    refine good_region rfl ?_
    refine ev_q rfl (q_move (by conv => lhs; whnf) ?_)
    refine ev_q rfl (q_assign (by conv => lhs; whnf) ?_)
    refine ev_q rfl (q_assign (by conv => lhs; whnf) ?_)
    refine ev_nil (hK21 _ ?_); clear hK21
    refine good_ret ?_
    repeat (first | refine thenQ_ret ?_ | refine blockQ_ret ?_)
    refine fx_many rfl ?_
    refine fxs_tmp (by conv => lhs; whnf) ?_
    refine fxs_tmp (by conv => lhs; whnf) ?_
    refine fx_nil ?_
    clear hK4
    have e2 : sbC xs ds pr = n3 := (by omega)
    first | (have e : wkL xs ds pr = [] := wkL_no (by omega)) | (have e : wkL xs ds pr = ixs (wkP xs ds pr) i := (by rw [wkL_ok (by omega), show xs.length = i by omega]))
    exact ⟨_, .tup (.cons (conv_nil rfl (by decide) (by rw [e]; rfl)) (.cons (conv_eq (by first | rfl | exact fI (by first | omega | grind) | (exfalso; first | omega | grind))) (.nil))), weakH_row (rowEq (by first | rfl | (rw [e]; done) | (rw [e]; rfl) | (simp_all; done))) (weakH_none _), refsIn_ok rfl⟩
theorem D_spec_WeakSubstations (xs : List Sb) (ds : List Int) (pr : Int) (hx : xs.length ≤ 2932031007402) (hz : ∀ (j : Nat) (x : Sb), xs[j]? = some x → x.id.size ≤ 140737488351232) (hd : ds.length ≤ 17592186044416) : Den Try.prog 36 [.lst 5 (xs.map sbA), .s (.int .i64 pr), .lst 1 (ds.map ci)] (.tup [.lst 1 ((wkL xs ds pr).map ci), .s (.int .i64 (sbC xs ds pr))]) :=
  den_of_denX (D_spec_WeakSubstations_X xs ds pr hx hz hd) (by change (some (.tup [.lst 1 (List.take (wkL xs ds pr).length ((wkL xs ds pr).map ci)), .s (.int .i64 (sbC xs ds pr))]) : Option AV) = some (.tup [.lst 1 ((wkL xs ds pr).map ci), .s (.int .i64 (sbC xs ds pr))]); simp only [takeMap])

-- laws.FnExactWeakSubstations
set_option maxRecDepth 20000 in
set_option maxHeartbeats 2000000 in
theorem D_laws_FnExactWeakSubstations (xs : List Sb) (ds : List Int) (pr : Int) (hx : xs.length ≤ 2932031007402) (hz : ∀ (j : Nat) (x : Sb), xs[j]? = some x → x.id.size ≤ 140737488351232) (hd : ds.length ≤ 17592186044416) : Den Try.prog 11 [.lst 5 (xs.map sbA), .s (.int .i64 pr), .lst 1 (ds.map ci)] (.s (.bool true)) := by
  refine den_of_good Try.func11 (by decide) rfl (Nat.le_of_ble_eq_true rfl) (Nat.le_of_ble_eq_true rfl) ?_
  refine good_seq fun K1 hK1 => ?_
  refine good_region rfl ?_
  refine ev_q rfl (q_assign (by conv => lhs; whnf) ?_)
  refine ev_nil (hK1 _ ?_); clear hK1
  refine good_seq fun K2 hK2 => ?_
  refine good_seq fun K3 hK3 => ?_
  refine good_region rfl ?_
  refine ev_q rfl (q_move (by conv => lhs; whnf) ?_)
  refine ev_q rfl (q_len tEs37 rfl ?_)
  intro n4 hn4
  try simp only [List.length_map] at hn4
  refine ev_q rfl (q_int rfl rfl ?_)
  intro b5 hb5; cases b5
  · replace hb5 := dF hb5
    refine ev_nil (hK3 _ ?_); clear hK3
    refine good_condF rfl ?_
    refine good_skip (hK2 _ ?_); clear hK2
    refine good_seq fun K6 hK6 => ?_
    refine good_region rfl ?_
    refine ev_q rfl (q_assign (by conv => lhs; whnf) ?_)
    refine ev_nil (hK6 _ ?_); clear hK6
    refine good_seq fun K7 hK7 => ?_
    refine good_region rfl ?_
    refine ev_q rfl (q_move (by conv => lhs; whnf) ?_)
    refine ev_q rfl (q_move (by conv => lhs; whnf) ?_)
    refine ev_q rfl (q_callI rfl rfl (rfl) (D_laws_szSubstationS _ _ hx hz (by omega)) ?_)
    intro n8 hn8
    refine ev_q rfl (q_assign (by conv => lhs; whnf) ?_)
    refine ev_nil (hK7 _ ?_); clear hK7
    refine good_seq fun K9 hK9 => ?_
    refine good_seq fun K10 hK10 => ?_
    refine good_region rfl ?_
    refine ev_q rfl (q_move (by conv => lhs; whnf) ?_)
    refine ev_q rfl (q_int rfl rfl ?_)
    intro b11 hb11; cases b11
    · replace hb11 := dF hb11
      refine ev_nil (hK10 _ ?_); clear hK10
      refine good_condF rfl ?_
      refine good_skip (hK9 _ ?_); clear hK9
      refine good_seq fun K12 hK12 => ?_
      refine good_region rfl ?_
      refine ev_q rfl (q_move (by conv => lhs; whnf) ?_)
      refine ev_q rfl (q_call rfl rfl (rfl) (D_laws_toSubstationS xs hx) rfl ?_)
      refine ev_q rfl (q_move (by conv => lhs; whnf) ?_)
      refine ev_q rfl (q_move (by conv => lhs; whnf) ?_)
      refine ev_q rfl (q_call rfl rfl (rfl) (D_laws_toInt64S ds hd) rfl ?_)
      refine ev_q rfl (q_call rfl rfl (rfl) (D_spec_WeakSubstations xs ds pr hx hz hd) rfl ?_)
      refine ev_q rfl (q_move (by conv => lhs; whnf) ?_)
      refine ev_q rfl (q_extract rfl rfl ?_)
      refine ev_q rfl (q_extractI rfl rfl ?_)
      intro n13 hn13
      refine ev_q rfl (q_assign (by conv => lhs; whnf) ?_)
      refine ev_q rfl (q_assign (by conv => lhs; whnf) ?_)
      refine ev_nil (hK12 _ ?_); clear hK12
      refine good_seq fun K14 hK14 => ?_
      refine good_region rfl ?_
      refine ev_q rfl (q_move (by conv => lhs; whnf) ?_)
      refine ev_k rfl (k_callX [(7, 900000)] (D_laws_toSubstationS_X xs hx) rfl (rfl) (rfl) trivial ⟨⟨rfl, show (900000 : Nat) < 1000000 by decide⟩, trivial⟩ rfl rfl rfl ?_)
      refine ev_q rfl (q_assign (by conv => lhs; whnf) ?_)
      refine ev_nil (hK14 _ ?_); clear hK14
      refine good_seq fun K15 hK15 => ?_
      refine good_region rfl ?_
      refine ev_q rfl (q_move (by conv => lhs; whnf) ?_)
      refine ev_k rfl (k_callX [(7, 900001)] (D_laws_toInt64S_X ds hd) rfl (rfl) (rfl) trivial ⟨⟨rfl, show (900001 : Nat) < 1000000 by decide⟩, trivial⟩ rfl rfl rfl ?_)
      refine ev_q rfl (q_assign (by conv => lhs; whnf) ?_)
      refine ev_nil (hK15 _ ?_); clear hK15
      refine good_seq fun K16 hK16 => ?_
      refine good_region rfl ?_
      refine ev_q rfl (q_move (by conv => lhs; whnf) ?_)
      refine ev_q rfl (q_move (by conv => lhs; whnf) ?_)
      refine ev_q rfl (q_move (by conv => lhs; whnf) ?_)
      refine ev_k rfl (k_callXc [(43, 900002)] (D_impl_WeakSubstations_X xs ds pr hx hz hd) rfl (by change some ([.lst 5 (List.take (xs).length ((xs).map sbA)), .s (.int .i64 pr), .lst 1 (List.take (ds).length ((ds).map ci))] : List AV) = some _; (simp only [takeMap]) <;> rfl) (⟨rfl, ⟨pure_ci, trivial⟩⟩) trivial ⟨⟨rfl, show (900002 : Nat) < 1000000 by decide⟩, trivial⟩ rfl rfl rfl ?_)
      refine ev_q rfl (q_move (by conv => lhs; whnf) ?_)
      refine ev_q rfl (q_extract rfl rfl ?_)
      refine ev_q rfl (q_extractI rfl rfl ?_)
      intro n17 hn17
      refine ev_q rfl (q_assign (by conv => lhs; whnf) ?_)
      refine ev_q rfl (q_assign (by conv => lhs; whnf) ?_)
      refine ev_nil (hK16 _ ?_); clear hK16
      refine good_seq fun K18 hK18 => ?_
      refine good_seq fun K19 hK19 => ?_
      refine good_region rfl ?_
      refine ev_q rfl (q_move (by conv => lhs; whnf) ?_)
      refine ev_q rfl (q_move (by conv => lhs; whnf) ?_)
      refine ev_q rfl (q_callB rfl rfl (by change ([.lst 1 (List.take ((wkL xs ds pr)).length (((wkL xs ds pr)).map ci)), .lst 1 (((wkL xs ds pr)).map ci)] : List AV) = _; simp only [takeMap]) (D_laws_eqInt64S (wkL xs ds pr) (by have := wkL_len (xs := xs) (ds := ds) (pr := pr); omega)) ?_)
      intro b20 hb20; cases b20
      · first | replace hb20 := dF hb20 | skip
        refine ev_q rfl (q_not rfl rfl ?_)
        refine ev_q rfl (q_move (by conv => lhs; whnf) ?_)
        refine ev_skip rfl ?_
        refine ev_skip rfl ?_
        refine ev_skip rfl ?_
        refine ev_q rfl (q_pickT rfl (by conv => lhs; whnf) ?_)
        refine ev_nil (hK19 _ ?_); clear hK19
        refine good_condT rfl ?_
        refine good_seq fun K21 hK21 => ?_
        refine good_region rfl ?_
        refine ev_q rfl (q_assign (by conv => lhs; whnf) ?_)
        refine ev_nil (hK21 _ ?_); clear hK21
        refine good_ret ?_
        repeat (first | refine thenQ_ret ?_ | refine blockQ_ret ?_)
        refine ret_tmp (st := _) rfl (by conv => lhs; whnf) rfl ?_
        clear hK18
        first | rfl | (exfalso; first | omega | contradiction | grind)
      · first | replace hb20 := dT hb20 | skip
        refine ev_q rfl (q_not rfl rfl ?_)
        refine ev_q rfl (q_move (by conv => lhs; whnf) ?_)
        refine ev_q rfl (q_move (by conv => lhs; whnf) ?_)
        refine ev_q rfl (q_move (by conv => lhs; whnf) ?_)
        refine ev_q rfl (q_int rfl rfl ?_)
        intro b22 hb22; cases b22
        · replace hb22 := neF hb22
          refine ev_q rfl (q_pickF rfl (by conv => lhs; whnf) ?_)
          refine ev_nil (hK19 _ ?_); clear hK19
          refine good_condF rfl ?_
          refine good_skip (hK18 _ ?_); clear hK18
          refine good_seq fun K23 hK23 => ?_
          refine good_seq fun K24 hK24 => ?_
          refine good_region rfl ?_
          refine ev_q rfl (q_move (by conv => lhs; whnf) ?_)
          refine ev_q rfl (q_move (by conv => lhs; whnf) ?_)
          refine ev_q rfl (q_call rfl rfl (rfl) (D_laws_toSubstationS xs hx) rfl ?_)
          refine ev_q rfl (q_callB rfl rfl (by change ([.lst 5 (List.take (xs).length ((xs).map sbA)), .lst 5 ((xs).map sbA)] : List AV) = _; simp only [takeMap]) (D_laws_eqSubstationS xs hx) ?_)
          intro b25 hb25; cases b25
          · first | replace hb25 := dF hb25 | skip
            refine ev_q rfl (q_not rfl rfl ?_)
            refine ev_nil (hK24 _ ?_); clear hK24
            refine good_condT rfl ?_
            refine good_seq fun K26 hK26 => ?_
            refine good_region rfl ?_
            refine ev_q rfl (q_assign (by conv => lhs; whnf) ?_)
            refine ev_nil (hK26 _ ?_); clear hK26
            refine good_ret ?_
            repeat (first | refine thenQ_ret ?_ | refine blockQ_ret ?_)
            refine ret_tmp (st := _) rfl (by conv => lhs; whnf) rfl ?_
            clear hK23
            first | rfl | (exfalso; first | omega | contradiction | grind)
          · first | replace hb25 := dT hb25 | skip
            refine ev_q rfl (q_not rfl rfl ?_)
            refine ev_nil (hK24 _ ?_); clear hK24
            refine good_condF rfl ?_
            refine good_skip (hK23 _ ?_); clear hK23
            refine good_seq fun K27 hK27 => ?_
            refine good_seq fun K28 hK28 => ?_
            refine good_region rfl ?_
            refine ev_q rfl (q_move (by conv => lhs; whnf) ?_)
            refine ev_q rfl (q_move (by conv => lhs; whnf) ?_)
            refine ev_q rfl (q_call rfl rfl (rfl) (D_laws_toInt64S ds hd) rfl ?_)
            refine ev_q rfl (q_callB rfl rfl (by change ([.lst 1 (List.take (ds).length ((ds).map ci)), .lst 1 ((ds).map ci)] : List AV) = _; simp only [takeMap]) (D_laws_eqInt64S ds hd) ?_)
            intro b29 hb29; cases b29
            · first | replace hb29 := dF hb29 | skip
              refine ev_q rfl (q_not rfl rfl ?_)
              refine ev_nil (hK28 _ ?_); clear hK28
              refine good_condT rfl ?_
              refine good_seq fun K30 hK30 => ?_
              refine good_region rfl ?_
              refine ev_q rfl (q_assign (by conv => lhs; whnf) ?_)
              refine ev_nil (hK30 _ ?_); clear hK30
              refine good_ret ?_
              repeat (first | refine thenQ_ret ?_ | refine blockQ_ret ?_)
              refine ret_tmp (st := _) rfl (by conv => lhs; whnf) rfl ?_
              clear hK27
              first | rfl | (exfalso; first | omega | contradiction | grind)
            · first | replace hb29 := dT hb29 | skip
              refine ev_q rfl (q_not rfl rfl ?_)
              refine ev_nil (hK28 _ ?_); clear hK28
              refine good_condF rfl ?_
              refine good_skip (hK27 _ ?_); clear hK27
              refine good_seq fun K31 hK31 => ?_
              refine good_region rfl ?_
              refine ev_q rfl (q_assign (by conv => lhs; whnf) ?_)
              refine ev_nil (hK31 _ ?_); clear hK31
              refine good_seq fun K32 hK32 => ?_
              refine good_region rfl ?_
              refine ev_q rfl (q_move (by conv => lhs; whnf) ?_)
              refine ev_q rfl (q_move (by conv => lhs; whnf) ?_)
              refine ev_k rfl (k_callXI [(1000000, 900000)] (D_laws_markSubstationS xs _ hx (by omega)) rfl (rfl) (rfl) ⟨rfl, trivial⟩ ⟨rfl, ⟨rfl, rfl, by rw [mkS_len (Nat.le_refl _)]; simp⟩, trivial⟩ rfl rfl rfl ?_)
              intro n33 hn33
              refine ev_q rfl (q_assign (by conv => lhs; whnf) ?_)
              refine ev_nil (hK32 _ ?_); clear hK32
              refine good_seq fun K34 hK34 => ?_
              refine good_region rfl ?_
              refine ev_q rfl (q_move (by conv => lhs; whnf) ?_)
              refine ev_q rfl (q_move (by conv => lhs; whnf) ?_)
              refine ev_k rfl (k_callXI [(1000000, 900001)] (D_laws_markInt64S ds _ hd (by omega)) rfl (rfl) (rfl) ⟨rfl, trivial⟩ ⟨rfl, ⟨rfl, rfl, by rw [mkC_len (Nat.le_refl _)]; simp⟩, trivial⟩ rfl rfl rfl ?_)
              intro n35 hn35
              refine ev_q rfl (q_assign (by conv => lhs; whnf) ?_)
              refine ev_nil (hK34 _ ?_); clear hK34
              refine good_seq fun K36 hK36 => ?_
              refine good_seq fun K37 hK37 => ?_
              refine good_region rfl ?_
              refine ev_q rfl (q_move (by conv => lhs; whnf) ?_)
              refine ev_q rfl (q_int rfl rfl ?_)
              intro b38 hb38; cases b38
              · replace hb38 := dF hb38
                refine ev_q rfl (q_move (by conv => lhs; whnf) ?_)
                refine ev_q rfl (q_move (by conv => lhs; whnf) ?_)
                refine ev_q rfl (q_move (by conv => lhs; whnf) ?_)
                refine ev_q rfl (q_callB rfl rfl (by change ([.lst 1 (List.take ((wkL xs ds pr)).length (((wkL xs ds pr)).map ci)), .lst 1 (((wkL xs ds pr)).map ci)] : List AV) = _; simp only [takeMap]) (D_laws_eqInt64S (wkL xs ds pr) (by have := wkL_len (xs := xs) (ds := ds) (pr := pr); omega)) ?_)
                intro b39 hb39; cases b39
                · first | replace hb39 := dF hb39 | skip
                  refine ev_q rfl (q_not rfl rfl ?_)
                  refine ev_q rfl (q_pickF rfl (by conv => lhs; whnf) ?_)
                  refine ev_q rfl (q_move (by conv => lhs; whnf) ?_)
                  refine ev_skip rfl ?_
                  refine ev_skip rfl ?_
                  refine ev_skip rfl ?_
                  refine ev_q rfl (q_pickT rfl (by conv => lhs; whnf) ?_)
                  refine ev_nil (hK37 _ ?_); clear hK37
                  refine good_condT rfl ?_
                  refine good_seq fun K40 hK40 => ?_
                  refine good_region rfl ?_
                  refine ev_q rfl (q_assign (by conv => lhs; whnf) ?_)
                  refine ev_nil (hK40 _ ?_); clear hK40
                  refine good_ret ?_
                  repeat (first | refine thenQ_ret ?_ | refine blockQ_ret ?_)
                  refine ret_tmp (st := _) rfl (by conv => lhs; whnf) rfl ?_
                  clear hK36
                  first | rfl | (exfalso; first | omega | contradiction | grind)
                · first | replace hb39 := dT hb39 | skip
                  refine ev_q rfl (q_not rfl rfl ?_)
                  refine ev_q rfl (q_pickF rfl (by conv => lhs; whnf) ?_)
                  refine ev_q rfl (q_move (by conv => lhs; whnf) ?_)
                  refine ev_q rfl (q_move (by conv => lhs; whnf) ?_)
                  refine ev_q rfl (q_move (by conv => lhs; whnf) ?_)
                  refine ev_q rfl (q_int rfl rfl ?_)
                  intro b41 hb41; cases b41
                  · replace hb41 := neF hb41
                    refine ev_q rfl (q_pickF rfl (by conv => lhs; whnf) ?_)
                    refine ev_nil (hK37 _ ?_); clear hK37
                    refine good_condF rfl ?_
                    refine good_skip (hK36 _ ?_); clear hK36
                    refine good_seq fun K42 hK42 => ?_
                    refine good_region rfl ?_
                    refine ev_q rfl (q_assign (by conv => lhs; whnf) ?_)
                    refine ev_nil (hK42 _ ?_); clear hK42
                    refine good_seq fun K43 hK43 => ?_
                    refine good_region rfl ?_
                    refine ev_q rfl (q_move (by conv => lhs; whnf) ?_)
                    refine ev_q rfl (q_move (by conv => lhs; whnf) ?_)
                    refine ev_k rfl (k_callXI [(1000000, 900002)] (D_laws_markInt64S (wkL xs ds pr) _ (by have := wkL_len (xs := xs) (ds := ds) (pr := pr); omega) (by omega)) rfl (rfl) (rfl) ⟨rfl, trivial⟩ ⟨rfl, ⟨rfl, rfl, by rw [mkC_len (Nat.le_refl _)]; simp⟩, trivial⟩ rfl rfl rfl ?_)
                    intro n44 hn44
                    refine ev_q rfl (q_assign (by conv => lhs; whnf) ?_)
                    refine ev_nil (hK43 _ ?_); clear hK43
                    refine good_seq fun K45 hK45 => ?_
                    refine good_region rfl ?_
                    refine ev_q rfl (q_assign (by conv => lhs; whnf) ?_)
                    refine ev_nil (hK45 _ ?_); clear hK45
                    refine good_seq fun K46 hK46 => ?_
                    refine good_region rfl ?_
                    refine ev_q rfl (q_move (by conv => lhs; whnf) ?_)
                    refine ev_q rfl (q_move (by conv => lhs; whnf) ?_)
                    refine ev_q rfl (q_callI rfl rfl (by change ([.lst 1 (List.take ((wkL xs ds pr)).length (mkC 1 ((wkL xs ds pr)) ((wkL xs ds pr)).length)), .s (.int .i64 1)] : List AV) = _; rw [mkC_take]) (D_laws_heldInt64S (wkL xs ds pr) 1 (by have := wkL_len (xs := xs) (ds := ds) (pr := pr); omega) (by omega)) ?_)
                    intro n47 hn47
                    refine ev_q rfl (q_assign (by conv => lhs; whnf) ?_)
                    refine ev_nil (hK46 _ ?_); clear hK46
                    refine good_seq fun K48 hK48 => ?_
                    refine good_seq fun K49 hK49 => ?_
                    refine good_region rfl ?_
                    refine ev_q rfl (q_move (by conv => lhs; whnf) ?_)
                    refine ev_q rfl (q_int rfl rfl ?_)
                    intro b50 hb50; cases b50
                    · replace hb50 := dF hb50
                      refine ev_nil (hK49 _ ?_); clear hK49
                      refine good_condF rfl ?_
                      refine good_skip (hK48 _ ?_); clear hK48
                      refine good_seq fun K51 hK51 => ?_
                      refine good_seq fun K52 hK52 => ?_
                      refine good_region rfl ?_
                      refine ev_q rfl (q_move (by conv => lhs; whnf) ?_)
                      refine ev_q rfl (q_move (by conv => lhs; whnf) ?_)
                      refine ev_q rfl (q_int rfl rfl ?_)
                      intro b53 hb53; cases b53
                      · replace hb53 := neF hb53
                        refine ev_nil (hK52 _ ?_); clear hK52
                        refine good_condF rfl ?_
                        refine good_skip (hK51 _ ?_); clear hK51
                        refine good_seq fun K54 hK54 => ?_
                        refine good_region rfl ?_
                        refine ev_q rfl (q_move (by conv => lhs; whnf) ?_)
                        refine ev_q rfl (q_call rfl rfl (rfl) (D_laws_toSubstationS xs hx) rfl ?_)
                        refine ev_q rfl (q_move (by conv => lhs; whnf) ?_)
                        refine ev_q rfl (q_move (by conv => lhs; whnf) ?_)
                        refine ev_q rfl (q_call rfl rfl (rfl) (D_laws_toInt64S ds hd) rfl ?_)
                        refine ev_q rfl (q_call rfl rfl (rfl) (D_impl_WeakSubstations xs ds pr hx hz hd) rfl ?_)
                        refine ev_q rfl (q_move (by conv => lhs; whnf) ?_)
                        refine ev_q rfl (q_extract rfl rfl ?_)
                        refine ev_q rfl (q_extractI rfl rfl ?_)
                        intro n55 hn55
                        refine ev_q rfl (q_assign (by conv => lhs; whnf) ?_)
                        refine ev_q rfl (q_assign (by conv => lhs; whnf) ?_)
                        refine ev_nil (hK54 _ ?_); clear hK54
                        refine good_seq fun K56 hK56 => ?_
                        refine good_seq fun K57 hK57 => ?_
                        refine good_region rfl ?_
                        refine ev_q rfl (q_move (by conv => lhs; whnf) ?_)
                        refine ev_q rfl (q_move (by conv => lhs; whnf) ?_)
                        refine ev_q rfl (q_callB rfl rfl (rfl) (D_laws_eqInt64S (wkL xs ds pr) (by have := wkL_len (xs := xs) (ds := ds) (pr := pr); omega)) ?_)
                        intro b58 hb58; cases b58
                        · first | replace hb58 := dF hb58 | skip
                          refine ev_q rfl (q_not rfl rfl ?_)
                          refine ev_q rfl (q_move (by conv => lhs; whnf) ?_)
                          refine ev_skip rfl ?_
                          refine ev_skip rfl ?_
                          refine ev_skip rfl ?_
                          refine ev_q rfl (q_pickT rfl (by conv => lhs; whnf) ?_)
                          refine ev_nil (hK57 _ ?_); clear hK57
                          refine good_condT rfl ?_
                          refine good_seq fun K59 hK59 => ?_
                          refine good_region rfl ?_
                          refine ev_q rfl (q_assign (by conv => lhs; whnf) ?_)
                          refine ev_nil (hK59 _ ?_); clear hK59
                          refine good_ret ?_
                          repeat (first | refine thenQ_ret ?_ | refine blockQ_ret ?_)
                          refine ret_tmp (st := _) rfl (by conv => lhs; whnf) rfl ?_
                          clear hK56
                          first | rfl | (exfalso; first | omega | contradiction | grind)
                        · first | replace hb58 := dT hb58 | skip
                          refine ev_q rfl (q_not rfl rfl ?_)
                          refine ev_q rfl (q_move (by conv => lhs; whnf) ?_)
                          refine ev_q rfl (q_move (by conv => lhs; whnf) ?_)
                          refine ev_q rfl (q_move (by conv => lhs; whnf) ?_)
                          refine ev_q rfl (q_int rfl rfl ?_)
                          intro b60 hb60; cases b60
                          · replace hb60 := neF hb60
                            refine ev_q rfl (q_pickF rfl (by conv => lhs; whnf) ?_)
                            refine ev_nil (hK57 _ ?_); clear hK57
                            refine good_condF rfl ?_
                            refine good_skip (hK56 _ ?_); clear hK56
                            refine good_seq fun K61 hK61 => ?_
                            refine good_region rfl ?_
                            refine ev_q rfl (q_assign (by conv => lhs; whnf) ?_)
                            refine ev_nil (hK61 _ ?_); clear hK61
                            refine good_seq fun K62 hK62 => ?_
                            refine good_region rfl ?_
                            refine ev_q rfl (q_move (by conv => lhs; whnf) ?_)
                            refine ev_q rfl (q_move (by conv => lhs; whnf) ?_)
                            refine ev_q rfl (q_callI rfl rfl (by change ([.lst 1 (List.take ((wkL xs ds pr)).length (mkC 1 ((wkL xs ds pr)) ((wkL xs ds pr)).length)), .s (.int .i64 1)] : List AV) = _; rw [mkC_take]) (D_laws_heldInt64S (wkL xs ds pr) 1 (by have := wkL_len (xs := xs) (ds := ds) (pr := pr); omega) (by omega)) ?_)
                            intro n63 hn63
                            refine ev_q rfl (q_assign (by conv => lhs; whnf) ?_)
                            refine ev_nil (hK62 _ ?_); clear hK62
                            refine good_seq fun K64 hK64 => ?_
                            refine good_seq fun K65 hK65 => ?_
                            refine good_region rfl ?_
                            refine ev_q rfl (q_move (by conv => lhs; whnf) ?_)
                            refine ev_q rfl (q_int rfl rfl ?_)
                            intro b66 hb66; cases b66
                            · replace hb66 := dF hb66
                              refine ev_nil (hK65 _ ?_); clear hK65
                              refine good_condF rfl ?_
                              refine good_skip (hK64 _ ?_); clear hK64
                              refine good_seq fun K67 hK67 => ?_
                              refine good_seq fun K68 hK68 => ?_
                              refine good_region rfl ?_
                              refine ev_q rfl (q_move (by conv => lhs; whnf) ?_)
                              refine ev_q rfl (q_move (by conv => lhs; whnf) ?_)
                              refine ev_q rfl (q_int rfl rfl ?_)
                              intro b69 hb69; cases b69
                              · replace hb69 := neF hb69
                                refine ev_nil (hK68 _ ?_); clear hK68
                                refine good_condF rfl ?_
                                refine good_skip (hK67 _ ?_); clear hK67
                                refine good_seq fun K70 hK70 => ?_
                                refine good_region rfl ?_
                                refine ev_q rfl (q_assign (by conv => lhs; whnf) ?_)
                                refine ev_nil (hK70 _ ?_); clear hK70
                                refine good_ret ?_
                                repeat (first | refine thenQ_ret ?_ | refine blockQ_ret ?_)
                                refine ret_tmp (st := _) rfl (by conv => lhs; whnf) rfl ?_
                                first | rfl | (exfalso; first | omega | contradiction | grind)
                              · replace hb69 := neT hb69
                                refine ev_nil (hK68 _ ?_); clear hK68
                                refine good_condT rfl ?_
                                refine good_seq fun K71 hK71 => ?_
                                refine good_region rfl ?_
                                refine ev_q rfl (q_assign (by conv => lhs; whnf) ?_)
                                refine ev_nil (hK71 _ ?_); clear hK71
                                refine good_ret ?_
                                repeat (first | refine thenQ_ret ?_ | refine blockQ_ret ?_)
                                refine ret_tmp (st := _) rfl (by conv => lhs; whnf) rfl ?_
                                clear hK67
                                first | rfl | (exfalso; first | omega | contradiction | grind)
                            · replace hb66 := dT hb66
                              refine ev_nil (hK65 _ ?_); clear hK65
                              refine good_condT rfl ?_
                              refine good_seq fun K72 hK72 => ?_
                              refine good_region rfl ?_
                              refine ev_q rfl (q_assign (by conv => lhs; whnf) ?_)
                              refine ev_nil (hK72 _ ?_); clear hK72
                              refine good_ret ?_
                              repeat (first | refine thenQ_ret ?_ | refine blockQ_ret ?_)
                              refine ret_tmp (st := _) rfl (by conv => lhs; whnf) rfl ?_
                              clear hK64
                              first | rfl | (exfalso; first | omega | contradiction | grind)
                          · replace hb60 := neT hb60
                            refine ev_q rfl (q_pickF rfl (by conv => lhs; whnf) ?_)
                            refine ev_nil (hK57 _ ?_); clear hK57
                            refine good_condT rfl ?_
                            refine good_seq fun K73 hK73 => ?_
                            refine good_region rfl ?_
                            refine ev_q rfl (q_assign (by conv => lhs; whnf) ?_)
                            refine ev_nil (hK73 _ ?_); clear hK73
                            refine good_ret ?_
                            repeat (first | refine thenQ_ret ?_ | refine blockQ_ret ?_)
                            refine ret_tmp (st := _) rfl (by conv => lhs; whnf) rfl ?_
                            clear hK56
                            first | rfl | (exfalso; first | omega | contradiction | grind)
                      · replace hb53 := neT hb53
                        refine ev_nil (hK52 _ ?_); clear hK52
                        refine good_condT rfl ?_
                        refine good_seq fun K74 hK74 => ?_
                        refine good_region rfl ?_
                        refine ev_q rfl (q_assign (by conv => lhs; whnf) ?_)
                        refine ev_nil (hK74 _ ?_); clear hK74
                        refine good_ret ?_
                        repeat (first | refine thenQ_ret ?_ | refine blockQ_ret ?_)
                        refine ret_tmp (st := _) rfl (by conv => lhs; whnf) rfl ?_
                        clear hK51
                        first | rfl | (exfalso; first | omega | contradiction | grind)
                    · replace hb50 := dT hb50
                      refine ev_nil (hK49 _ ?_); clear hK49
                      refine good_condT rfl ?_
                      refine good_seq fun K75 hK75 => ?_
                      refine good_region rfl ?_
                      refine ev_q rfl (q_assign (by conv => lhs; whnf) ?_)
                      refine ev_nil (hK75 _ ?_); clear hK75
                      refine good_ret ?_
                      repeat (first | refine thenQ_ret ?_ | refine blockQ_ret ?_)
                      refine ret_tmp (st := _) rfl (by conv => lhs; whnf) rfl ?_
                      clear hK48
                      first | rfl | (exfalso; first | omega | contradiction | grind)
                  · replace hb41 := neT hb41
                    refine ev_q rfl (q_pickF rfl (by conv => lhs; whnf) ?_)
                    refine ev_nil (hK37 _ ?_); clear hK37
                    refine good_condT rfl ?_
                    refine good_seq fun K76 hK76 => ?_
                    refine good_region rfl ?_
                    refine ev_q rfl (q_assign (by conv => lhs; whnf) ?_)
                    refine ev_nil (hK76 _ ?_); clear hK76
                    refine good_ret ?_
                    repeat (first | refine thenQ_ret ?_ | refine blockQ_ret ?_)
                    refine ret_tmp (st := _) rfl (by conv => lhs; whnf) rfl ?_
                    clear hK36
                    first | rfl | (exfalso; first | omega | contradiction | grind)
              · replace hb38 := dT hb38
                refine ev_q rfl (q_move (by conv => lhs; whnf) ?_)
                refine ev_skip rfl ?_
                refine ev_skip rfl ?_
                refine ev_skip rfl ?_
                refine ev_skip rfl ?_
                refine ev_q rfl (q_pickT rfl (by conv => lhs; whnf) ?_)
                refine ev_q rfl (q_move (by conv => lhs; whnf) ?_)
                refine ev_skip rfl ?_
                refine ev_skip rfl ?_
                refine ev_skip rfl ?_
                refine ev_q rfl (q_pickT rfl (by conv => lhs; whnf) ?_)
                refine ev_nil (hK37 _ ?_); clear hK37
                refine good_condT rfl ?_
                refine good_seq fun K77 hK77 => ?_
                refine good_region rfl ?_
                refine ev_q rfl (q_assign (by conv => lhs; whnf) ?_)
                refine ev_nil (hK77 _ ?_); clear hK77
                refine good_ret ?_
                repeat (first | refine thenQ_ret ?_ | refine blockQ_ret ?_)
                refine ret_tmp (st := _) rfl (by conv => lhs; whnf) rfl ?_
                clear hK36
                first | rfl | (exfalso; first | omega | contradiction | grind)
        · replace hb22 := neT hb22
          refine ev_q rfl (q_pickF rfl (by conv => lhs; whnf) ?_)
          refine ev_nil (hK19 _ ?_); clear hK19
          refine good_condT rfl ?_
          refine good_seq fun K78 hK78 => ?_
          refine good_region rfl ?_
          refine ev_q rfl (q_assign (by conv => lhs; whnf) ?_)
          refine ev_nil (hK78 _ ?_); clear hK78
          refine good_ret ?_
          repeat (first | refine thenQ_ret ?_ | refine blockQ_ret ?_)
          refine ret_tmp (st := _) rfl (by conv => lhs; whnf) rfl ?_
          clear hK18
          first | rfl | (exfalso; first | omega | contradiction | grind)
    · replace hb11 := dT hb11
      refine ev_nil (hK10 _ ?_); clear hK10
      refine good_condT rfl ?_
      refine good_seq fun K79 hK79 => ?_
      refine good_region rfl ?_
      refine ev_q rfl (q_assign (by conv => lhs; whnf) ?_)
      refine ev_nil (hK79 _ ?_); clear hK79
      refine good_ret ?_
      repeat (first | refine thenQ_ret ?_ | refine blockQ_ret ?_)
      refine ret_tmp (st := _) rfl (by conv => lhs; whnf) rfl ?_
      clear hK9
      first | rfl | (exfalso; first | omega | contradiction | grind)
  · replace hb5 := dT hb5
    refine ev_nil (hK3 _ ?_); clear hK3
    refine good_condT rfl ?_
    refine good_seq fun K80 hK80 => ?_
    refine good_region rfl ?_
    refine ev_q rfl (q_assign (by conv => lhs; whnf) ?_)
    refine ev_nil (hK80 _ ?_); clear hK80
    refine good_ret ?_
    repeat (first | refine thenQ_ret ?_ | refine blockQ_ret ?_)
    refine ret_tmp (st := _) rfl (by conv => lhs; whnf) rfl ?_
    clear hK2
    first | rfl | (exfalso; first | omega | contradiction | grind)

end Go.Proofs.Ythhajcpgbcpbmaa.DFnExactWeakSubstations
