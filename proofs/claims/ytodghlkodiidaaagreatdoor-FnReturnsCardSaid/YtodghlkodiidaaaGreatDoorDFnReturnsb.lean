/- Walks through the functions that FnReturns reaches: what each answers. -/
import Derived.Test.YtodghlkodiidaaaGreatDoorDFnReturnsa
set_option linter.unusedVariables false
set_option linter.unusedSimpArgs false
namespace Go.Proofs.YtodghlkodiidaaaGreatDoor.DFnReturns
open Go Go.RowKit Go.Proofs Go.Proofs.YtodghlkodiidaaaGreatDoor Go.Proofs.YtodghlkodiidaaaGreatDoor.Ev
-- impl.ValidSubstations
set_option maxRecDepth 20000 in
set_option maxHeartbeats 2000000 in
theorem D_impl_ValidSubstations (xs : List Sb) (hx : xs.length ≤ 2932031007402) (hz : ∀ (j : Nat) (x : Sb), xs[j]? = some x → x.id.size ≤ 140737488351232) : Den Tryz.prog 85 [.lst 5 (xs.map sbA)] (.s (.bool (decide (subsOk xs)))) := by
  refine den_of_good Tryz.func85 (by decide) rfl (Nat.le_of_ble_eq_true rfl) (Nat.le_of_ble_eq_true rfl) ?_
  refine good_seq fun K1 hK1 => ?_
  refine good_region rfl ?_
  refine ev_q rfl (q_assign (by conv => lhs; whnf) ?_)
  refine ev_nil (hK1 _ ?_); clear hK1
  refine good_seq fun K2 hK2 => ?_
  refine good_seq fun K3 hK3 => ?_
  refine good_region rfl ?_
  refine ev_q rfl (q_move (by conv => lhs; whnf) ?_)
  refine ev_q rfl (q_len tEs35 rfl ?_)
  intro n4 hn4
  try simp only [List.length_map] at hn4
  refine ev_q rfl (q_int rfl rfl ?_)
  intro b5 hb5; cases b5
  · replace hb5 := dF hb5
    refine ev_nil (hK3 _ ?_); clear hK3
    refine good_condF rfl ?_
    refine good_skip (hK2 _ ?_); clear hK2
    refine good_seq fun K6 hK6 => ?_
    refine good_seq fun K7 hK7 => ?_
    refine good_region rfl ?_
    refine ev_q rfl (q_move (by conv => lhs; whnf) ?_)
    refine ev_q rfl (q_len tEs35 rfl ?_)
    intro n8 hn8
    try simp only [List.length_map] at hn8
    refine ev_q rfl (q_move (by conv => lhs; whnf) ?_)
    refine ev_nil (hK7 _ ?_); clear hK7
    refine good_block ?_
    refine good_loop (α := Nat) (fun i => { env := upd (upd (upd (upd ((fun _ => .junk)) 0 (.lst 5 (xs.map sbA))) 8 (.lst 5 (xs.map sbA))) 9 (.s (.int .i64 ((xs.length : Int))))) 10 (.s (.int .i64 i)), H := fun _ => none }) (fun i => i ≤ xs.length ∧ ∀ j p, j < i → xs[j]? = some p → sbAt xs j p) (fun i => xs.length - i) 0 ?_ ?_ ?_
    · exact ⟨by omega, fun j u hj => by omega⟩
    · refine sub_weak ?_ ?_
      · exact weakH_none _
      · refine weakE_upd ?e10 ?r10 (weakE_upd ?e9 ?r9 (weakE_upd ?e8 ?r8 (weakE_upd ?e0 ?r0 (weakE_junk _ _))))
        case e0 => first | rfl | exact fI (by omega) | (simp_all)
        case r0 => intro h hh; cases hh
        case e8 => first | rfl | exact fI (by omega) | (simp_all)
        case r8 => intro h hh; cases hh
        case e9 => first | rfl | exact fI (by omega) | (simp_all)
        case r9 => intro h hh; cases hh
        case e10 => first | rfl | exact fI (by omega) | (simp_all)
        case r10 => intro h hh; cases hh
    · rintro i ⟨hI, hJ⟩
      refine good_seq fun K9 hK9 => ?_
      refine good_region rfl ?_
      refine ev_q rfl (q_int rfl rfl ?_)
      intro b10 hb10; cases b10
      · replace hb10 := dF hb10
        refine ev_nil (hK9 _ ?_); clear hK9
        refine good_seq fun K11 hK11 => ?_
        refine good_condF rfl ?_
        refine good_exit ?_
        repeat (first | refine thenQ_exit ?_ | refine blockQ_pass rfl ?_)
        refine blockQ_exit (hK6 _ ?_); clear hK6
        refine good_seq fun K12 hK12 => ?_
        refine good_region rfl ?_
        refine ev_q rfl (q_assign (by conv => lhs; whnf) ?_)
        refine ev_nil (hK12 _ ?_); clear hK12
        refine good_ret ?_
        repeat (first | refine thenQ_ret ?_ | refine blockQ_ret ?_)
        refine ret_tmp (st := _) rfl (by conv => lhs; whnf) rfl ?_
        clear hK11
        first | exact fT ⟨by omega, all_finS hJ (by omega)⟩ | exact fF (fun h => by have := h.1; omega) | exact fF (subs_no hp (fun ⟨h1, h2⟩ => by first | contradiction | exact hE (h2 q (by omega) (by rw [← hq]; congr 1; omega))))
      · replace hb10 := dT hb10
        obtain ⟨p, hp⟩ := getL (xs := xs) (n := (i : Int)) (by omega) (by omega)
        replace hp : xs[i]? = some p := hp
        have hzp := hz i p hp
        refine ev_nil (hK9 _ ?_); clear hK9
        refine good_seq fun K13 hK13 => ?_
        refine good_condT rfl ?_
        refine good_skip (hK13 _ ?_); clear hK13
        refine good_seq fun K14 hK14 => ?_
        refine good_block ?_
        refine good_seq fun K15 hK15 => ?_
        refine good_region rfl ?_
        refine ev_q rfl (q_move (by conv => lhs; whnf) ?_)
        refine ev_q rfl (q_idx tE35 rfl rfl (by exact Int.natCast_nonneg _) (by exact map_get hp) rfl ?_)
        refine ev_q rfl (q_loadA tA25 rfl rfl rfl ?_)
        refine ev_k rfl (k_alloc zA25 rfl ?_)
        refine ev_q rfl (q_assign (by conv => lhs; whnf) ?_)
        refine ev_k rfl (k_store sz25 rfl (by conv => lhs; whnf) rfl rfl rfl (Nat.le_of_ble_eq_true rfl) rfl ?_)
        refine ev_nil (hK15 _ ?_); clear hK15
        refine good_seq fun K16 hK16 => ?_
        refine good_draw 18 hmix (by kernel_rfl) rfl ?_
        refine qo_q rfl (q_loadA tA25 rfl rfl rfl ?_)
        refine qo_q rfl (q_callB rfl rfl (rfl) (D_impl_ValidSubstation _ _ _ _ _ (by assumption)) ?_)
        intro b17 hb17; cases b17
        · first | replace hb17 := dF hb17 | skip
          refine qo_q rfl (q_not rfl rfl ?_)
          refine qo_q rfl (q_move (by conv => lhs; whnf) ?_)
          refine qo_skip rfl ?_
          refine qo_skip rfl ?_
          refine qo_skip rfl ?_
          refine qo_skip rfl ?_
          refine qo_skip rfl ?_
          refine qo_skip rfl ?_
          refine qo_skip rfl ?_
          refine qo_skip rfl ?_
          refine qo_skip rfl ?_
          refine qo_skip rfl ?_
          refine qo_skip rfl ?_
          refine qo_skip rfl ?_
          refine qo_skip rfl ?_
          refine qo_q rfl (q_pickT rfl (by conv => lhs; whnf) ?_)
          refine qo_nil ?_
          refine ev_nil (hK16 _ ?_); clear hK16
          refine good_condT rfl ?_
          refine good_seq fun K18 hK18 => ?_
          refine good_region rfl ?_
          refine ev_q rfl (q_assign (by conv => lhs; whnf) ?_)
          refine ev_nil (hK18 _ ?_); clear hK18
          refine good_ret ?_
          repeat (first | refine thenQ_ret ?_ | refine blockQ_ret ?_)
          refine ret_tmp (st := _) rfl (by conv => lhs; whnf) rfl ?_
          clear hK6 hK14
          first | exact fT ⟨by omega, all_finS hJ (by omega)⟩ | exact fF (fun h => by have := h.1; omega) | exact fF (subs_no hp (fun ⟨h1, h2⟩ => by first | contradiction | exact hE (h2 q (by omega) (by rw [← hq]; congr 1; omega))))
        · first | replace hb17 := dT hb17 | skip
          refine qo_q rfl (q_not rfl rfl ?_)
          refine qo_q rfl (q_move (by conv => lhs; whnf) ?_)
          refine qo_q rfl (q_move (by conv => lhs; whnf) ?_)
          refine qo_q rfl (q_int rfl rfl ?_)
          intro b19 hb19; cases b19
          · replace hb19 := dF hb19
            refine qo_q rfl (q_move (by conv => lhs; whnf) ?_)
            refine qo_skip rfl ?_
            refine qo_skip rfl ?_
            refine qo_skip rfl ?_
            refine qo_skip rfl ?_
            refine qo_skip rfl ?_
            refine qo_skip rfl ?_
            refine qo_skip rfl ?_
            refine qo_skip rfl ?_
            refine qo_skip rfl ?_
            refine qo_q rfl (q_pickF rfl (by conv => lhs; whnf) ?_)
            refine qo_q rfl (q_pickF rfl (by conv => lhs; whnf) ?_)
            refine qo_nil ?_
            refine ev_nil (hK16 _ ?_); clear hK16
            refine good_condF rfl ?_
            refine good_skip (hK14 _ ?_); clear hK14
            refine good_region rfl ?_
            refine ev_q rfl (q_int rfl rfl ?_)
            intro n20 hn20
            replace hn20 := in64 hn20 (by omega) (by omega)
            refine ev_q rfl (q_move (by conv => lhs; whnf) ?_)
            refine ev_nil ?_
            clear hK6
            refine ⟨i + 1, ?_, ?_, ?_⟩
            · refine ⟨by omega, all_extS hJ hp ?_⟩
              first | exact ⟨by assumption, fun y h0 hy => by first | omega | (have e : some y = some q := hy.symm.trans (by rw [← hq]; congr 1; omega); cases e; exact hE)⟩
            · first | omega | (simp only []; omega) | (dsimp only; omega)
            · refine sub_weak ?_ ?_
              · exact weakH_none _
              · refine weakE_upd ?e10 ?r10 (weakE_upd ?e9 ?r9 (weakE_upd ?e8 ?r8 (weakE_upd ?e0 ?r0 (weakE_junk _ _))))
                case e0 => first | rfl | exact fI (by omega) | (simp_all)
                case r0 => intro h hh; cases hh
                case e8 => first | rfl | exact fI (by omega) | (simp_all)
                case r8 => intro h hh; cases hh
                case e9 => first | rfl | exact fI (by omega) | (simp_all)
                case r9 => intro h hh; cases hh
                case e10 => first | rfl | exact fI (by omega) | (simp_all)
                case r10 => intro h hh; cases hh
          · replace hb19 := dT hb19
            refine qo_q rfl (q_move (by conv => lhs; whnf) ?_)
            refine qo_q rfl (q_fieldAddrP fO25_0 rfl rfl ?_)
            refine qo_q rfl (q_load tA9 rfl ?_)
            refine qo_q rfl (q_move (by conv => lhs; whnf) ?_)
            refine qo_q rfl (q_move (by conv => lhs; whnf) ?_)
            refine qo_q rfl (q_int rfl rfl ?_)
            intro n21 hn21
            replace hn21 := in64 hn21 (by omega) (by omega)
            obtain ⟨q, hq⟩ := getL (xs := xs) (n := n21) (by omega) (by omega)
            refine qo_q rfl (q_idx tE35 rfl rfl (by omega) (by exact map_get hq) rfl ?_)
            refine qo_q rfl (q_fieldAddr fO25_0 rfl rfl ?_)
            refine qo_q rfl (q_load tA9 rfl ?_)
            refine qo_q rfl (q_str rfl rfl ?_)
            intro b22 hb22; cases b22
            · have hE := lt_le hb22
              refine qo_q rfl (q_pickT rfl (by conv => lhs; whnf) ?_)
              refine qo_q rfl (q_pickF rfl (by conv => lhs; whnf) ?_)
              refine qo_nil ?_
              refine ev_nil (hK16 _ ?_); clear hK16
              refine good_condF rfl ?_
              refine good_skip (hK14 _ ?_); clear hK14
              refine good_region rfl ?_
              refine ev_q rfl (q_int rfl rfl ?_)
              intro n23 hn23
              replace hn23 := in64 hn23 (by omega) (by omega)
              refine ev_q rfl (q_move (by conv => lhs; whnf) ?_)
              refine ev_nil ?_
              clear hK6
              refine ⟨i + 1, ?_, ?_, ?_⟩
              · refine ⟨by omega, all_extS hJ hp ?_⟩
                first | exact ⟨by assumption, fun y h0 hy => by first | omega | (have e : some y = some q := hy.symm.trans (by rw [← hq]; congr 1; omega); cases e; exact hE)⟩
              · first | omega | (simp only []; omega) | (dsimp only; omega)
              · refine sub_weak ?_ ?_
                · exact weakH_none _
                · refine weakE_upd ?e10 ?r10 (weakE_upd ?e9 ?r9 (weakE_upd ?e8 ?r8 (weakE_upd ?e0 ?r0 (weakE_junk _ _))))
                  case e0 => first | rfl | exact fI (by omega) | (simp_all)
                  case r0 => intro h hh; cases hh
                  case e8 => first | rfl | exact fI (by omega) | (simp_all)
                  case r8 => intro h hh; cases hh
                  case e9 => first | rfl | exact fI (by omega) | (simp_all)
                  case r9 => intro h hh; cases hh
                  case e10 => first | rfl | exact fI (by omega) | (simp_all)
                  case r10 => intro h hh; cases hh
            · have hE := nlt_le hb22
              refine qo_q rfl (q_pickT rfl (by conv => lhs; whnf) ?_)
              refine qo_q rfl (q_pickF rfl (by conv => lhs; whnf) ?_)
              refine qo_nil ?_
              refine ev_nil (hK16 _ ?_); clear hK16
              refine good_condT rfl ?_
              refine good_seq fun K24 hK24 => ?_
              refine good_region rfl ?_
              refine ev_q rfl (q_assign (by conv => lhs; whnf) ?_)
              refine ev_nil (hK24 _ ?_); clear hK24
              refine good_ret ?_
              repeat (first | refine thenQ_ret ?_ | refine blockQ_ret ?_)
              refine ret_tmp (st := _) rfl (by conv => lhs; whnf) rfl ?_
              clear hK6 hK14
              first | exact fT ⟨by omega, all_finS hJ (by omega)⟩ | exact fF (fun h => by have := h.1; omega) | exact fF (subs_no hp (fun ⟨h1, h2⟩ => by first | contradiction | exact hE (h2 q (by omega) (by rw [← hq]; congr 1; omega))))
  · replace hb5 := dT hb5
    refine ev_nil (hK3 _ ?_); clear hK3
    refine good_condT rfl ?_
    refine good_seq fun K25 hK25 => ?_
    refine good_region rfl ?_
    refine ev_q rfl (q_assign (by conv => lhs; whnf) ?_)
    refine ev_nil (hK25 _ ?_); clear hK25
    refine good_ret ?_
    repeat (first | refine thenQ_ret ?_ | refine blockQ_ret ?_)
    refine ret_tmp (st := _) rfl (by conv => lhs; whnf) rfl ?_
    clear hK2
    first | exact fT ⟨by omega, all_finS hJ (by omega)⟩ | exact fF (fun h => by have := h.1; omega) | exact fF (subs_no hp (fun ⟨h1, h2⟩ => by first | contradiction | exact hE (h2 q (by omega) (by rw [← hq]; congr 1; omega))))

-- impl.substationsCode
set_option maxRecDepth 20000 in
set_option maxHeartbeats 2000000 in
theorem D_impl_substationsCode (xs : List Sb) (ds : List Int) (pr : Int) (hx : xs.length ≤ 2932031007402) (hz : ∀ (j : Nat) (x : Sb), xs[j]? = some x → x.id.size ≤ 140737488351232) (hd : ds.length ≤ 17592186044416) : Den Tryz.prog 51 [.lst 5 (xs.map sbA), .s (.int .i64 pr), .lst 1 (ds.map ci)] (.s (.int .i64 (sbC xs ds pr))) := by
  refine den_of_good Tryz.func51 (by decide) rfl (Nat.le_of_ble_eq_true rfl) (Nat.le_of_ble_eq_true rfl) ?_
  refine good_seq fun K1 hK1 => ?_
  refine good_region rfl ?_
  refine ev_q rfl (q_assign (by conv => lhs; whnf) ?_)
  refine ev_nil (hK1 _ ?_); clear hK1
  refine good_seq fun K2 hK2 => ?_
  refine good_block ?_
  refine good_seq fun K3 hK3 => ?_
  refine good_region rfl ?_
  refine ev_q rfl (q_move (by conv => lhs; whnf) ?_)
  refine ev_q rfl (q_callB rfl rfl (rfl) (D_impl_ValidSubstations _ hx hz) ?_)
  intro b4 hb4; cases b4
  · first | replace hb4 := dF hb4 | skip
    refine ev_q rfl (q_not rfl rfl ?_)
    refine ev_q rfl (q_assign (by conv => lhs; whnf) ?_)
    refine ev_nil (hK3 _ ?_); clear hK3
    refine good_condT rfl ?_
    refine good_seq fun K5 hK5 => ?_
    refine good_region rfl ?_
    refine ev_q rfl (q_assign (by conv => lhs; whnf) ?_)
    refine ev_nil (hK5 _ ?_); clear hK5
    refine good_ret ?_
    repeat (first | refine thenQ_ret ?_ | refine blockQ_ret ?_)
    refine ret_tmp (st := _) rfl (by conv => lhs; whnf) rfl ?_
    clear hK2
    first | exact fI (by rw [sbC1 (by assumption)]) | exact fI (by rw [sbC0 (by assumption) (by assumption) (by omega) (by assumption)]) | exact fI (by rw [sbC2 (by assumption) (fun h => by first | exact absurd h.1 (by assumption) | exact absurd h.2.2 (by assumption) | (have := h.2.1; omega))])
  · first | replace hb4 := dT hb4 | skip
    refine ev_q rfl (q_not rfl rfl ?_)
    refine ev_q rfl (q_assign (by conv => lhs; whnf) ?_)
    refine ev_nil (hK3 _ ?_); clear hK3
    refine good_condF rfl ?_
    refine good_seq fun K6 hK6 => ?_
    refine good_region rfl ?_
    refine ev_q rfl (q_move (by conv => lhs; whnf) ?_)
    refine ev_q rfl (q_callB rfl rfl (rfl) (D_impl_waterOk ..) ?_)
    intro b7 hb7; cases b7
    · first | replace hb7 := dF hb7 | skip
      refine ev_q rfl (q_not rfl rfl ?_)
      refine ev_q rfl (q_move (by conv => lhs; whnf) ?_)
      refine ev_skip rfl ?_
      refine ev_skip rfl ?_
      refine ev_skip rfl ?_
      refine ev_skip rfl ?_
      refine ev_skip rfl ?_
      refine ev_q rfl (q_pickT rfl (by conv => lhs; whnf) ?_)
      refine ev_q rfl (q_move (by conv => lhs; whnf) ?_)
      refine ev_skip rfl ?_
      refine ev_skip rfl ?_
      refine ev_skip rfl ?_
      refine ev_q rfl (q_pickT rfl (by conv => lhs; whnf) ?_)
      refine ev_q rfl (q_assign (by conv => lhs; whnf) ?_)
      refine ev_nil (hK6 _ ?_); clear hK6
      refine good_condT rfl ?_
      refine good_seq fun K8 hK8 => ?_
      refine good_region rfl ?_
      refine ev_q rfl (q_assign (by conv => lhs; whnf) ?_)
      refine ev_nil (hK8 _ ?_); clear hK8
      refine good_ret ?_
      repeat (first | refine thenQ_ret ?_ | refine blockQ_ret ?_)
      refine ret_tmp (st := _) rfl (by conv => lhs; whnf) rfl ?_
      clear hK2
      first | exact fI (by rw [sbC1 (by assumption)]) | exact fI (by rw [sbC0 (by assumption) (by assumption) (by omega) (by assumption)]) | exact fI (by rw [sbC2 (by assumption) (fun h => by first | exact absurd h.1 (by assumption) | exact absurd h.2.2 (by assumption) | (have := h.2.1; omega))])
    · first | replace hb7 := dT hb7 | skip
      refine ev_q rfl (q_not rfl rfl ?_)
      refine ev_q rfl (q_move (by conv => lhs; whnf) ?_)
      refine ev_q rfl (q_move (by conv => lhs; whnf) ?_)
      refine ev_q rfl (q_len tEs36 rfl ?_)
      intro n9 hn9
      try simp only [List.length_map] at hn9
      refine ev_q rfl (q_move (by conv => lhs; whnf) ?_)
      refine ev_q rfl (q_len tEs35 rfl ?_)
      intro n10 hn10
      try simp only [List.length_map] at hn10
      refine ev_q rfl (q_int rfl rfl ?_)
      intro b11 hb11; cases b11
      · replace hb11 := neF hb11
        refine ev_q rfl (q_pickF rfl (by conv => lhs; whnf) ?_)
        refine ev_q rfl (q_move (by conv => lhs; whnf) ?_)
        refine ev_q rfl (q_move (by conv => lhs; whnf) ?_)
        refine ev_q rfl (q_callB rfl rfl (rfl) (D_impl_allWithin ds _ _ hd) ?_)
        intro b12 hb12; cases b12
        · first | replace hb12 := dF hb12 | skip
          refine ev_q rfl (q_not rfl rfl ?_)
          refine ev_q rfl (q_pickF rfl (by conv => lhs; whnf) ?_)
          refine ev_q rfl (q_assign (by conv => lhs; whnf) ?_)
          refine ev_nil (hK6 _ ?_); clear hK6
          refine good_condT rfl ?_
          refine good_seq fun K13 hK13 => ?_
          refine good_region rfl ?_
          refine ev_q rfl (q_assign (by conv => lhs; whnf) ?_)
          refine ev_nil (hK13 _ ?_); clear hK13
          refine good_ret ?_
          repeat (first | refine thenQ_ret ?_ | refine blockQ_ret ?_)
          refine ret_tmp (st := _) rfl (by conv => lhs; whnf) rfl ?_
          clear hK2
          first | exact fI (by rw [sbC1 (by assumption)]) | exact fI (by rw [sbC0 (by assumption) (by assumption) (by omega) (by assumption)]) | exact fI (by rw [sbC2 (by assumption) (fun h => by first | exact absurd h.1 (by assumption) | exact absurd h.2.2 (by assumption) | (have := h.2.1; omega))])
        · first | replace hb12 := dT hb12 | skip
          refine ev_q rfl (q_not rfl rfl ?_)
          refine ev_q rfl (q_pickF rfl (by conv => lhs; whnf) ?_)
          refine ev_q rfl (q_assign (by conv => lhs; whnf) ?_)
          refine ev_nil (hK6 _ ?_); clear hK6
          refine good_condF rfl ?_
          refine good_skip (hK2 _ ?_); clear hK2
          refine good_seq fun K14 hK14 => ?_
          refine good_region rfl ?_
          refine ev_q rfl (q_assign (by conv => lhs; whnf) ?_)
          refine ev_nil (hK14 _ ?_); clear hK14
          refine good_ret ?_
          repeat (first | refine thenQ_ret ?_ | refine blockQ_ret ?_)
          refine ret_tmp (st := _) rfl (by conv => lhs; whnf) rfl ?_
          first | exact fI (by rw [sbC1 (by assumption)]) | exact fI (by rw [sbC0 (by assumption) (by assumption) (by omega) (by assumption)]) | exact fI (by rw [sbC2 (by assumption) (fun h => by first | exact absurd h.1 (by assumption) | exact absurd h.2.2 (by assumption) | (have := h.2.1; omega))])
      · replace hb11 := neT hb11
        refine ev_q rfl (q_pickF rfl (by conv => lhs; whnf) ?_)
        refine ev_q rfl (q_move (by conv => lhs; whnf) ?_)
        refine ev_skip rfl ?_
        refine ev_skip rfl ?_
        refine ev_skip rfl ?_
        refine ev_q rfl (q_pickT rfl (by conv => lhs; whnf) ?_)
        refine ev_q rfl (q_assign (by conv => lhs; whnf) ?_)
        refine ev_nil (hK6 _ ?_); clear hK6
        refine good_condT rfl ?_
        refine good_seq fun K15 hK15 => ?_
        refine good_region rfl ?_
        refine ev_q rfl (q_assign (by conv => lhs; whnf) ?_)
        refine ev_nil (hK15 _ ?_); clear hK15
        refine good_ret ?_
        repeat (first | refine thenQ_ret ?_ | refine blockQ_ret ?_)
        refine ret_tmp (st := _) rfl (by conv => lhs; whnf) rfl ?_
        clear hK2
        first | exact fI (by rw [sbC1 (by assumption)]) | exact fI (by rw [sbC0 (by assumption) (by assumption) (by omega) (by assumption)]) | exact fI (by rw [sbC2 (by assumption) (fun h => by first | exact absurd h.1 (by assumption) | exact absurd h.2.2 (by assumption) | (have := h.2.1; omega))])

-- impl.ReturnMix
set_option maxRecDepth 20000 in
set_option maxHeartbeats 2000000 in
theorem D_impl_ReturnMix (xs : List Sb) (ds : List Int) (pr : Int) (hx : xs.length ≤ 2932031007402) (hz : ∀ (j : Nat) (x : Sb), xs[j]? = some x → x.id.size ≤ 140737488351232) (hd : ds.length ≤ 17592186044416) : Den Tryz.prog 16 [.lst 5 (xs.map sbA), .s (.int .i64 pr), .lst 1 (ds.map ci)] (.tup [.s (.int .i64 (if rmC xs ds pr = 0 then dr (rmS xs ds pr xs.length) (rmA xs ds pr xs.length) else 0)), .s (.int .i64 (rmC xs ds pr))]) := by
  refine den_of_good Tryz.func16 (by decide) rfl (Nat.le_of_ble_eq_true rfl) (Nat.le_of_ble_eq_true rfl) ?_
  refine good_seq fun K1 hK1 => ?_
  refine good_region rfl ?_
  refine ev_q rfl (q_assign (by conv => lhs; whnf) ?_)
  refine ev_q rfl (q_assign (by conv => lhs; whnf) ?_)
  refine ev_nil (hK1 _ ?_); clear hK1
  refine good_seq fun K2 hK2 => ?_
  refine good_seq fun K3 hK3 => ?_
  refine good_region rfl ?_
  refine ev_q rfl (q_move (by conv => lhs; whnf) ?_)
  refine ev_q rfl (q_move (by conv => lhs; whnf) ?_)
  refine ev_q rfl (q_move (by conv => lhs; whnf) ?_)
  refine ev_q rfl (q_callI rfl rfl (rfl) (D_impl_substationsCode xs ds pr hx hz hd) ?_)
  intro n4 hn4
  refine ev_q rfl (q_assign (by conv => lhs; whnf) ?_)
  refine ev_nil (hK3 _ ?_); clear hK3
  refine good_seq fun K5 hK5 => ?_
  refine good_region rfl ?_
  refine ev_q rfl (q_move (by conv => lhs; whnf) ?_)
  refine ev_q rfl (q_int rfl rfl ?_)
  intro b6 hb6; cases b6
  · replace hb6 := neF hb6
    refine ev_nil (hK5 _ ?_); clear hK5
    refine good_condF rfl ?_
    refine good_skip (hK2 _ ?_); clear hK2
    refine good_seq fun K7 hK7 => ?_
    refine good_region rfl ?_
    refine ev_q rfl (q_assign (by conv => lhs; whnf) ?_)
    refine ev_q rfl (q_assign (by conv => lhs; whnf) ?_)
    refine ev_nil (hK7 _ ?_); clear hK7
    refine good_seq fun K8 hK8 => ?_
    refine good_seq fun K9 hK9 => ?_
    refine good_region rfl ?_
    refine ev_q rfl (q_move (by conv => lhs; whnf) ?_)
    refine ev_q rfl (q_len tEs35 rfl ?_)
    intro n10 hn10
    try simp only [List.length_map] at hn10
    refine ev_q rfl (q_move (by conv => lhs; whnf) ?_)
    refine ev_nil (hK9 _ ?_); clear hK9
    refine good_block ?_
    have hok := sbC_ok (show sbC xs ds pr = 0 by omega)
    refine good_loop (α := Nat) (fun i => { env := upd (upd (upd (upd (upd (upd (upd ((fun _ => .junk)) 1 (.s (.int .i64 pr))) 2 (.lst 1 (ds.map ci))) 9 (.s (.int .i64 (rmS xs ds pr i)))) 10 (.s (.int .i64 (rmA xs ds pr i)))) 24 (.lst 5 (xs.map sbA))) 25 (.s (.int .i64 ((xs.length : Int))))) 26 (.s (.int .i64 i)), H := fun _ => none }) (fun i => i ≤ xs.length ∧ ∀ j, j < i → pfj xs ds pr j ≤ 100000) (fun i => xs.length - i) 0 ?_ ?_ ?_
    · exact ⟨by omega, fun j hj => by omega⟩
    · refine sub_weak ?_ ?_
      · exact weakH_none _
      · refine weakE_upd ?e26 ?r26 (weakE_upd ?e25 ?r25 (weakE_upd ?e24 ?r24 (weakE_upd ?e10 ?r10 (weakE_upd ?e9 ?r9 (weakE_upd ?e2 ?r2 (weakE_upd ?e1 ?r1 (weakE_junk _ _)))))))
        case e1 => first | rfl | exact fI (by omega) | (simp_all)
        case r1 => intro h hh; cases hh
        case e2 => first | rfl | exact fI (by omega) | (simp_all)
        case r2 => intro h hh; cases hh
        case e9 => first | rfl | exact fI (by omega) | (first | rfl | exact fI (by rw [s1]; first | done | (rw [ebk, epq]; omega)))
        case r9 => intro h hh; cases hh
        case e10 => first | rfl | exact fI (by omega) | (first | rfl | exact fI (by rw [s2]; first | done | omega))
        case r10 => intro h hh; cases hh
        case e24 => first | rfl | exact fI (by omega) | (simp_all)
        case r24 => intro h hh; cases hh
        case e25 => first | rfl | exact fI (by omega) | (simp_all)
        case r25 => intro h hh; cases hh
        case e26 => first | rfl | exact fI (by omega) | (simp_all)
        case r26 => intro h hh; cases hh
    · rintro i ⟨hI, hJ⟩
      refine good_seq fun K11 hK11 => ?_
      refine good_region rfl ?_
      refine ev_q rfl (q_int rfl rfl ?_)
      intro b12 hb12; cases b12
      · replace hb12 := dF hb12
        have hbd := rm_bd hok i hI hJ
        have h12 := hok.1.1
        refine ev_nil (hK11 _ ?_); clear hK11
        refine good_seq fun K13 hK13 => ?_
        refine good_condF rfl ?_
        refine good_exit ?_
        repeat (first | refine thenQ_exit ?_ | refine blockQ_pass rfl ?_)
        refine blockQ_exit (hK8 _ ?_); clear hK8
        refine good_seq fun K14 hK14 => ?_
        refine good_seq fun K15 hK15 => ?_
        refine good_region rfl ?_
        refine ev_q rfl (q_move (by conv => lhs; whnf) ?_)
        refine ev_q rfl (q_int rfl rfl ?_)
        intro b16 hb16; cases b16
        · replace hb16 := eqF hb16
          refine ev_nil (hK15 _ ?_); clear hK15
          refine good_condF rfl ?_
          refine good_skip (hK14 _ ?_); clear hK14
          refine good_seq fun K17 hK17 => ?_
          refine good_region rfl ?_
          refine ev_q rfl (q_move (by conv => lhs; whnf) ?_)
          refine ev_q rfl (q_move (by conv => lhs; whnf) ?_)
          refine ev_q rfl (q_callI rfl rfl (rfl) (D_impl_divRound _ _ (by omega) (by omega)) ?_)
          intro n18 hn18
          refine ev_q rfl (q_assign (by conv => lhs; whnf) ?_)
          refine ev_q rfl (q_assign (by conv => lhs; whnf) ?_)
          refine ev_nil (hK17 _ ?_); clear hK17
          refine good_ret ?_
          repeat (first | refine thenQ_ret ?_ | refine blockQ_ret ?_)
          refine ret_many rfl ?_
          refine res_tmp (by conv => lhs; whnf) rfl ?_
          refine res_tmp (by conv => lhs; whnf) rfl ?_
          refine res_nil ?_
          clear hK13
          first | (have e := rmC_c (xs := xs) (ds := ds) (pr := pr) (by omega); exact fTup1 (fI (by rw [if_neg (by omega)])) (fTup1 (fI (by omega)) rfl)) | (have e := rmC_6 (xs := xs) (ds := ds) (pr := pr) (by omega) (fun h => by first | (have := h.1 i (by omega); omega) | (have ei : xs.length = i := (by omega); rw [ei] at h; exact h.2 (by omega))); exact fTup1 (fI (by rw [if_neg (by omega)])) (fTup1 (fI (by omega)) rfl)) | (have ei : xs.length = i := (by omega); have e := rmC_0 (xs := xs) (ds := ds) (pr := pr) (by omega) (fun j hj => hJ j (by omega)) (by rw [ei]; omega); exact fTup1 (fI (by rw [if_pos e, ei]; assumption)) (fTup1 (fI (by omega)) rfl))
        · replace hb16 := eqT hb16
          refine ev_nil (hK15 _ ?_); clear hK15
          refine good_condT rfl ?_
          refine good_seq fun K19 hK19 => ?_
          refine good_region rfl ?_
          refine ev_q rfl (q_assign (by conv => lhs; whnf) ?_)
          refine ev_q rfl (q_assign (by conv => lhs; whnf) ?_)
          refine ev_nil (hK19 _ ?_); clear hK19
          refine good_ret ?_
          repeat (first | refine thenQ_ret ?_ | refine blockQ_ret ?_)
          refine ret_many rfl ?_
          refine res_tmp (by conv => lhs; whnf) rfl ?_
          refine res_tmp (by conv => lhs; whnf) rfl ?_
          refine res_nil ?_
          clear hK13 hK14
          first | (have e := rmC_c (xs := xs) (ds := ds) (pr := pr) (by omega); exact fTup1 (fI (by rw [if_neg (by omega)])) (fTup1 (fI (by omega)) rfl)) | (have e := rmC_6 (xs := xs) (ds := ds) (pr := pr) (by omega) (fun h => by first | (have := h.1 i (by omega); omega) | (have ei : xs.length = i := (by omega); rw [ei] at h; exact h.2 (by omega))); exact fTup1 (fI (by rw [if_neg (by omega)])) (fTup1 (fI (by omega)) rfl)) | (have ei : xs.length = i := (by omega); have e := rmC_0 (xs := xs) (ds := ds) (pr := pr) (by omega) (fun j hj => hJ j (by omega)) (by rw [ei]; omega); exact fTup1 (fI (by rw [if_pos e, ei]; assumption)) (fTup1 (fI (by omega)) rfl))
      · replace hb12 := dT hb12
        obtain ⟨p, hp⟩ := getL (xs := xs) (n := (i : Int)) (by omega) (by omega)
        replace hp : xs[i]? = some p := hp
        obtain ⟨l, hl⟩ := getL (xs := ds) (n := (i : Int)) (by omega) (by omega)
        replace hl : ds[i]? = some l := hl
        have hzp := hz i p hp
        obtain ⟨_, hx1, hx2, hx3, hx4⟩ := (hok.1.2 i p hp).1
        have hlb := hok.2.2.2 _ _ hl
        have epf := pfj_eq (pr := pr) hp hl
        have hpb := pfP_bd (tr := p.tr) (su := p.su) (re := p.re) (pr := pr) (ld := l)
        have hbd := rm_bd hok i hI hJ
        have h12 := hok.1.1
        refine ev_nil (hK11 _ ?_); clear hK11
        refine good_seq fun K20 hK20 => ?_
        refine good_condT rfl ?_
        refine good_skip (hK20 _ ?_); clear hK20
        refine good_seq fun K21 hK21 => ?_
        refine good_block ?_
        refine good_seq fun K22 hK22 => ?_
        refine good_region rfl ?_
        refine ev_q rfl (q_move (by conv => lhs; whnf) ?_)
        refine ev_q rfl (q_idx tE35 rfl rfl (by exact Int.natCast_nonneg _) (by exact map_get hp) rfl ?_)
        refine ev_q rfl (q_loadA tA25 rfl rfl rfl ?_)
        refine ev_k rfl (k_alloc zA25 rfl ?_)
        refine ev_q rfl (q_assign (by conv => lhs; whnf) ?_)
        refine ev_k rfl (k_store sz25 rfl (by conv => lhs; whnf) rfl rfl rfl (Nat.le_of_ble_eq_true rfl) rfl ?_)
        refine ev_nil (hK22 _ ?_); clear hK22
        refine good_seq fun K23 hK23 => ?_
        refine good_draw 12 hmix (by kernel_rfl) rfl ?_
        refine qo_q rfl (q_loadA tA25 rfl rfl rfl ?_)
        refine qo_q rfl (q_move (by conv => lhs; whnf) ?_)
        refine qo_q rfl (q_move (by conv => lhs; whnf) ?_)
        refine qo_q rfl (q_move (by conv => lhs; whnf) ?_)
        refine qo_q rfl (q_idx tE36 rfl rfl (by exact Int.natCast_nonneg _) (by exact map_get hl) rfl ?_)
        refine qo_q rfl (q_load tA2 rfl ?_)
        refine qo_q rfl (q_call rfl rfl (rfl) (D_impl_Substation_primaryFlow p.id p.nd p.tr p.su p.re pr l (by omega) (by omega) (by omega) (by omega)) rfl ?_)
        refine qo_q rfl (q_move (by conv => lhs; whnf) ?_)
        refine qo_q rfl (q_extractI rfl rfl ?_)
        intro n24 hn24
        refine qo_q rfl (q_extractB rfl rfl ?_)
        intro b25 hb25; cases b25
        · first | replace hb25 := dF hb25 | skip
          refine qo_q rfl (q_assign (by conv => lhs; whnf) ?_)
          refine qo_q rfl (q_assign (by conv => lhs; whnf) ?_)
          refine qo_nil ?_
          refine ev_nil (hK23 _ ?_); clear hK23
          refine good_seq fun K26 hK26 => ?_
          refine good_seq fun K27 hK27 => ?_
          refine good_region rfl ?_
          refine ev_q rfl (q_move (by conv => lhs; whnf) ?_)
          refine ev_q rfl (q_not rfl rfl ?_)
          refine ev_nil (hK27 _ ?_); clear hK27
          refine good_condT rfl ?_
          refine good_seq fun K28 hK28 => ?_
          refine good_region rfl ?_
          refine ev_q rfl (q_assign (by conv => lhs; whnf) ?_)
          refine ev_q rfl (q_assign (by conv => lhs; whnf) ?_)
          refine ev_nil (hK28 _ ?_); clear hK28
          refine good_ret ?_
          repeat (first | refine thenQ_ret ?_ | refine blockQ_ret ?_)
          refine ret_many rfl ?_
          refine res_tmp (by conv => lhs; whnf) rfl ?_
          refine res_tmp (by conv => lhs; whnf) rfl ?_
          refine res_nil ?_
          clear hK8 hK21 hK26
          first | (have e := rmC_c (xs := xs) (ds := ds) (pr := pr) (by omega); exact fTup1 (fI (by rw [if_neg (by omega)])) (fTup1 (fI (by omega)) rfl)) | (have e := rmC_6 (xs := xs) (ds := ds) (pr := pr) (by omega) (fun h => by first | (have := h.1 i (by omega); omega) | (have ei : xs.length = i := (by omega); rw [ei] at h; exact h.2 (by omega))); exact fTup1 (fI (by rw [if_neg (by omega)])) (fTup1 (fI (by omega)) rfl)) | (have ei : xs.length = i := (by omega); have e := rmC_0 (xs := xs) (ds := ds) (pr := pr) (by omega) (fun j hj => hJ j (by omega)) (by rw [ei]; omega); exact fTup1 (fI (by rw [if_pos e, ei]; assumption)) (fTup1 (fI (by omega)) rfl))
        · first | replace hb25 := dT hb25 | skip
          refine qo_q rfl (q_assign (by conv => lhs; whnf) ?_)
          refine qo_q rfl (q_assign (by conv => lhs; whnf) ?_)
          refine qo_nil ?_
          refine ev_nil (hK23 _ ?_); clear hK23
          refine good_seq fun K29 hK29 => ?_
          refine good_seq fun K30 hK30 => ?_
          refine good_region rfl ?_
          refine ev_q rfl (q_move (by conv => lhs; whnf) ?_)
          refine ev_q rfl (q_not rfl rfl ?_)
          refine ev_nil (hK30 _ ?_); clear hK30
          refine good_condF rfl ?_
          refine good_skip (hK29 _ ?_); clear hK29
          refine good_seq fun K31 hK31 => ?_
          refine good_region rfl ?_
          refine ev_q rfl (q_move (by conv => lhs; whnf) ?_)
          refine ev_q rfl (q_int rfl rfl ?_)
          intro b32 hb32; cases b32
          · replace hb32 := dF hb32
            have s1 := rmS_F (xs := xs) (ds := ds) (pr := pr) (n := i) (by omega)
            have s2 := rmA_F (xs := xs) (ds := ds) (pr := pr) (n := i) (by omega)
            refine ev_nil (hK31 _ ?_); clear hK31
            refine good_condF rfl ?_
            refine good_skip (hK21 _ ?_); clear hK21
            refine good_region rfl ?_
            refine ev_q rfl (q_int rfl rfl ?_)
            intro n33 hn33
            replace hn33 := in64 hn33 (by omega) (by omega)
            refine ev_q rfl (q_move (by conv => lhs; whnf) ?_)
            refine ev_nil ?_
            clear hK8
            refine ⟨i + 1, ?_, ?_, ?_⟩
            · refine ⟨by omega, fun j hj => ?_⟩
              by_cases e : j = i
              · subst e; omega
              · exact hJ j (by omega)
            · first | omega | (simp only []; omega) | (dsimp only; omega)
            · refine sub_weak ?_ ?_
              · exact weakH_none _
              · refine weakE_upd ?e26 ?r26 (weakE_upd ?e25 ?r25 (weakE_upd ?e24 ?r24 (weakE_upd ?e10 ?r10 (weakE_upd ?e9 ?r9 (weakE_upd ?e2 ?r2 (weakE_upd ?e1 ?r1 (weakE_junk _ _)))))))
                case e1 => first | rfl | exact fI (by omega) | (simp_all)
                case r1 => intro h hh; cases hh
                case e2 => first | rfl | exact fI (by omega) | (simp_all)
                case r2 => intro h hh; cases hh
                case e9 => first | rfl | exact fI (by omega) | (first | rfl | exact fI (by rw [s1]; first | done | (rw [ebk, epq]; omega)))
                case r9 => intro h hh; cases hh
                case e10 => first | rfl | exact fI (by omega) | (first | rfl | exact fI (by rw [s2]; first | done | omega))
                case r10 => intro h hh; cases hh
                case e24 => first | rfl | exact fI (by omega) | (simp_all)
                case r24 => intro h hh; cases hh
                case e25 => first | rfl | exact fI (by omega) | (simp_all)
                case r25 => intro h hh; cases hh
                case e26 => first | rfl | exact fI (by omega) | (simp_all)
                case r26 => intro h hh; cases hh
          · replace hb32 := dT hb32
            have epq : pfj xs ds pr i = n24 := by rw [epf, ← hn24]
            have hre : p.re ≤ pr := pf_re (tr := p.tr) (su := p.su) (ld := l) (by omega) (by omega)
            have hbb := (bB_best (f := lesP p.tr p.su p.re pr n24) hre).1
            have ebk : bkj xs ds pr i = bB (lesP p.tr p.su p.re pr n24) p.re pr := by unfold bkj; rw [gs_eq hp, epf, ← hn24]
            have hmu := mulB (a := n24) (b := bB (lesP p.tr p.su p.re pr n24) p.re pr) (A := 100000) (B := 18000) (by omega) (by omega) (by omega) (by omega)
            have s1 := rmS_T (xs := xs) (ds := ds) (pr := pr) (n := i) (by omega)
            have s2 := rmA_T (xs := xs) (ds := ds) (pr := pr) (n := i) (by omega)
            refine ev_nil (hK31 _ ?_); clear hK31
            refine good_condT rfl ?_
            refine good_seq fun K34 hK34 => ?_
            refine good_region rfl ?_
            refine ev_q rfl (q_loadA tA25 rfl rfl rfl ?_)
            refine ev_q rfl (q_move (by conv => lhs; whnf) ?_)
            refine ev_q rfl (q_move (by conv => lhs; whnf) ?_)
            refine ev_q rfl (q_call rfl rfl (rfl) (D_impl_Substation_bestBack p.id p.nd p.tr p.su p.re pr _ (by omega) (by omega) (by omega) (by omega) (by omega) (by omega)) rfl ?_)
            refine ev_q rfl (q_move (by conv => lhs; whnf) ?_)
            refine ev_q rfl (q_extractI rfl rfl ?_)
            intro n35 hn35
            refine ev_q rfl (q_extractI rfl rfl ?_)
            intro n36 hn36
            refine ev_q rfl (q_assign (by conv => lhs; whnf) ?_)
            refine ev_q rfl (q_assign (by conv => lhs; whnf) ?_)
            refine ev_nil (hK34 _ ?_); clear hK34
            refine good_region rfl ?_
            refine ev_q rfl (q_move (by conv => lhs; whnf) ?_)
            refine ev_q rfl (q_move (by conv => lhs; whnf) ?_)
            refine ev_q rfl (q_move (by conv => lhs; whnf) ?_)
            refine ev_q rfl (q_int rfl rfl ?_)
            intro n37 hn37
            rw [hn35] at hn37
            replace hn37 := in64 hn37 (by omega) (by omega)
            refine ev_q rfl (q_int rfl rfl ?_)
            intro n38 hn38
            rw [hn37] at hn38
            replace hn38 := in64 hn38 (by omega) (by omega)
            refine ev_q rfl (q_move (by conv => lhs; whnf) ?_)
            refine ev_q rfl (q_move (by conv => lhs; whnf) ?_)
            refine ev_q rfl (q_int rfl rfl ?_)
            intro n39 hn39
            replace hn39 := in64 hn39 (by omega) (by omega)
            refine ev_q rfl (q_assign (by conv => lhs; whnf) ?_)
            refine ev_q rfl (q_assign (by conv => lhs; whnf) ?_)
            refine ev_nil (hK21 _ ?_); clear hK21
            refine good_region rfl ?_
            refine ev_q rfl (q_int rfl rfl ?_)
            intro n40 hn40
            replace hn40 := in64 hn40 (by omega) (by omega)
            refine ev_q rfl (q_move (by conv => lhs; whnf) ?_)
            refine ev_nil ?_
            clear hK8
            refine ⟨i + 1, ?_, ?_, ?_⟩
            · refine ⟨by omega, fun j hj => ?_⟩
              by_cases e : j = i
              · subst e; omega
              · exact hJ j (by omega)
            · first | omega | (simp only []; omega) | (dsimp only; omega)
            · refine sub_weak ?_ ?_
              · exact weakH_none _
              · refine weakE_upd ?e26 ?r26 (weakE_upd ?e25 ?r25 (weakE_upd ?e24 ?r24 (weakE_upd ?e10 ?r10 (weakE_upd ?e9 ?r9 (weakE_upd ?e2 ?r2 (weakE_upd ?e1 ?r1 (weakE_junk _ _)))))))
                case e1 => first | rfl | exact fI (by omega) | (simp_all)
                case r1 => intro h hh; cases hh
                case e2 => first | rfl | exact fI (by omega) | (simp_all)
                case r2 => intro h hh; cases hh
                case e9 => first | rfl | exact fI (by omega) | (first | rfl | exact fI (by rw [s1]; first | done | (rw [ebk, epq]; omega)))
                case r9 => intro h hh; cases hh
                case e10 => first | rfl | exact fI (by omega) | (first | rfl | exact fI (by rw [s2]; first | done | omega))
                case r10 => intro h hh; cases hh
                case e24 => first | rfl | exact fI (by omega) | (simp_all)
                case r24 => intro h hh; cases hh
                case e25 => first | rfl | exact fI (by omega) | (simp_all)
                case r25 => intro h hh; cases hh
                case e26 => first | rfl | exact fI (by omega) | (simp_all)
                case r26 => intro h hh; cases hh
  · replace hb6 := neT hb6
    refine ev_nil (hK5 _ ?_); clear hK5
    refine good_condT rfl ?_
    refine good_seq fun K41 hK41 => ?_
    refine good_region rfl ?_
    refine ev_q rfl (q_move (by conv => lhs; whnf) ?_)
    refine ev_q rfl (q_assign (by conv => lhs; whnf) ?_)
    refine ev_q rfl (q_assign (by conv => lhs; whnf) ?_)
    refine ev_nil (hK41 _ ?_); clear hK41
    refine good_ret ?_
    repeat (first | refine thenQ_ret ?_ | refine blockQ_ret ?_)
    refine ret_many rfl ?_
    refine res_tmp (by conv => lhs; whnf) rfl ?_
    refine res_tmp (by conv => lhs; whnf) rfl ?_
    refine res_nil ?_
    clear hK2
    first | (have e := rmC_c (xs := xs) (ds := ds) (pr := pr) (by omega); exact fTup1 (fI (by rw [if_neg (by omega)])) (fTup1 (fI (by omega)) rfl)) | (have e := rmC_6 (xs := xs) (ds := ds) (pr := pr) (by omega) (fun h => by first | (have := h.1 i (by omega); omega) | (have ei : xs.length = i := (by omega); rw [ei] at h; exact h.2 (by omega))); exact fTup1 (fI (by rw [if_neg (by omega)])) (fTup1 (fI (by omega)) rfl)) | (have ei : xs.length = i := (by omega); have e := rmC_0 (xs := xs) (ds := ds) (pr := pr) (by omega) (fun j hj => hJ j (by omega)) (by rw [ei]; omega); exact fTup1 (fI (by rw [if_pos e, ei]; assumption)) (fTup1 (fI (by omega)) rfl))

-- impl.WeakSubstations
set_option maxRecDepth 20000 in
set_option maxHeartbeats 2000000 in
theorem D_impl_WeakSubstations_X (xs : List Sb) (ds : List Int) (pr : Int) (hx : xs.length ≤ 2932031007402) (hz : ∀ (j : Nat) (x : Sb), xs[j]? = some x → x.id.size ≤ 140737488351232) (hd : ds.length ≤ 17592186044416) : DenX Tryz.prog 15 [] [.lst 5 (xs.map sbA), .s (.int .i64 pr), .lst 1 (ds.map ci)] [(43, .row 2 1 ((wkL xs ds pr).map ci))] (.tup [.own 43 (wkL xs ds pr).length, .s (.int .i64 (sbC xs ds pr))]) := by
  refine denX_of_good Tryz.func15 (by decide) rfl (Nat.le_of_ble_eq_true rfl) (Nat.le_of_ble_eq_true rfl) rfl ?_
  refine good_seq fun K1 hK1 => ?_
  refine good_region rfl ?_
  refine ev_q rfl (q_assign (by conv => lhs; whnf) ?_)
  refine ev_q rfl (q_assign (by conv => lhs; whnf) ?_)
  refine ev_nil (hK1 _ ?_); clear hK1
  refine good_seq fun K2 hK2 => ?_
  refine good_seq fun K3 hK3 => ?_
  refine good_region rfl ?_
  refine ev_q rfl (q_move (by conv => lhs; whnf) ?_)
  refine ev_q rfl (q_move (by conv => lhs; whnf) ?_)
  refine ev_q rfl (q_move (by conv => lhs; whnf) ?_)
  refine ev_q rfl (q_callI rfl rfl (rfl) (D_impl_substationsCode xs ds pr hx hz hd) ?_)
  intro n4 hn4
  refine ev_q rfl (q_assign (by conv => lhs; whnf) ?_)
  refine ev_nil (hK3 _ ?_); clear hK3
  refine good_seq fun K5 hK5 => ?_
  refine good_region rfl ?_
  refine ev_q rfl (q_move (by conv => lhs; whnf) ?_)
  refine ev_q rfl (q_int rfl rfl ?_)
  intro b6 hb6; cases b6
  · replace hb6 := neF hb6
    refine ev_nil (hK5 _ ?_); clear hK5
    refine good_condF rfl ?_
    refine good_skip (hK2 _ ?_); clear hK2
    refine good_seq fun K7 hK7 => ?_
    refine good_region rfl ?_
    refine ev_q rfl (q_assign (by conv => lhs; whnf) ?_)
    refine ev_nil (hK7 _ ?_); clear hK7
    refine good_seq fun K8 hK8 => ?_
    refine good_seq fun K9 hK9 => ?_
    refine good_region rfl ?_
    refine ev_q rfl (q_move (by conv => lhs; whnf) ?_)
    refine ev_q rfl (q_len tEs35 rfl ?_)
    intro n10 hn10
    try simp only [List.length_map] at hn10
    refine ev_q rfl (q_move (by conv => lhs; whnf) ?_)
    refine ev_nil (hK9 _ ?_); clear hK9
    refine good_block ?_
    have hok := sbC_ok (show sbC xs ds pr = 0 by omega)
    refine good_loop (α := Nat) (fun i => { env := upd (upd (upd (upd (upd (upd ((fun _ => .junk)) 1 (.s (.int .i64 pr))) 2 (.lst 1 (ds.map ci))) 9 (.own 43 (ixs (wkP xs ds pr) i).length)) 21 (.lst 5 (xs.map sbA))) 22 (.s (.int .i64 ((xs.length : Int))))) 23 (.s (.int .i64 i)), H := upd ((fun _ => none)) 43 (some (.row 2 1 ((ixs (wkP xs ds pr) i).map ci))) }) (fun i => i ≤ xs.length) (fun i => xs.length - i) 0 ?_ ?_ ?_
    · show 0 ≤ _; omega
    · refine Sub.trans (sub_nil 9 43 2 1 rfl rfl (by decide)) ?_
      refine sub_weak ?_ ?_
      · exact weakH_row (rowEq (rfl)) (weakH_none _)
      · refine weakE_upd ?e23 ?r23 (weakE_upd ?e22 ?r22 (weakE_upd ?e21 ?r21 (weakE_upd ?e9 ?r9 (weakE_upd ?e2 ?r2 (weakE_upd ?e1 ?r1 (weakE_junk _ _))))))
        case e1 => first | rfl | exact fI (by omega) | (simp_all)
        case r1 => intro h hh; cases hh
        case e2 => first | rfl | exact fI (by omega) | (simp_all)
        case r2 => intro h hh; cases hh
        case e9 => first | rfl | exact fI (by omega) | (first | rfl | (rw [hst]; exact ownEq (by simp)) | (rw [hst]))
        case r9 => intro h hh; simp [refs] at hh; subst hh; rfl
        case e21 => first | rfl | exact fI (by omega) | (simp_all)
        case r21 => intro h hh; cases hh
        case e22 => first | rfl | exact fI (by omega) | (simp_all)
        case r22 => intro h hh; cases hh
        case e23 => first | rfl | exact fI (by omega) | (simp_all)
        case r23 => intro h hh; cases hh
    · rintro i hI
      refine good_seq fun K11 hK11 => ?_
      refine good_region rfl ?_
      refine ev_q rfl (q_int rfl rfl ?_)
      intro b12 hb12; cases b12
      · replace hb12 := dF hb12
        refine ev_nil (hK11 _ ?_); clear hK11
        refine good_seq fun K13 hK13 => ?_
        refine good_condF rfl ?_
        refine good_exit ?_
        repeat (first | refine thenQ_exit ?_ | refine blockQ_pass rfl ?_)
        refine blockQ_exit (hK8 _ ?_); clear hK8
        refine good_seq fun K14 hK14 => ?_
        refine good_region rfl ?_
        refine ev_q rfl (q_move (by conv => lhs; whnf) ?_)
        refine ev_q rfl (q_assign (by conv => lhs; whnf) ?_)
        refine ev_q rfl (q_assign (by conv => lhs; whnf) ?_)
        refine ev_nil (hK14 _ ?_); clear hK14
        refine good_ret ?_
        repeat (first | refine thenQ_ret ?_ | refine blockQ_ret ?_)
        refine fx_many rfl ?_
        refine fxs_tmp (by conv => lhs; whnf) ?_
        refine fxs_tmp (by conv => lhs; whnf) ?_
        refine fx_nil ?_
        clear hK13
        have e2 : sbC xs ds pr = n4 := (by omega)
        first | (have e : wkL xs ds pr = [] := wkL_no (by omega)) | (have e : wkL xs ds pr = ixs (wkP xs ds pr) i := (by rw [wkL_ok (by omega), show xs.length = i by omega]))
        exact ⟨_, .tup (.cons (conv_eq (by first | rfl | (rw [e]; done) | (rw [e]; rfl) | exact ownEq (by first | omega | simp_all))) (.cons (conv_eq (by first | rfl | exact fI (by first | omega | grind) | (exfalso; first | omega | grind))) (.nil))), weakH_row (rowEq (by first | rfl | (rw [e]; done) | (rw [e]; rfl) | (simp_all; done))) (weakH_none _), refsIn_ok rfl⟩
      · replace hb12 := dT hb12
        obtain ⟨p, hp⟩ := getL (xs := xs) (n := (i : Int)) (by omega) (by omega)
        replace hp : xs[i]? = some p := hp
        obtain ⟨l, hl⟩ := getL (xs := ds) (n := (i : Int)) (by omega) (by omega)
        replace hl : ds[i]? = some l := hl
        have hzp := hz i p hp
        obtain ⟨_, hx1, hx2, hx3, hx4⟩ := (hok.1.2 i p hp).1
        have hlb := hok.2.2.2 _ _ hl
        have epf := pfj_eq (pr := pr) hp hl
        have h12 := hok.1.1
        refine ev_nil (hK11 _ ?_); clear hK11
        refine good_seq fun K15 hK15 => ?_
        refine good_condT rfl ?_
        refine good_skip (hK15 _ ?_); clear hK15
        refine good_seq fun K16 hK16 => ?_
        refine good_block ?_
        refine good_seq fun K17 hK17 => ?_
        refine good_region rfl ?_
        refine ev_q rfl (q_move (by conv => lhs; whnf) ?_)
        refine ev_q rfl (q_idx tE35 rfl rfl (by exact Int.natCast_nonneg _) (by exact map_get hp) rfl ?_)
        refine ev_q rfl (q_loadA tA25 rfl rfl rfl ?_)
        refine ev_k rfl (k_alloc zA25 rfl ?_)
        refine ev_q rfl (q_assign (by conv => lhs; whnf) ?_)
        refine ev_k rfl (k_store sz25 rfl (by conv => lhs; whnf) rfl rfl rfl (Nat.le_of_ble_eq_true rfl) rfl ?_)
        refine ev_nil (hK17 _ ?_); clear hK17
        refine good_seq fun K18 hK18 => ?_
        refine good_draw 12 hmix (by kernel_rfl) rfl ?_
        refine qo_q rfl (q_loadA tA25 rfl rfl rfl ?_)
        refine qo_q rfl (q_move (by conv => lhs; whnf) ?_)
        refine qo_q rfl (q_move (by conv => lhs; whnf) ?_)
        refine qo_q rfl (q_move (by conv => lhs; whnf) ?_)
        refine qo_q rfl (q_idx tE36 rfl rfl (by exact Int.natCast_nonneg _) (by exact map_get hl) rfl ?_)
        refine qo_q rfl (q_load tA2 rfl ?_)
        refine qo_q rfl (q_call rfl rfl (rfl) (D_impl_Substation_primaryFlow p.id p.nd p.tr p.su p.re pr l (by omega) (by omega) (by omega) (by omega)) rfl ?_)
        refine qo_q rfl (q_move (by conv => lhs; whnf) ?_)
        refine qo_q rfl (q_extractI rfl rfl ?_)
        intro n19 hn19
        refine qo_q rfl (q_extractB rfl rfl ?_)
        intro b20 hb20; cases b20
        · first | replace hb20 := dF hb20 | skip
          have hst := ixs_T (p := (wkP xs ds pr)) (n := i) (show 100000 < pfj xs ds pr i by omega)
          have hln := ixs_len (p := (wkP xs ds pr)) i
          refine qo_q rfl (q_assign (by conv => lhs; whnf) ?_)
          refine qo_q rfl (q_assign (by conv => lhs; whnf) ?_)
          refine qo_nil ?_
          refine ev_nil (hK18 _ ?_); clear hK18
          refine good_seq fun K21 hK21 => ?_
          refine good_region rfl ?_
          refine ev_q rfl (q_move (by conv => lhs; whnf) ?_)
          refine ev_q rfl (q_not rfl rfl ?_)
          refine ev_nil (hK21 _ ?_); clear hK21
          refine good_condT rfl ?_
          refine good_region rfl ?_
          refine ev_q rfl (q_move (by conv => lhs; whnf) ?_)
          refine ev_q rfl (q_move (by conv => lhs; whnf) ?_)
          refine ev_k rfl (k_lit tE36 zA2 rfl rfl (by decide) (by decide) rfl rfl rfl ?_)
          refine ev_k rfl (k_app tApp36 rfl rfl (by simp) rfl (.inr rfl) (by show _ ≤ _; have := (ixs_len (p := (wkP xs ds pr)) i); simp [maxLen]; omega) (by have := (ixs_len (p := (wkP xs ds pr)) i); simp; omega) ?_)
          refine ev_q rfl (q_assign (by conv => lhs; whnf) ?_)
          refine ev_nil (hK16 _ ?_); clear hK16
          refine good_region rfl ?_
          refine ev_q rfl (q_int rfl rfl ?_)
          intro n22 hn22
          replace hn22 := in64 hn22 (by omega) (by omega)
          refine ev_q rfl (q_move (by conv => lhs; whnf) ?_)
          refine ev_nil ?_
          clear hK8
          refine ⟨i + 1, ?_, ?_, ?_⟩
          · show _ ≤ _; omega
          · first | omega | (simp only []; omega) | (dsimp only; omega)
          · refine sub_weak ?_ ?_
            · exact weakH_row (rowEq (by rw [hst]; first | done | (rw [List.map_append]; rfl))) (weakH_none _)
            · refine weakE_upd ?e23 ?r23 (weakE_upd ?e22 ?r22 (weakE_upd ?e21 ?r21 (weakE_upd ?e9 ?r9 (weakE_upd ?e2 ?r2 (weakE_upd ?e1 ?r1 (weakE_junk _ _))))))
              case e1 => first | rfl | exact fI (by omega) | (simp_all)
              case r1 => intro h hh; cases hh
              case e2 => first | rfl | exact fI (by omega) | (simp_all)
              case r2 => intro h hh; cases hh
              case e9 => first | rfl | exact fI (by omega) | (first | rfl | (rw [hst]; exact ownEq (by simp)) | (rw [hst]))
              case r9 => intro h hh; simp [refs] at hh; subst hh; rfl
              case e21 => first | rfl | exact fI (by omega) | (simp_all)
              case r21 => intro h hh; cases hh
              case e22 => first | rfl | exact fI (by omega) | (simp_all)
              case r22 => intro h hh; cases hh
              case e23 => first | rfl | exact fI (by omega) | (simp_all)
              case r23 => intro h hh; cases hh
        · first | replace hb20 := dT hb20 | skip
          have hst := ixs_F (p := (wkP xs ds pr)) (n := i) (show ¬ 100000 < pfj xs ds pr i by omega)
          refine qo_q rfl (q_assign (by conv => lhs; whnf) ?_)
          refine qo_q rfl (q_assign (by conv => lhs; whnf) ?_)
          refine qo_nil ?_
          refine ev_nil (hK18 _ ?_); clear hK18
          refine good_seq fun K23 hK23 => ?_
          refine good_region rfl ?_
          refine ev_q rfl (q_move (by conv => lhs; whnf) ?_)
          refine ev_q rfl (q_not rfl rfl ?_)
          refine ev_nil (hK23 _ ?_); clear hK23
          refine good_condF rfl ?_
          refine good_skip (hK16 _ ?_); clear hK16
          refine good_region rfl ?_
          refine ev_q rfl (q_int rfl rfl ?_)
          intro n24 hn24
          replace hn24 := in64 hn24 (by omega) (by omega)
          refine ev_q rfl (q_move (by conv => lhs; whnf) ?_)
          refine ev_nil ?_
          clear hK8
          refine ⟨i + 1, ?_, ?_, ?_⟩
          · show _ ≤ _; omega
          · first | omega | (simp only []; omega) | (dsimp only; omega)
          · refine sub_weak ?_ ?_
            · exact weakH_row (rowEq (by rw [hst]; first | done | (rw [List.map_append]; rfl))) (weakH_none _)
            · refine weakE_upd ?e23 ?r23 (weakE_upd ?e22 ?r22 (weakE_upd ?e21 ?r21 (weakE_upd ?e9 ?r9 (weakE_upd ?e2 ?r2 (weakE_upd ?e1 ?r1 (weakE_junk _ _))))))
              case e1 => first | rfl | exact fI (by omega) | (simp_all)
              case r1 => intro h hh; cases hh
              case e2 => first | rfl | exact fI (by omega) | (simp_all)
              case r2 => intro h hh; cases hh
              case e9 => first | rfl | exact fI (by omega) | (first | rfl | (rw [hst]; exact ownEq (by simp)) | (rw [hst]))
              case r9 => intro h hh; simp [refs] at hh; subst hh; rfl
              case e21 => first | rfl | exact fI (by omega) | (simp_all)
              case r21 => intro h hh; cases hh
              case e22 => first | rfl | exact fI (by omega) | (simp_all)
              case r22 => intro h hh; cases hh
              case e23 => first | rfl | exact fI (by omega) | (simp_all)
              case r23 => intro h hh; cases hh
  · replace hb6 := neT hb6
    refine ev_nil (hK5 _ ?_); clear hK5
    refine good_condT rfl ?_
    refine good_seq fun K25 hK25 => ?_
    refine good_region rfl ?_
    refine ev_q rfl (q_move (by conv => lhs; whnf) ?_)
    refine ev_q rfl (q_assign (by conv => lhs; whnf) ?_)
    refine ev_q rfl (q_assign (by conv => lhs; whnf) ?_)
    refine ev_nil (hK25 _ ?_); clear hK25
    refine good_ret ?_
    repeat (first | refine thenQ_ret ?_ | refine blockQ_ret ?_)
    refine fx_many rfl ?_
    refine fxs_tmp (by conv => lhs; whnf) ?_
    refine fxs_tmp (by conv => lhs; whnf) ?_
    refine fx_nil ?_
    clear hK2
    have e2 : sbC xs ds pr = n4 := (by omega)
    first | (have e : wkL xs ds pr = [] := wkL_no (by omega)) | (have e : wkL xs ds pr = ixs (wkP xs ds pr) i := (by rw [wkL_ok (by omega), show xs.length = i by omega]))
    exact ⟨_, .tup (.cons (conv_nil rfl (by decide) (by rw [e]; rfl)) (.cons (conv_eq (by first | rfl | exact fI (by first | omega | grind) | (exfalso; first | omega | grind))) (.nil))), weakH_row (rowEq (by first | rfl | (rw [e]; done) | (rw [e]; rfl) | (simp_all; done))) (weakH_none _), refsIn_ok rfl⟩
theorem D_impl_WeakSubstations (xs : List Sb) (ds : List Int) (pr : Int) (hx : xs.length ≤ 2932031007402) (hz : ∀ (j : Nat) (x : Sb), xs[j]? = some x → x.id.size ≤ 140737488351232) (hd : ds.length ≤ 17592186044416) : Den Tryz.prog 15 [.lst 5 (xs.map sbA), .s (.int .i64 pr), .lst 1 (ds.map ci)] (.tup [.lst 1 ((wkL xs ds pr).map ci), .s (.int .i64 (sbC xs ds pr))]) :=
  den_of_denX (D_impl_WeakSubstations_X xs ds pr hx hz hd) (by change (some (.tup [.lst 1 (List.take (wkL xs ds pr).length ((wkL xs ds pr).map ci)), .s (.int .i64 (sbC xs ds pr))]) : Option AV) = some (.tup [.lst 1 ((wkL xs ds pr).map ci), .s (.int .i64 (sbC xs ds pr))]); simp only [takeMap])

-- spec.l02Flow
set_option maxRecDepth 20000 in
set_option maxHeartbeats 2000000 in
theorem D_spec_l02Flow (a : Int)  : Den Tryz.prog 43 [.s (.int .i64 a)] (.s (.bool (decide (0 ≤ a ∧ a ≤ 100000)))) := by
  refine den_of_good Tryz.func43 (by decide) rfl (Nat.le_of_ble_eq_true rfl) (Nat.le_of_ble_eq_true rfl) ?_
  refine good_seq fun K1 hK1 => ?_
  refine good_region rfl ?_
  refine ev_q rfl (q_assign (by conv => lhs; whnf) ?_)
  refine ev_nil (hK1 _ ?_); clear hK1
  refine good_seq fun K2 hK2 => ?_
  refine good_region rfl ?_
  refine ev_q rfl (q_move (by conv => lhs; whnf) ?_)
  refine ev_q rfl (q_callB rfl rfl (rfl) (D_spec_l00In ..) ?_)
  intro b3 hb3; cases b3
  · first | replace hb3 := dF hb3 | skip
    refine ev_q rfl (q_assign (by conv => lhs; whnf) ?_)
    refine ev_nil (hK2 _ ?_); clear hK2
    refine good_ret ?_
    repeat (first | refine thenQ_ret ?_ | refine blockQ_ret ?_)
    refine ret_tmp (st := _) rfl (by conv => lhs; whnf) rfl ?_
    first | rfl | exact fT (by first | omega | grind) | exact fF (by first | omega | grind) | exact fT' (by first | omega | grind) | (exfalso; first | omega | grind)
  · first | replace hb3 := dT hb3 | skip
    refine ev_q rfl (q_assign (by conv => lhs; whnf) ?_)
    refine ev_nil (hK2 _ ?_); clear hK2
    refine good_ret ?_
    repeat (first | refine thenQ_ret ?_ | refine blockQ_ret ?_)
    refine ret_tmp (st := _) rfl (by conv => lhs; whnf) rfl ?_
    first | rfl | exact fT (by first | omega | grind) | exact fF (by first | omega | grind) | exact fT' (by first | omega | grind) | (exfalso; first | omega | grind)

-- spec.l02Power
set_option maxRecDepth 20000 in
set_option maxHeartbeats 2000000 in
theorem D_spec_l02Power (q pr b : Int) (hq : 0 ≤ q ∧ q ≤ 100000) (hp : 0 ≤ pr ∧ pr ≤ 18000) (hb : 0 ≤ b ∧ b ≤ 18001) : Den Tryz.prog 46 [.s (.int .i64 q), .s (.int .i64 pr), .s (.int .i64 b)] (.s (.int .i64 (gP q pr b))) := by
  have hg := gB hq hp hb
  refine den_of_good Tryz.func46 (by decide) rfl (Nat.le_of_ble_eq_true rfl) (Nat.le_of_ble_eq_true rfl) ?_
  refine good_seq fun K1 hK1 => ?_
  refine good_region rfl ?_
  refine ev_q rfl (q_assign (by conv => lhs; whnf) ?_)
  refine ev_nil (hK1 _ ?_); clear hK1
  refine good_seq fun K2 hK2 => ?_
  refine good_region rfl ?_
  refine ev_q rfl (q_move (by conv => lhs; whnf) ?_)
  refine ev_q rfl (q_int rfl rfl ?_)
  intro n3 hn3
  replace hn3 := in64 hn3 (by omega) (by omega)
  refine ev_q rfl (q_move (by conv => lhs; whnf) ?_)
  refine ev_q rfl (q_move (by conv => lhs; whnf) ?_)
  refine ev_q rfl (q_int rfl rfl ?_)
  intro n4 hn4
  replace hn4 := in64 hn4 (by omega) (by omega)
  refine ev_q rfl (q_int rfl rfl ?_)
  intro n5 hn5
  rw [hn3, hn4] at hn5
  replace hn5 := in64 hn5 (by omega) (by omega)
  refine ev_q rfl (q_callI rfl rfl (rfl) (D_spec_l01Div _ _ (by omega) (by omega)) ?_)
  intro n6 hn6
  rw [hn5] at hn6
  refine ev_q rfl (q_assign (by conv => lhs; whnf) ?_)
  refine ev_nil (hK2 _ ?_); clear hK2
  refine good_ret ?_
  repeat (first | refine thenQ_ret ?_ | refine blockQ_ret ?_)
  refine ret_tmp (st := _) rfl (by conv => lhs; whnf) rfl ?_
  exact fI (by assumption)

-- spec.HeatPower
set_option maxRecDepth 20000 in
set_option maxHeartbeats 2000000 in
theorem D_spec_HeatPower (q pr b : Int)  : Den Tryz.prog 9 [.s (.int .i64 q), .s (.int .i64 pr), .s (.int .i64 b)] (.tup [.s (.int .i64 (if (0 ≤ q ∧ q ≤ 100000) ∧ (0 ≤ pr ∧ pr ≤ 18000) ∧ (0 ≤ b ∧ b ≤ pr) then gP q pr b else 0)), .s (.int .i64 (if (0 ≤ q ∧ q ≤ 100000) ∧ (0 ≤ pr ∧ pr ≤ 18000) ∧ (0 ≤ b ∧ b ≤ pr) then 0 else 2))]) := by
  refine den_of_good Tryz.func9 (by decide) rfl (Nat.le_of_ble_eq_true rfl) (Nat.le_of_ble_eq_true rfl) ?_
  refine good_seq fun K1 hK1 => ?_
  refine good_region rfl ?_
  refine ev_q rfl (q_assign (by conv => lhs; whnf) ?_)
  refine ev_q rfl (q_assign (by conv => lhs; whnf) ?_)
  refine ev_nil (hK1 _ ?_); clear hK1
  refine good_seq fun K2 hK2 => ?_
  refine good_seq fun K3 hK3 => ?_
  refine good_region rfl ?_
  refine ev_q rfl (q_move (by conv => lhs; whnf) ?_)
  refine ev_q rfl (q_callB rfl rfl (rfl) (D_spec_l02Flow ..) ?_)
  intro b4 hb4; cases b4
  · first | replace hb4 := dF hb4 | skip
    refine ev_q rfl (q_not rfl rfl ?_)
    refine ev_q rfl (q_move (by conv => lhs; whnf) ?_)
    refine ev_skip rfl ?_
    refine ev_skip rfl ?_
    refine ev_skip rfl ?_
    refine ev_q rfl (q_pickT rfl (by conv => lhs; whnf) ?_)
    refine ev_q rfl (q_move (by conv => lhs; whnf) ?_)
    refine ev_skip rfl ?_
    refine ev_skip rfl ?_
    refine ev_skip rfl ?_
    refine ev_skip rfl ?_
    refine ev_q rfl (q_pickT rfl (by conv => lhs; whnf) ?_)
    refine ev_nil (hK3 _ ?_); clear hK3
    refine good_condT rfl ?_
    refine good_seq fun K5 hK5 => ?_
    refine good_region rfl ?_
    refine ev_q rfl (q_assign (by conv => lhs; whnf) ?_)
    refine ev_q rfl (q_assign (by conv => lhs; whnf) ?_)
    refine ev_nil (hK5 _ ?_); clear hK5
    refine good_ret ?_
    repeat (first | refine thenQ_ret ?_ | refine blockQ_ret ?_)
    refine ret_many rfl ?_
    refine res_tmp (by conv => lhs; whnf) rfl ?_
    refine res_tmp (by conv => lhs; whnf) rfl ?_
    refine res_nil ?_
    clear hK2
    first | exact fTup1 (fI (by grind)) (fTup1 (fI (by grind)) rfl)
  · first | replace hb4 := dT hb4 | skip
    refine ev_q rfl (q_not rfl rfl ?_)
    refine ev_q rfl (q_move (by conv => lhs; whnf) ?_)
    refine ev_q rfl (q_move (by conv => lhs; whnf) ?_)
    refine ev_q rfl (q_callB rfl rfl (rfl) (D_spec_l02Degrees ..) ?_)
    intro b6 hb6; cases b6
    · first | replace hb6 := dF hb6 | skip
      refine ev_q rfl (q_not rfl rfl ?_)
      refine ev_q rfl (q_pickF rfl (by conv => lhs; whnf) ?_)
      refine ev_q rfl (q_move (by conv => lhs; whnf) ?_)
      refine ev_skip rfl ?_
      refine ev_skip rfl ?_
      refine ev_skip rfl ?_
      refine ev_skip rfl ?_
      refine ev_q rfl (q_pickT rfl (by conv => lhs; whnf) ?_)
      refine ev_nil (hK3 _ ?_); clear hK3
      refine good_condT rfl ?_
      refine good_seq fun K7 hK7 => ?_
      refine good_region rfl ?_
      refine ev_q rfl (q_assign (by conv => lhs; whnf) ?_)
      refine ev_q rfl (q_assign (by conv => lhs; whnf) ?_)
      refine ev_nil (hK7 _ ?_); clear hK7
      refine good_ret ?_
      repeat (first | refine thenQ_ret ?_ | refine blockQ_ret ?_)
      refine ret_many rfl ?_
      refine res_tmp (by conv => lhs; whnf) rfl ?_
      refine res_tmp (by conv => lhs; whnf) rfl ?_
      refine res_nil ?_
      clear hK2
      first | exact fTup1 (fI (by grind)) (fTup1 (fI (by grind)) rfl)
    · first | replace hb6 := dT hb6 | skip
      refine ev_q rfl (q_not rfl rfl ?_)
      refine ev_q rfl (q_pickF rfl (by conv => lhs; whnf) ?_)
      refine ev_q rfl (q_move (by conv => lhs; whnf) ?_)
      refine ev_q rfl (q_move (by conv => lhs; whnf) ?_)
      refine ev_q rfl (q_move (by conv => lhs; whnf) ?_)
      refine ev_q rfl (q_callB rfl rfl (rfl) (D_spec_l00In ..) ?_)
      intro b8 hb8; cases b8
      · first | replace hb8 := dF hb8 | skip
        refine ev_q rfl (q_not rfl rfl ?_)
        refine ev_q rfl (q_pickF rfl (by conv => lhs; whnf) ?_)
        refine ev_nil (hK3 _ ?_); clear hK3
        refine good_condT rfl ?_
        refine good_seq fun K9 hK9 => ?_
        refine good_region rfl ?_
        refine ev_q rfl (q_assign (by conv => lhs; whnf) ?_)
        refine ev_q rfl (q_assign (by conv => lhs; whnf) ?_)
        refine ev_nil (hK9 _ ?_); clear hK9
        refine good_ret ?_
        repeat (first | refine thenQ_ret ?_ | refine blockQ_ret ?_)
        refine ret_many rfl ?_
        refine res_tmp (by conv => lhs; whnf) rfl ?_
        refine res_tmp (by conv => lhs; whnf) rfl ?_
        refine res_nil ?_
        clear hK2
        first | exact fTup1 (fI (by grind)) (fTup1 (fI (by grind)) rfl)
      · first | replace hb8 := dT hb8 | skip
        refine ev_q rfl (q_not rfl rfl ?_)
        refine ev_q rfl (q_pickF rfl (by conv => lhs; whnf) ?_)
        refine ev_nil (hK3 _ ?_); clear hK3
        refine good_condF rfl ?_
        refine good_skip (hK2 _ ?_); clear hK2
        refine good_seq fun K10 hK10 => ?_
        refine good_region rfl ?_
        refine ev_q rfl (q_move (by conv => lhs; whnf) ?_)
        refine ev_q rfl (q_move (by conv => lhs; whnf) ?_)
        refine ev_q rfl (q_move (by conv => lhs; whnf) ?_)
        refine ev_q rfl (q_callI rfl rfl (rfl) (D_spec_l02Power _ _ _ (by omega) (by omega) (by omega)) ?_)
        intro n11 hn11
        refine ev_q rfl (q_assign (by conv => lhs; whnf) ?_)
        refine ev_q rfl (q_assign (by conv => lhs; whnf) ?_)
        refine ev_nil (hK10 _ ?_); clear hK10
        refine good_ret ?_
        repeat (first | refine thenQ_ret ?_ | refine blockQ_ret ?_)
        refine ret_many rfl ?_
        refine res_tmp (by conv => lhs; whnf) rfl ?_
        refine res_tmp (by conv => lhs; whnf) rfl ?_
        refine res_nil ?_
        first | exact fTup1 (fI (by grind)) (fTup1 (fI (by grind)) rfl)

theorem D_parse (s : ByteArray) (v : Int) (hs : s.size ≤ 1048576) (hp : Lib.parseIntB 64 s.data.toList = .ok v) : Den Tryz.prog 97 [.s (.string s), .s (.int .i64 10), .s (.int .i64 64)] (.tup [.s (.int .i64 v), .s .nilIface]) :=
  den_parse (te := _) ⟨_, Tryz.func97, rfl, rfl⟩ s v (fun w => Tryz.strconv_ParseInt_10_at64_ok s (by omega) v hp w)
theorem D_parseN (s : ByteArray) (hs : s.size ≤ 1048576) (hno : ∀ v, Lib.parseIntB 64 s.data.toList ≠ .ok v) : DenR Tryz.prog 97 [.s (.string s), .s (.int .i64 10), .s (.int .i64 64)] (τ := Int × Nat) (fun _ => True) (fun x => .tup [.s (.int .i64 x.1), .s (.iface 140 (.pointer (some ⟨x.2, 0, none⟩)))]) :=
  denR_parse ⟨_, Tryz.func97, rfl, rfl⟩ s (by kernel_rfl) (by kernel_rfl) hno
    (fun h ev w hv hev => (Tryz.strconv_ParseInt_10_at64_syntax s (by omega) h ev w hv hev).mono fun e w' ⟨N, he, _, _, hb⟩ => ⟨_, N, he, hb⟩)
    (fun h ev w hv hev => (Tryz.strconv_ParseInt_10_at64_range s (by omega) h ev w hv hev).mono fun e w' ⟨N, he, _, _, hb⟩ => ⟨_, N, he, hb⟩)
theorem D_trim45 (s : ByteArray) : Den Tryz.prog 98 [.s (.string s), .s (.string ⟨#[45]⟩)] (.s (.string (tx (Lib.trimPrefix s.data.toList [45])))) :=
  den_trim ⟨_, Tryz.func98, rfl, rfl⟩ (fun s p w => Tryz.strings_TrimPrefix s p w) s ⟨#[45]⟩
theorem D_split (c : UInt8) (k : Nat) (s : ByteArray) (hs : s.size ≤ 1048576) (hk : 1 ≤ k) (hk2 : k ≤ 1000000) : Den Tryz.prog 64 [.s (.string s), .s (.string ⟨#[c]⟩), .s (.int .i64 (k : Int))] (.lst 1 ((splN c k s).map stA)) :=
  den_splitN (ty := _) ⟨_, Tryz.func64, rfl, rfl⟩ (by kernel_rfl) (fun s sep n m w h1 h2 h3 h4 h5 => Tryz.strings_SplitN s sep n m w h1 h2 h3 h4 h5) s ⟨#[c]⟩ k hs (by show 1 ≤ 1; decide) hk hk2

-- impl.ReadDecimal
set_option maxRecDepth 20000 in
set_option maxHeartbeats 2000000 in
theorem D_impl_ReadDecimal_ok (s : ByteArray) (v : Int) (hs : s.size ≤ 1048576) (hp : Lib.parseIntB 64 s.data.toList = .ok v) : Den Tryz.prog 66 [.s (.string s)] (.tup [.s (.int .i64 (rdN s)), .s (.bool (decide (rdB s)))]) := by
  have hv := parse_in hp
  refine den_of_good Tryz.func66 (by decide) rfl (Nat.le_of_ble_eq_true rfl) (Nat.le_of_ble_eq_true rfl) ?_
  refine good_seq fun K1 hK1 => ?_
  refine good_region rfl ?_
  refine ev_q rfl (q_assign (by conv => lhs; whnf) ?_)
  refine ev_q rfl (q_assign (by conv => lhs; whnf) ?_)
  refine ev_nil (hK1 _ ?_); clear hK1
  refine good_seq fun K2 hK2 => ?_
  refine good_region rfl ?_
  refine ev_q rfl (q_move (by conv => lhs; whnf) ?_)
  refine ev_q rfl (q_call rfl rfl (rfl) (D_parse s v hs hp) rfl ?_)
  refine ev_q rfl (q_move (by conv => lhs; whnf) ?_)
  refine ev_q rfl (q_extractI rfl rfl ?_)
  intro n3 hn3
  have h9 := hn3
  refine ev_q rfl (q_extract rfl rfl ?_)
  refine ev_q rfl (q_assign (by conv => lhs; whnf) ?_)
  refine ev_q rfl (q_assign (by conv => lhs; whnf) ?_)
  refine ev_nil (hK2 _ ?_); clear hK2
  refine good_seq fun K4 hK4 => ?_
  refine good_seq fun K5 hK5 => ?_
  refine good_region rfl ?_
  refine ev_q rfl (q_move (by conv => lhs; whnf) ?_)
  refine ev_q rfl (q_neN0 tIf109 rfl ?_)
  refine ev_q rfl (q_move (by conv => lhs; whnf) ?_)
  refine ev_q rfl (q_move (by conv => lhs; whnf) ?_)
  refine ev_q rfl (q_call rfl rfl (rfl) (D_trim45 s) rfl ?_)
  refine ev_q rfl (q_lenS tStr9 rfl ?_)
  intro n6 hn6
  refine ev_q rfl (q_int rfl rfl ?_)
  intro b7 hb7; cases b7
  · replace hb7 := dF hb7
    have h18 : (tx (Lib.trimPrefix s.data.toList [45])).size ≤ 18 := by omega
    refine ev_q rfl (q_pickF rfl (by conv => lhs; whnf) ?_)
    refine ev_q rfl (q_move (by conv => lhs; whnf) ?_)
    refine ev_q rfl (q_move (by conv => lhs; whnf) ?_)
    refine ev_q rfl (q_call rfl rfl (rfl) (D_impl_Decimal n3 (by rw [h9]; exact hv)) rfl ?_)
    refine ev_q rfl (q_move (by conv => lhs; whnf) ?_)
    refine ev_q rfl (q_str rfl rfl ?_)
    intro b8 hb8; cases b8
    · replace hb8 := snF hb8
      have hy := rd_c3 (s := s) (v := v) (by rw [← h9]; exact hb8) h18
      refine ev_q rfl (q_pickF rfl (by conv => lhs; whnf) ?_)
      refine ev_nil (hK5 _ ?_); clear hK5
      refine good_condF rfl ?_
      refine good_skip (hK4 _ ?_); clear hK4
      refine good_seq fun K9 hK9 => ?_
      refine good_region rfl ?_
      refine ev_q rfl (q_move (by conv => lhs; whnf) ?_)
      refine ev_q rfl (q_assign (by conv => lhs; whnf) ?_)
      refine ev_q rfl (q_assign (by conv => lhs; whnf) ?_)
      refine ev_nil (hK9 _ ?_); clear hK9
      refine good_ret ?_
      repeat (first | refine thenQ_ret ?_ | refine blockQ_ret ?_)
      refine ret_many rfl ?_
      refine res_tmp (by conv => lhs; whnf) rfl ?_
      refine res_tmp (by conv => lhs; whnf) rfl ?_
      refine res_nil ?_
      first | exact fTup1 (fI (rdN_no hc).symm) (fTup1 (fF hc) rfl) | exact fTup1 (fI (h9.trans hy.2.symm)) (fTup1 (fT hy.1) rfl)
    · replace hb8 := snT hb8
      have hc := rd_c2 hp (by rw [← h9]; exact hb8)
      refine ev_q rfl (q_pickF rfl (by conv => lhs; whnf) ?_)
      refine ev_nil (hK5 _ ?_); clear hK5
      refine good_condT rfl ?_
      refine good_seq fun K10 hK10 => ?_
      refine good_region rfl ?_
      refine ev_q rfl (q_assign (by conv => lhs; whnf) ?_)
      refine ev_q rfl (q_assign (by conv => lhs; whnf) ?_)
      refine ev_nil (hK10 _ ?_); clear hK10
      refine good_ret ?_
      repeat (first | refine thenQ_ret ?_ | refine blockQ_ret ?_)
      refine ret_many rfl ?_
      refine res_tmp (by conv => lhs; whnf) rfl ?_
      refine res_tmp (by conv => lhs; whnf) rfl ?_
      refine res_nil ?_
      clear hK4
      first | exact fTup1 (fI (rdN_no hc).symm) (fTup1 (fF hc) rfl) | exact fTup1 (fI (h9.trans hy.2.symm)) (fTup1 (fT hy.1) rfl)
  · replace hb7 := dT hb7
    have hc := rd_c1 hp (by omega)
    refine ev_q rfl (q_pickF rfl (by conv => lhs; whnf) ?_)
    refine ev_q rfl (q_move (by conv => lhs; whnf) ?_)
    refine ev_skip rfl ?_
    refine ev_skip rfl ?_
    refine ev_skip rfl ?_
    refine ev_skip rfl ?_
    refine ev_q rfl (q_pickT rfl (by conv => lhs; whnf) ?_)
    refine ev_nil (hK5 _ ?_); clear hK5
    refine good_condT rfl ?_
    refine good_seq fun K11 hK11 => ?_
    refine good_region rfl ?_
    refine ev_q rfl (q_assign (by conv => lhs; whnf) ?_)
    refine ev_q rfl (q_assign (by conv => lhs; whnf) ?_)
    refine ev_nil (hK11 _ ?_); clear hK11
    refine good_ret ?_
    repeat (first | refine thenQ_ret ?_ | refine blockQ_ret ?_)
    refine ret_many rfl ?_
    refine res_tmp (by conv => lhs; whnf) rfl ?_
    refine res_tmp (by conv => lhs; whnf) rfl ?_
    refine res_nil ?_
    clear hK4
    first | exact fTup1 (fI (rdN_no hc).symm) (fTup1 (fF hc) rfl) | exact fTup1 (fI (h9.trans hy.2.symm)) (fTup1 (fT hy.1) rfl)

-- impl.ReadDecimal
set_option maxRecDepth 20000 in
set_option maxHeartbeats 2000000 in
theorem D_impl_ReadDecimal_no (s : ByteArray) (hs : s.size ≤ 1048576) (hno : ∀ v, Lib.parseIntB 64 s.data.toList ≠ .ok v) : Den Tryz.prog 66 [.s (.string s)] (.tup [.s (.int .i64 (rdN s)), .s (.bool (decide (rdB s)))]) := by
  have hc := rd_c0 hno
  refine den_of_good Tryz.func66 (by decide) rfl (Nat.le_of_ble_eq_true rfl) (Nat.le_of_ble_eq_true rfl) ?_
  refine good_seq fun K1 hK1 => ?_
  refine good_region rfl ?_
  refine ev_q rfl (q_assign (by conv => lhs; whnf) ?_)
  refine ev_q rfl (q_assign (by conv => lhs; whnf) ?_)
  refine ev_nil (hK1 _ ?_); clear hK1
  refine good_seq fun K2 hK2 => ?_
  refine good_region rfl ?_
  refine ev_q rfl (q_move (by conv => lhs; whnf) ?_)
  refine ev_k rfl (k_callR [] (D_parseN s hs hno) rfl (rfl) (rfl) trivial rfl (by rintro ⟨n3, e3⟩ hx3_0; exact ⟨trivial, rfl⟩) rfl rfl ?_)
  rintro ⟨n3, e3⟩ hx3_0
  refine ev_q rfl (q_move (by conv => lhs; whnf) ?_)
  refine ev_q rfl (q_extractI rfl rfl ?_)
  intro n4 hn4
  refine ev_q rfl (q_extract rfl rfl ?_)
  refine ev_q rfl (q_assign (by conv => lhs; whnf) ?_)
  refine ev_q rfl (q_assign (by conv => lhs; whnf) ?_)
  refine ev_nil (hK2 _ ?_); clear hK2
  refine good_seq fun K5 hK5 => ?_
  refine good_seq fun K6 hK6 => ?_
  refine good_region rfl ?_
  refine ev_q rfl (q_move (by conv => lhs; whnf) ?_)
  refine ev_q rfl (q_neN tIf109 rfl ?_)
  refine ev_q rfl (q_move (by conv => lhs; whnf) ?_)
  refine ev_skip rfl ?_
  refine ev_skip rfl ?_
  refine ev_skip rfl ?_
  refine ev_skip rfl ?_
  refine ev_q rfl (q_pickT rfl (by conv => lhs; whnf) ?_)
  refine ev_q rfl (q_move (by conv => lhs; whnf) ?_)
  refine ev_skip rfl ?_
  refine ev_skip rfl ?_
  refine ev_skip rfl ?_
  refine ev_skip rfl ?_
  refine ev_q rfl (q_pickT rfl (by conv => lhs; whnf) ?_)
  refine ev_nil (hK6 _ ?_); clear hK6
  refine good_condT rfl ?_
  refine good_seq fun K7 hK7 => ?_
  refine good_region rfl ?_
  refine ev_q rfl (q_assign (by conv => lhs; whnf) ?_)
  refine ev_q rfl (q_assign (by conv => lhs; whnf) ?_)
  refine ev_nil (hK7 _ ?_); clear hK7
  refine good_ret ?_
  repeat (first | refine thenQ_ret ?_ | refine blockQ_ret ?_)
  refine ret_many rfl ?_
  refine res_tmp (by conv => lhs; whnf) rfl ?_
  refine res_tmp (by conv => lhs; whnf) rfl ?_
  refine res_nil ?_
  clear hK5
  exact fTup1 (fI (rdN_no hc).symm) (fTup1 (fF hc) rfl)

theorem D_impl_ReadDecimal (s : ByteArray) (hs : s.size ≤ 1048576) : Den Tryz.prog 66 [.s (.string s)] (.tup [.s (.int .i64 (rdN s)), .s (.bool (decide (rdB s)))]) := by
  cases hp : Lib.parseIntB 64 s.data.toList with
  | ok v => exact D_impl_ReadDecimal_ok s v hs hp
  | «syntax» => exact D_impl_ReadDecimal_no s hs (fun v h => by rw [hp] at h; cases h)
  | range => exact D_impl_ReadDecimal_no s hs (fun v h => by rw [hp] at h; cases h)

-- impl.ReadList
set_option maxRecDepth 20000 in
set_option maxHeartbeats 2000000 in
theorem D_impl_ReadList_X (s : ByteArray) (hs : s.size ≤ 1048576) : DenX Tryz.prog 81 [] [.s (.string s)] [(900003, .row 2 1 ((rlL s).map ci))] (.tup [.own 900003 (rlL s).length, .s (.bool (decide (rlB s)))]) := by
  have hsl := splN_le (c := 44) (k := 65) (s := s) (by omega)
  refine denX_of_good Tryz.func81 (by decide) rfl (Nat.le_of_ble_eq_true rfl) (Nat.le_of_ble_eq_true rfl) rfl ?_
  refine good_seq fun K1 hK1 => ?_
  refine good_region rfl ?_
  refine ev_q rfl (q_assign (by conv => lhs; whnf) ?_)
  refine ev_q rfl (q_assign (by conv => lhs; whnf) ?_)
  refine ev_nil (hK1 _ ?_); clear hK1
  refine good_seq fun K2 hK2 => ?_
  refine good_seq fun K3 hK3 => ?_
  refine good_region rfl ?_
  refine ev_q rfl (q_move (by conv => lhs; whnf) ?_)
  refine ev_q rfl (q_str rfl rfl ?_)
  intro b4 hb4; cases b4
  · replace hb4 := seF hb4
    have hnd : ¬ s = tx [45] := hb4
    refine ev_nil (hK3 _ ?_); clear hK3
    refine good_condF rfl ?_
    refine good_skip (hK2 _ ?_); clear hK2
    refine good_seq fun K5 hK5 => ?_
    refine good_region rfl ?_
    refine ev_q rfl (q_assign (by conv => lhs; whnf) ?_)
    refine ev_nil (hK5 _ ?_); clear hK5
    refine good_seq fun K6 hK6 => ?_
    refine good_seq fun K7 hK7 => ?_
    refine good_region rfl ?_
    refine ev_q rfl (q_move (by conv => lhs; whnf) ?_)
    refine ev_q rfl (q_call rfl rfl (rfl) (D_split 44 65 s hs (by decide) (by decide)) rfl ?_)
    refine ev_q rfl (q_len tEs80 rfl ?_)
    intro n8 hn8
    try simp only [List.length_map] at hn8
    refine ev_q rfl (q_move (by conv => lhs; whnf) ?_)
    refine ev_nil (hK7 _ ?_); clear hK7
    refine good_block ?_
    refine good_loop (α := Nat) (fun i => { env := upd (upd (upd (upd (upd ((fun _ => .junk)) 0 (.s (.string s))) 4 (.own 28 ((splN 44 65 s).take i).length)) 12 (.lst 1 ((splN 44 65 s).map stA))) 13 (.s (.int .i64 (((splN 44 65 s).length : Int))))) 14 (.s (.int .i64 ((i : Int)))), H := upd ((fun _ => none)) 28 (some (.row 2 1 ((((splN 44 65 s).take i).map rdN).map ci))) }) (fun i => i ≤ (splN 44 65 s).length ∧ ∀ j q, j < i → (splN 44 65 s)[j]? = some q → rdB q) (fun i => (splN 44 65 s).length - i) 0 ?_ ?_ ?_
    · exact ⟨Nat.zero_le _, fun j u hj => by omega⟩
    · refine Sub.trans (sub_nil 4 28 2 1 rfl rfl (by decide)) ?_
      refine sub_weak ?_ ?_
      · exact weakH_row (rowEq (rfl)) (weakH_none _)
      · refine weakE_upd ?e14 ?r14 (weakE_upd ?e13 ?r13 (weakE_upd ?e12 ?r12 (weakE_upd ?e4 ?r4 (weakE_upd ?e0 ?r0 (weakE_junk _ _)))))
        case e0 => first | rfl | exact fI (by omega) | (simp_all)
        case r0 => intro h hh; cases hh
        case e4 => first | rfl | exact fI (by omega) | (first | rfl | (rw [hst]; exact ownEq (by simp)))
        case r4 => intro h hh; simp [refs] at hh; subst hh; rfl
        case e12 => first | rfl | exact fI (by omega) | (simp_all)
        case r12 => intro h hh; cases hh
        case e13 => first | rfl | exact fI (by omega) | (simp_all)
        case r13 => intro h hh; cases hh
        case e14 => first | rfl | exact fI (by omega) | (simp_all)
        case r14 => intro h hh; cases hh
    · rintro i ⟨hI, hJ⟩
      refine good_seq fun K9 hK9 => ?_
      refine good_region rfl ?_
      refine ev_q rfl (q_int rfl rfl ?_)
      intro b10 hb10; cases b10
      · replace hb10 := dF hb10
        obtain rfl : i = (splN 44 65 s).length := by omega
        have hall : ∀ p ∈ (splN 44 65 s), rdB p := fun p hp => by obtain ⟨j, hj⟩ := List.getElem?_of_mem hp; exact hJ j p (List.getElem?_eq_some_iff.1 hj).1 hj
        refine ev_nil (hK9 _ ?_); clear hK9
        refine good_seq fun K11 hK11 => ?_
        refine good_condF rfl ?_
        refine good_exit ?_
        repeat (first | refine thenQ_exit ?_ | refine blockQ_pass rfl ?_)
        refine blockQ_exit (hK6 _ ?_); clear hK6
        refine good_seq fun K12 hK12 => ?_
        refine good_seq fun K13 hK13 => ?_
        refine good_region rfl ?_
        refine ev_q rfl (q_move (by conv => lhs; whnf) ?_)
        refine ev_q rfl (q_call rfl rfl (by change ([.lst 1 (List.take (List.take (splN 44 65 s).length (splN 44 65 s)).length (((List.take (splN 44 65 s).length (splN 44 65 s)).map rdN).map ci))] : List AV) = _; simp only [List.take_length]; rw [List.take_of_length_le (by simp)]) (D_impl_ListText ((splN 44 65 s).map rdN) (by rw [List.length_map]; omega)) rfl ?_)
        refine ev_q rfl (q_move (by conv => lhs; whnf) ?_)
        refine ev_q rfl (q_str rfl rfl ?_)
        intro b14 hb14; cases b14
        · replace hb14 := snF hb14
          have hee := rl_y2 hnd ((rlP_iff hall).2 hb14)
          refine ev_nil (hK13 _ ?_); clear hK13
          refine good_condF rfl ?_
          refine good_skip (hK12 _ ?_); clear hK12
          refine good_seq fun K15 hK15 => ?_
          refine good_region rfl ?_
          refine ev_q rfl (q_move (by conv => lhs; whnf) ?_)
          refine ev_q rfl (q_assign (by conv => lhs; whnf) ?_)
          refine ev_q rfl (q_assign (by conv => lhs; whnf) ?_)
          refine ev_nil (hK15 _ ?_); clear hK15
          refine good_weak (sub_move 2 28 900003 rfl rfl rfl (by decide)) ?_
          refine good_ret ?_
          repeat (first | refine thenQ_ret ?_ | refine blockQ_ret ?_)
          refine fx_many rfl ?_
          refine fxs_tmp (by conv => lhs; whnf) ?_
          refine fxs_tmp (by conv => lhs; whnf) ?_
          refine fx_nil ?_
          clear hK11
          obtain ⟨e2, e⟩ := hee
          try rw [List.take_length]
          exact ⟨_, .tup (.cons (conv_eq (by first | rfl | (rw [e]; done) | (rw [e]; rfl) | exact ownEq (by first | omega | simp_all))) (.cons (conv_eq (by first | rfl | exact fT (by first | exact e2 | assumption) | exact fF (by first | exact e2 | assumption) | exact fT' (by first | exact e2 | assumption) | (exfalso; first | omega | grind))) (.nil))), weakH_row (rowEq (by first | (rw [e]; done) | (rw [e]; rfl))) (weakH_none _), refsIn_ok rfl⟩
        · replace hb14 := snT hb14
          have hee := rl_n hnd (fun h => hb14 ((rlP_iff hall).1 h))
          refine ev_nil (hK13 _ ?_); clear hK13
          refine good_condT rfl ?_
          refine good_seq fun K16 hK16 => ?_
          refine good_region rfl ?_
          refine ev_q rfl (q_assign (by conv => lhs; whnf) ?_)
          refine ev_q rfl (q_assign (by conv => lhs; whnf) ?_)
          refine ev_nil (hK16 _ ?_); clear hK16
          refine good_ret ?_
          repeat (first | refine thenQ_ret ?_ | refine blockQ_ret ?_)
          refine fx_many rfl ?_
          refine fxs_tmp (by conv => lhs; whnf) ?_
          refine fxs_tmp (by conv => lhs; whnf) ?_
          refine fx_nil ?_
          clear hK11 hK12
          obtain ⟨e2, e⟩ := hee
          try rw [List.take_length]
          exact ⟨_, .tup (.cons (conv_nil rfl (by decide) (by rw [e]; rfl)) (.cons (conv_eq (by first | rfl | exact fT (by first | exact e2 | assumption) | exact fF (by first | exact e2 | assumption) | exact fT' (by first | exact e2 | assumption) | (exfalso; first | omega | grind))) (.nil))), weakH_row (rowEq (by first | (rw [e]; done) | (rw [e]; rfl))) (weakH_none _), refsIn_ok rfl⟩
      · replace hb10 := dT hb10
        obtain ⟨q, hq⟩ := getL (xs := (splN 44 65 s)) (n := (i : Int)) (by omega) (by omega)
        replace hq : (splN 44 65 s)[i]? = some q := hq
        have hst := takeS hq
        refine ev_nil (hK9 _ ?_); clear hK9
        refine good_seq fun K17 hK17 => ?_
        refine good_condT rfl ?_
        refine good_skip (hK17 _ ?_); clear hK17
        refine good_seq fun K18 hK18 => ?_
        refine good_block ?_
        refine good_seq fun K19 hK19 => ?_
        refine good_region rfl ?_
        refine ev_q rfl (q_idx tE80 rfl rfl (by exact Int.natCast_nonneg _) (by exact map_get hq) rfl ?_)
        refine ev_q rfl (q_load tA9 rfl ?_)
        refine ev_q rfl (q_assign (by conv => lhs; whnf) ?_)
        refine ev_nil (hK19 _ ?_); clear hK19
        refine good_seq fun K20 hK20 => ?_
        refine good_region rfl ?_
        refine ev_q rfl (q_move (by conv => lhs; whnf) ?_)
        refine ev_q rfl (q_call rfl rfl (rfl) (D_impl_ReadDecimal q (by have := splN_sz (List.mem_of_getElem? hq); omega)) rfl ?_)
        refine ev_q rfl (q_move (by conv => lhs; whnf) ?_)
        refine ev_q rfl (q_extractI rfl rfl ?_)
        intro n21 hn21
        have h21 := hn21
        refine ev_q rfl (q_extractB rfl rfl ?_)
        intro b22 hb22; cases b22
        · first | replace hb22 := dF hb22 | skip
          have hee := rl_n hnd (rlP_no1 (List.mem_of_getElem? hq) hb22)
          refine ev_q rfl (q_assign (by conv => lhs; whnf) ?_)
          refine ev_q rfl (q_assign (by conv => lhs; whnf) ?_)
          refine ev_nil (hK20 _ ?_); clear hK20
          refine good_seq fun K23 hK23 => ?_
          refine good_seq fun K24 hK24 => ?_
          refine good_region rfl ?_
          refine ev_q rfl (q_move (by conv => lhs; whnf) ?_)
          refine ev_q rfl (q_not rfl rfl ?_)
          refine ev_nil (hK24 _ ?_); clear hK24
          refine good_condT rfl ?_
          refine good_seq fun K25 hK25 => ?_
          refine good_region rfl ?_
          refine ev_q rfl (q_assign (by conv => lhs; whnf) ?_)
          refine ev_q rfl (q_assign (by conv => lhs; whnf) ?_)
          refine ev_nil (hK25 _ ?_); clear hK25
          refine good_ret ?_
          repeat (first | refine thenQ_ret ?_ | refine blockQ_ret ?_)
          refine fx_many rfl ?_
          refine fxs_tmp (by conv => lhs; whnf) ?_
          refine fxs_tmp (by conv => lhs; whnf) ?_
          refine fx_nil ?_
          clear hK6 hK18 hK23
          obtain ⟨e2, e⟩ := hee
          try rw [List.take_length]
          exact ⟨_, .tup (.cons (conv_nil rfl (by decide) (by rw [e]; rfl)) (.cons (conv_eq (by first | rfl | exact fT (by first | exact e2 | assumption) | exact fF (by first | exact e2 | assumption) | exact fT' (by first | exact e2 | assumption) | (exfalso; first | omega | grind))) (.nil))), weakH_row (rowEq (by first | (rw [e]; done) | (rw [e]; rfl))) (weakH_none _), refsIn_ok rfl⟩
        · first | replace hb22 := dT hb22 | skip
          have hqb : rdB q := hb22
          refine ev_q rfl (q_assign (by conv => lhs; whnf) ?_)
          refine ev_q rfl (q_assign (by conv => lhs; whnf) ?_)
          refine ev_nil (hK20 _ ?_); clear hK20
          refine good_seq fun K26 hK26 => ?_
          refine good_seq fun K27 hK27 => ?_
          refine good_region rfl ?_
          refine ev_q rfl (q_move (by conv => lhs; whnf) ?_)
          refine ev_q rfl (q_not rfl rfl ?_)
          refine ev_nil (hK27 _ ?_); clear hK27
          refine good_condF rfl ?_
          refine good_skip (hK26 _ ?_); clear hK26
          refine good_region rfl ?_
          refine ev_q rfl (q_move (by conv => lhs; whnf) ?_)
          refine ev_q rfl (q_move (by conv => lhs; whnf) ?_)
          refine ev_k rfl (k_lit tE36 zA2 rfl rfl (by decide) (by decide) rfl rfl rfl ?_)
          refine ev_k rfl (k_app tApp36 rfl rfl (by simp) rfl (.inr rfl) (by first | (simp [maxLen]; done) | (simp [maxLen]; omega)) (by first | (simp; done) | (simp; omega)) ?_)
          refine ev_q rfl (q_assign (by conv => lhs; whnf) ?_)
          refine ev_nil (hK18 _ ?_); clear hK18
          refine good_region rfl ?_
          refine ev_q rfl (q_int rfl rfl ?_)
          intro n28 hn28
          replace hn28 := in64 hn28 (by omega) (by omega)
          refine ev_q rfl (q_move (by conv => lhs; whnf) ?_)
          refine ev_nil ?_
          clear hK6
          refine ⟨i + 1, ?_, ?_, ?_⟩
          · exact ⟨by omega, all_extI (Q := fun _ (q : ByteArray) => rdB q) hJ hq hqb⟩
          · first | omega | (simp only []; omega) | (dsimp only; omega)
          · refine sub_weak ?_ ?_
            · exact weakH_row (rowEq (appG (p := rdN q) (by rw [hst, List.map_append]; rfl) (fI h21))) (weakH_none _)
            · refine weakE_upd ?e14 ?r14 (weakE_upd ?e13 ?r13 (weakE_upd ?e12 ?r12 (weakE_upd ?e4 ?r4 (weakE_upd ?e0 ?r0 (weakE_junk _ _)))))
              case e0 => first | rfl | exact fI (by omega) | (simp_all)
              case r0 => intro h hh; cases hh
              case e4 => first | rfl | exact fI (by omega) | (first | rfl | (rw [hst]; exact ownEq (by simp)))
              case r4 => intro h hh; simp [refs] at hh; subst hh; rfl
              case e12 => first | rfl | exact fI (by omega) | (simp_all)
              case r12 => intro h hh; cases hh
              case e13 => first | rfl | exact fI (by omega) | (simp_all)
              case r13 => intro h hh; cases hh
              case e14 => first | rfl | exact fI (by omega) | (simp_all)
              case r14 => intro h hh; cases hh
  · replace hb4 := seT hb4
    have hee := rl_d hb4
    refine ev_nil (hK3 _ ?_); clear hK3
    refine good_condT rfl ?_
    refine good_seq fun K29 hK29 => ?_
    refine good_region rfl ?_
    refine ev_q rfl (q_assign (by conv => lhs; whnf) ?_)
    refine ev_q rfl (q_assign (by conv => lhs; whnf) ?_)
    refine ev_nil (hK29 _ ?_); clear hK29
    refine good_ret ?_
    repeat (first | refine thenQ_ret ?_ | refine blockQ_ret ?_)
    refine fx_many rfl ?_
    refine fxs_tmp (by conv => lhs; whnf) ?_
    refine fxs_tmp (by conv => lhs; whnf) ?_
    refine fx_nil ?_
    clear hK2
    obtain ⟨e2, e⟩ := hee
    try rw [List.take_length]
    exact ⟨_, .tup (.cons (conv_nil rfl (by decide) (by rw [e]; rfl)) (.cons (conv_eq (by first | rfl | exact fT (by first | exact e2 | assumption) | exact fF (by first | exact e2 | assumption) | exact fT' (by first | exact e2 | assumption) | (exfalso; first | omega | grind))) (.nil))), weakH_row (rowEq (by first | (rw [e]; done) | (rw [e]; rfl))) (weakH_none _), refsIn_ok rfl⟩
theorem D_impl_ReadList (s : ByteArray) (hs : s.size ≤ 1048576) : Den Tryz.prog 81 [.s (.string s)] (.tup [.lst 1 ((rlL s).map ci), .s (.bool (decide (rlB s)))]) :=
  den_of_denX (D_impl_ReadList_X s hs) (by change (some (.tup [.lst 1 (List.take (rlL s).length ((rlL s).map ci)), .s (.bool (decide (rlB s)))]) : Option AV) = some (.tup [.lst 1 ((rlL s).map ci), .s (.bool (decide (rlB s)))]); simp only [takeMap])

-- impl.withId
set_option maxRecDepth 20000 in
set_option maxHeartbeats 2000000 in
theorem D_impl_withId (s : ByteArray) (xs : List Int) (hs : s.size ≤ 1000000) (hx : xs.length ≤ 1000000) : Den Tryz.prog 49 [.s (.string s), .lst 1 (xs.map ci)] (.s (.string (s ++ ⟨#[32]⟩ ++ lt xs))) := by
  refine den_of_good Tryz.func49 (by decide) rfl (Nat.le_of_ble_eq_true rfl) (Nat.le_of_ble_eq_true rfl) ?_
  refine good_seq fun K1 hK1 => ?_
  refine good_region rfl ?_
  refine ev_q rfl (q_assign (by conv => lhs; whnf) ?_)
  refine ev_nil (hK1 _ ?_); clear hK1
  refine good_seq fun K2 hK2 => ?_
  refine good_region rfl ?_
  refine ev_q rfl (q_move (by conv => lhs; whnf) ?_)
  refine ev_q rfl (q_str rfl rfl ⟨by rw [l1_size]; omega, ?_⟩)
  intro s3 hs3
  have h6 := hs3
  have hz6 := sz_app hs3
  rw [l1_size] at hz6
  refine ev_q rfl (q_move (by conv => lhs; whnf) ?_)
  refine ev_q rfl (q_call rfl rfl (rfl) (D_impl_ListText xs (by omega)) rfl ?_)
  refine ev_q rfl (q_str rfl rfl ⟨by have := lt_size (xs := xs); omega, ?_⟩)
  intro s4 hs4
  have h9 := hs4
  refine ev_q rfl (q_assign (by conv => lhs; whnf) ?_)
  refine ev_nil (hK2 _ ?_); clear hK2
  refine good_ret ?_
  repeat (first | refine thenQ_ret ?_ | refine blockQ_ret ?_)
  refine ret_tmp (st := _) rfl (by conv => lhs; whnf) rfl ?_
  exact fS (by rw [h9, h6])

-- impl.SubstationText
set_option maxRecDepth 20000 in
set_option maxHeartbeats 2000000 in
theorem D_impl_SubstationText (s : ByteArray) (nd tr su re : Int) (hs : s.size ≤ 140737488351232) : Den Tryz.prog 13 [.agg [.s (.string s), .s (.int .i64 nd), .s (.int .i64 tr), .s (.int .i64 su), .s (.int .i64 re)]] (.s (.string (sbT s nd tr su re))) := by
  refine den_of_good Tryz.func13 (by decide) rfl (Nat.le_of_ble_eq_true rfl) (Nat.le_of_ble_eq_true rfl) ?_
  refine good_seq fun K1 hK1 => ?_
  refine good_region rfl ?_
  refine ev_k rfl (k_box (by conv => lhs; whnf) rfl rfl rfl ?_)
  refine ev_q rfl (q_assign (by conv => lhs; whnf) ?_)
  refine ev_nil (hK1 _ ?_); clear hK1
  refine good_seq fun K2 hK2 => ?_
  refine good_seq fun K3 hK3 => ?_
  refine good_region rfl ?_
  refine ev_q rfl (q_loadA tA25 rfl rfl rfl ?_)
  refine ev_q rfl (q_callB rfl rfl (rfl) (D_impl_ValidSubstation _ _ _ _ _ hs) ?_)
  intro b4 hb4; cases b4
  · first | replace hb4 := dF hb4 | skip
    refine ev_q rfl (q_not rfl rfl ?_)
    refine ev_nil (hK3 _ ?_); clear hK3
    refine good_condT rfl ?_
    refine good_seq fun K5 hK5 => ?_
    refine good_region rfl ?_
    refine ev_q rfl (q_assign (by conv => lhs; whnf) ?_)
    refine ev_nil (hK5 _ ?_); clear hK5
    refine good_ret ?_
    repeat (first | refine thenQ_ret ?_ | refine blockQ_ret ?_)
    refine ret_tmp (st := _) rfl (by conv => lhs; whnf) rfl ?_
    clear hK2
    first | exact fS (sbT_no (by assumption)).symm | exact fS (sbT_ok (by assumption)).symm | exact fS ((sbT_ok (by assumption)).trans (by rw [lt_ok ⟨by simp, sb_in (by assumption)⟩ (by simp)])).symm
  · first | replace hb4 := dT hb4 | skip
    refine ev_q rfl (q_not rfl rfl ?_)
    refine ev_nil (hK3 _ ?_); clear hK3
    refine good_condF rfl ?_
    refine good_skip (hK2 _ ?_); clear hK2
    refine good_seq fun K6 hK6 => ?_
    refine good_region rfl ?_
    refine ev_q rfl (q_fieldAddrP fO25_0 rfl rfl ?_)
    refine ev_q rfl (q_load tA9 rfl ?_)
    refine ev_q rfl (q_fieldAddrP fO25_1 rfl rfl ?_)
    refine ev_q rfl (q_load tA2 rfl ?_)
    refine ev_q rfl (q_fieldAddrP fO25_2 rfl rfl ?_)
    refine ev_q rfl (q_load tA2 rfl ?_)
    refine ev_q rfl (q_fieldAddrP fO25_3 rfl rfl ?_)
    refine ev_q rfl (q_load tA2 rfl ?_)
    refine ev_q rfl (q_fieldAddrP fO25_4 rfl rfl ?_)
    refine ev_q rfl (q_load tA2 rfl ?_)
    refine ev_k rfl (k_lit tE36 zA2 rfl rfl (by decide) (by decide) rfl rfl rfl ?_)
    refine ev_q rfl (q_call rfl rfl (rfl) (D_impl_withId s [nd, tr, su, re] (by have h := ‹isName s = true ∧ (0 ≤ nd ∧ nd ≤ 15) ∧ (1 ≤ tr ∧ tr ≤ 100000) ∧ (0 ≤ su ∧ su ≤ 18000) ∧ (0 ≤ re ∧ re ≤ su - 1)›; have := nm_size h.1; omega) (by simp)) rfl ?_)
    refine ev_q rfl (q_assign (by conv => lhs; whnf) ?_)
    refine ev_nil (hK6 _ ?_); clear hK6
    refine good_ret ?_
    repeat (first | refine thenQ_ret ?_ | refine blockQ_ret ?_)
    refine ret_tmp (st := _) rfl (by conv => lhs; whnf) rfl ?_
    first | exact fS (sbT_no (by assumption)).symm | exact fS (sbT_ok (by assumption)).symm | exact fS ((sbT_ok (by assumption)).trans (by rw [lt_ok ⟨by simp, sb_in (by assumption)⟩ (by simp)])).symm

theorem D_cut (c : UInt8) (s : ByteArray) (hs : s.size ≤ 1048576) : Den Tryz.prog 65 [.s (.string s), .s (.string ⟨#[c]⟩)] (.tup [.s (.string (cutA c s)), .s (.string (cutB c s)), .s (.bool (cutF c s))]) := by
  have h := den_cut ⟨_, Tryz.func65, rfl, rfl⟩ (by kernel_rfl) (fun s sep m w h1 h2 => Tryz.strings_Cut s sep m w h1 h2) s ⟨#[c]⟩ hs
  exact h

-- impl.readWithId
set_option maxRecDepth 20000 in
set_option maxHeartbeats 2000000 in
theorem D_impl_readWithId (s : ByteArray) (hs : s.size ≤ 1048576) : Den Tryz.prog 48 [.s (.string s), .s (.int .i64 4)] (.tup [.s (.string (if svO s then sId s else tx [])), .lst 1 (rnL (sNm s) 4), .s (.bool (decide (svO s)))]) := by
  refine den_of_good Tryz.func48 (by decide) rfl (Nat.le_of_ble_eq_true rfl) (Nat.le_of_ble_eq_true rfl) ?_
  refine good_seq fun K1 hK1 => ?_
  refine good_region rfl ?_
  refine ev_q rfl (q_assign (by conv => lhs; whnf) ?_)
  refine ev_q rfl (q_assign (by conv => lhs; whnf) ?_)
  refine ev_q rfl (q_assign (by conv => lhs; whnf) ?_)
  refine ev_nil (hK1 _ ?_); clear hK1
  refine good_seq fun K2 hK2 => ?_
  refine good_region rfl ?_
  refine ev_q rfl (q_move (by conv => lhs; whnf) ?_)
  refine ev_q rfl (q_call rfl rfl (rfl) (D_cut 32 s hs) rfl ?_)
  refine ev_q rfl (q_move (by conv => lhs; whnf) ?_)
  refine ev_q rfl (q_extract rfl rfl ?_)
  refine ev_q rfl (q_extract rfl rfl ?_)
  refine ev_q rfl (q_extractB rfl rfl ?_)
  intro b3 hb3; cases b3
  · first | replace hb3 := dF hb3 | skip
    refine ev_q rfl (q_assign (by conv => lhs; whnf) ?_)
    refine ev_q rfl (q_assign (by conv => lhs; whnf) ?_)
    refine ev_q rfl (q_assign (by conv => lhs; whnf) ?_)
    refine ev_nil (hK2 _ ?_); clear hK2
    refine good_seq fun K4 hK4 => ?_
    refine good_region rfl ?_
    refine ev_q rfl (q_move (by conv => lhs; whnf) ?_)
    refine ev_q rfl (q_call rfl rfl (rfl) (D_impl_ReadList (sNm s) (by have := (cutB_sz (c := 32) (s := s)).1; show (cutB 32 s).size ≤ _; omega)) rfl ?_)
    refine ev_q rfl (q_move (by conv => lhs; whnf) ?_)
    refine ev_q rfl (q_extract rfl rfl ?_)
    refine ev_q rfl (q_extractB rfl rfl ?_)
    intro b5 hb5; cases b5
    · first | replace hb5 := dF hb5 | skip
      have hno : ¬ svO s := fun h => hb5 h.1
      refine ev_q rfl (q_assign (by conv => lhs; whnf) ?_)
      refine ev_q rfl (q_assign (by conv => lhs; whnf) ?_)
      refine ev_nil (hK4 _ ?_); clear hK4
      refine good_seq fun K6 hK6 => ?_
      refine good_seq fun K7 hK7 => ?_
      refine good_region rfl ?_
      refine ev_q rfl (q_move (by conv => lhs; whnf) ?_)
      refine ev_q rfl (q_not rfl rfl ?_)
      refine ev_q rfl (q_move (by conv => lhs; whnf) ?_)
      refine ev_skip rfl ?_
      refine ev_skip rfl ?_
      refine ev_skip rfl ?_
      refine ev_skip rfl ?_
      refine ev_q rfl (q_pickT rfl (by conv => lhs; whnf) ?_)
      refine ev_nil (hK7 _ ?_); clear hK7
      refine good_condT rfl ?_
      refine good_seq fun K8 hK8 => ?_
      refine good_any 5 (listed := #[false, false, false, false, false]) rfl rfl hmix rfl ?_
      refine tn_first_q (i := 0) (listed' := #[true, false, false, false, false]) rfl rfl (by kernel_rfl) rfl (q_move (by conv => lhs; whnf) ?_)
      refine tn_first_q (i := 2) (listed' := #[true, false, true, false, false]) rfl rfl (by kernel_rfl) rfl (q_assign (by conv => lhs; whnf) ?_)
      refine tn_step [1] (by kernel_rfl) rfl ?_
      refine ⟨?_, trivial⟩
      · refine tn_k (listed' := #[true, true, true, false, false]) rfl rfl rfl rfl (k_make tE36 rfl rfl zA2 tBy2 rfl (by omega) (by omega) (by omega) rfl (by rfl) ?_)
        refine tn_first_q (i := 3) (listed' := #[true, true, true, true, false]) rfl rfl (by kernel_rfl) rfl (q_assign (by conv => lhs; whnf) ?_)
        refine tn_first_q (i := 4) (listed' := #[true, true, true, true, true]) rfl rfl (by kernel_rfl) rfl (q_assign (by conv => lhs; whnf) ?_)
        refine tn_end (by kernel_rfl) (hK8 _ ?_); clear hK8
        refine good_ret ?_
        repeat (first | refine thenQ_ret ?_ | refine blockQ_ret ?_)
        refine ret_many rfl ?_
        refine res_tmp (by conv => lhs; whnf) rfl ?_
        refine res_tmp (by conv => lhs; whnf) rfl ?_
        refine res_tmp (by conv => lhs; whnf) rfl ?_
        refine res_nil ?_
        clear hK6
        first | exact fTup1 (fS (if_neg hno).symm) (fTup1 (lstEq (by rw [rnL_n hno, List.take_of_length_le (by simp)]; rfl)) (fTup1 (fF hno) rfl)) | exact fTup1 (fS (if_pos hyo).symm) (fTup1 (by rw [rnL_y hyo]) (fTup1 (fT hyo) rfl))
    · first | replace hb5 := dT hb5 | skip
      have hyb : rlB (sNm s) := hb5
      refine ev_q rfl (q_assign (by conv => lhs; whnf) ?_)
      refine ev_q rfl (q_assign (by conv => lhs; whnf) ?_)
      refine ev_nil (hK4 _ ?_); clear hK4
      refine good_seq fun K9 hK9 => ?_
      refine good_seq fun K10 hK10 => ?_
      refine good_region rfl ?_
      refine ev_q rfl (q_move (by conv => lhs; whnf) ?_)
      refine ev_q rfl (q_not rfl rfl ?_)
      refine ev_q rfl (q_move (by conv => lhs; whnf) ?_)
      refine ev_q rfl (q_move (by conv => lhs; whnf) ?_)
      refine ev_q rfl (q_len tEs36 rfl ?_)
      intro n11 hn11
      try simp only [List.length_map] at hn11
      refine ev_q rfl (q_move (by conv => lhs; whnf) ?_)
      refine ev_q rfl (q_int rfl rfl ?_)
      intro b12 hb12; cases b12
      · replace hb12 := neF hb12
        have hyo : svO s := ⟨hyb, by omega⟩
        refine ev_q rfl (q_pickF rfl (by conv => lhs; whnf) ?_)
        refine ev_nil (hK10 _ ?_); clear hK10
        refine good_condF rfl ?_
        refine good_skip (hK9 _ ?_); clear hK9
        refine good_seq fun K13 hK13 => ?_
        refine good_region rfl ?_
        refine ev_q rfl (q_move (by conv => lhs; whnf) ?_)
        refine ev_q rfl (q_move (by conv => lhs; whnf) ?_)
        refine ev_q rfl (q_assign (by conv => lhs; whnf) ?_)
        refine ev_q rfl (q_assign (by conv => lhs; whnf) ?_)
        refine ev_q rfl (q_assign (by conv => lhs; whnf) ?_)
        refine ev_nil (hK13 _ ?_); clear hK13
        refine good_ret ?_
        repeat (first | refine thenQ_ret ?_ | refine blockQ_ret ?_)
        refine ret_many rfl ?_
        refine res_tmp (by conv => lhs; whnf) rfl ?_
        refine res_tmp (by conv => lhs; whnf) rfl ?_
        refine res_tmp (by conv => lhs; whnf) rfl ?_
        refine res_nil ?_
        first | exact fTup1 (fS (if_neg hno).symm) (fTup1 (lstEq (by rw [rnL_n hno, List.take_of_length_le (by simp)]; rfl)) (fTup1 (fF hno) rfl)) | exact fTup1 (fS (if_pos hyo).symm) (fTup1 (by rw [rnL_y hyo]) (fTup1 (fT hyo) rfl))
      · replace hb12 := neT hb12
        have hno : ¬ svO s := fun h => by have := h.2; omega
        refine ev_q rfl (q_pickF rfl (by conv => lhs; whnf) ?_)
        refine ev_nil (hK10 _ ?_); clear hK10
        refine good_condT rfl ?_
        refine good_seq fun K14 hK14 => ?_
        refine good_any 5 (listed := #[false, false, false, false, false]) rfl rfl hmix rfl ?_
        refine tn_first_q (i := 0) (listed' := #[true, false, false, false, false]) rfl rfl (by kernel_rfl) rfl (q_move (by conv => lhs; whnf) ?_)
        refine tn_first_q (i := 2) (listed' := #[true, false, true, false, false]) rfl rfl (by kernel_rfl) rfl (q_assign (by conv => lhs; whnf) ?_)
        refine tn_step [1] (by kernel_rfl) rfl ?_
        refine ⟨?_, trivial⟩
        · refine tn_k (listed' := #[true, true, true, false, false]) rfl rfl rfl rfl (k_make tE36 rfl rfl zA2 tBy2 rfl (by omega) (by omega) (by omega) rfl (by rfl) ?_)
          refine tn_first_q (i := 3) (listed' := #[true, true, true, true, false]) rfl rfl (by kernel_rfl) rfl (q_assign (by conv => lhs; whnf) ?_)
          refine tn_first_q (i := 4) (listed' := #[true, true, true, true, true]) rfl rfl (by kernel_rfl) rfl (q_assign (by conv => lhs; whnf) ?_)
          refine tn_end (by kernel_rfl) (hK14 _ ?_); clear hK14
          refine good_ret ?_
          repeat (first | refine thenQ_ret ?_ | refine blockQ_ret ?_)
          refine ret_many rfl ?_
          refine res_tmp (by conv => lhs; whnf) rfl ?_
          refine res_tmp (by conv => lhs; whnf) rfl ?_
          refine res_tmp (by conv => lhs; whnf) rfl ?_
          refine res_nil ?_
          clear hK9
          first | exact fTup1 (fS (if_neg hno).symm) (fTup1 (lstEq (by rw [rnL_n hno, List.take_of_length_le (by simp)]; rfl)) (fTup1 (fF hno) rfl)) | exact fTup1 (fS (if_pos hyo).symm) (fTup1 (by rw [rnL_y hyo]) (fTup1 (fT hyo) rfl))
  · first | replace hb3 := dT hb3 | skip
    refine ev_q rfl (q_assign (by conv => lhs; whnf) ?_)
    refine ev_q rfl (q_assign (by conv => lhs; whnf) ?_)
    refine ev_q rfl (q_assign (by conv => lhs; whnf) ?_)
    refine ev_nil (hK2 _ ?_); clear hK2
    refine good_seq fun K15 hK15 => ?_
    refine good_region rfl ?_
    refine ev_q rfl (q_move (by conv => lhs; whnf) ?_)
    refine ev_q rfl (q_call rfl rfl (rfl) (D_impl_ReadList (sNm s) (by have := (cutB_sz (c := 32) (s := s)).1; show (cutB 32 s).size ≤ _; omega)) rfl ?_)
    refine ev_q rfl (q_move (by conv => lhs; whnf) ?_)
    refine ev_q rfl (q_extract rfl rfl ?_)
    refine ev_q rfl (q_extractB rfl rfl ?_)
    intro b16 hb16; cases b16
    · first | replace hb16 := dF hb16 | skip
      have hno : ¬ svO s := fun h => hb16 h.1
      refine ev_q rfl (q_assign (by conv => lhs; whnf) ?_)
      refine ev_q rfl (q_assign (by conv => lhs; whnf) ?_)
      refine ev_nil (hK15 _ ?_); clear hK15
      refine good_seq fun K17 hK17 => ?_
      refine good_seq fun K18 hK18 => ?_
      refine good_region rfl ?_
      refine ev_q rfl (q_move (by conv => lhs; whnf) ?_)
      refine ev_q rfl (q_not rfl rfl ?_)
      refine ev_q rfl (q_move (by conv => lhs; whnf) ?_)
      refine ev_skip rfl ?_
      refine ev_skip rfl ?_
      refine ev_skip rfl ?_
      refine ev_skip rfl ?_
      refine ev_q rfl (q_pickT rfl (by conv => lhs; whnf) ?_)
      refine ev_nil (hK18 _ ?_); clear hK18
      refine good_condT rfl ?_
      refine good_seq fun K19 hK19 => ?_
      refine good_any 5 (listed := #[false, false, false, false, false]) rfl rfl hmix rfl ?_
      refine tn_first_q (i := 0) (listed' := #[true, false, false, false, false]) rfl rfl (by kernel_rfl) rfl (q_move (by conv => lhs; whnf) ?_)
      refine tn_first_q (i := 2) (listed' := #[true, false, true, false, false]) rfl rfl (by kernel_rfl) rfl (q_assign (by conv => lhs; whnf) ?_)
      refine tn_step [1] (by kernel_rfl) rfl ?_
      refine ⟨?_, trivial⟩
      · refine tn_k (listed' := #[true, true, true, false, false]) rfl rfl rfl rfl (k_make tE36 rfl rfl zA2 tBy2 rfl (by omega) (by omega) (by omega) rfl (by rfl) ?_)
        refine tn_first_q (i := 3) (listed' := #[true, true, true, true, false]) rfl rfl (by kernel_rfl) rfl (q_assign (by conv => lhs; whnf) ?_)
        refine tn_first_q (i := 4) (listed' := #[true, true, true, true, true]) rfl rfl (by kernel_rfl) rfl (q_assign (by conv => lhs; whnf) ?_)
        refine tn_end (by kernel_rfl) (hK19 _ ?_); clear hK19
        refine good_ret ?_
        repeat (first | refine thenQ_ret ?_ | refine blockQ_ret ?_)
        refine ret_many rfl ?_
        refine res_tmp (by conv => lhs; whnf) rfl ?_
        refine res_tmp (by conv => lhs; whnf) rfl ?_
        refine res_tmp (by conv => lhs; whnf) rfl ?_
        refine res_nil ?_
        clear hK17
        first | exact fTup1 (fS (if_neg hno).symm) (fTup1 (lstEq (by rw [rnL_n hno, List.take_of_length_le (by simp)]; rfl)) (fTup1 (fF hno) rfl)) | exact fTup1 (fS (if_pos hyo).symm) (fTup1 (by rw [rnL_y hyo]) (fTup1 (fT hyo) rfl))
    · first | replace hb16 := dT hb16 | skip
      have hyb : rlB (sNm s) := hb16
      refine ev_q rfl (q_assign (by conv => lhs; whnf) ?_)
      refine ev_q rfl (q_assign (by conv => lhs; whnf) ?_)
      refine ev_nil (hK15 _ ?_); clear hK15
      refine good_seq fun K20 hK20 => ?_
      refine good_seq fun K21 hK21 => ?_
      refine good_region rfl ?_
      refine ev_q rfl (q_move (by conv => lhs; whnf) ?_)
      refine ev_q rfl (q_not rfl rfl ?_)
      refine ev_q rfl (q_move (by conv => lhs; whnf) ?_)
      refine ev_q rfl (q_move (by conv => lhs; whnf) ?_)
      refine ev_q rfl (q_len tEs36 rfl ?_)
      intro n22 hn22
      try simp only [List.length_map] at hn22
      refine ev_q rfl (q_move (by conv => lhs; whnf) ?_)
      refine ev_q rfl (q_int rfl rfl ?_)
      intro b23 hb23; cases b23
      · replace hb23 := neF hb23
        have hyo : svO s := ⟨hyb, by omega⟩
        refine ev_q rfl (q_pickF rfl (by conv => lhs; whnf) ?_)
        refine ev_nil (hK21 _ ?_); clear hK21
        refine good_condF rfl ?_
        refine good_skip (hK20 _ ?_); clear hK20
        refine good_seq fun K24 hK24 => ?_
        refine good_region rfl ?_
        refine ev_q rfl (q_move (by conv => lhs; whnf) ?_)
        refine ev_q rfl (q_move (by conv => lhs; whnf) ?_)
        refine ev_q rfl (q_assign (by conv => lhs; whnf) ?_)
        refine ev_q rfl (q_assign (by conv => lhs; whnf) ?_)
        refine ev_q rfl (q_assign (by conv => lhs; whnf) ?_)
        refine ev_nil (hK24 _ ?_); clear hK24
        refine good_ret ?_
        repeat (first | refine thenQ_ret ?_ | refine blockQ_ret ?_)
        refine ret_many rfl ?_
        refine res_tmp (by conv => lhs; whnf) rfl ?_
        refine res_tmp (by conv => lhs; whnf) rfl ?_
        refine res_tmp (by conv => lhs; whnf) rfl ?_
        refine res_nil ?_
        first | exact fTup1 (fS (if_neg hno).symm) (fTup1 (lstEq (by rw [rnL_n hno, List.take_of_length_le (by simp)]; rfl)) (fTup1 (fF hno) rfl)) | exact fTup1 (fS (if_pos hyo).symm) (fTup1 (by rw [rnL_y hyo]) (fTup1 (fT hyo) rfl))
      · replace hb23 := neT hb23
        have hno : ¬ svO s := fun h => by have := h.2; omega
        refine ev_q rfl (q_pickF rfl (by conv => lhs; whnf) ?_)
        refine ev_nil (hK21 _ ?_); clear hK21
        refine good_condT rfl ?_
        refine good_seq fun K25 hK25 => ?_
        refine good_any 5 (listed := #[false, false, false, false, false]) rfl rfl hmix rfl ?_
        refine tn_first_q (i := 0) (listed' := #[true, false, false, false, false]) rfl rfl (by kernel_rfl) rfl (q_move (by conv => lhs; whnf) ?_)
        refine tn_first_q (i := 2) (listed' := #[true, false, true, false, false]) rfl rfl (by kernel_rfl) rfl (q_assign (by conv => lhs; whnf) ?_)
        refine tn_step [1] (by kernel_rfl) rfl ?_
        refine ⟨?_, trivial⟩
        · refine tn_k (listed' := #[true, true, true, false, false]) rfl rfl rfl rfl (k_make tE36 rfl rfl zA2 tBy2 rfl (by omega) (by omega) (by omega) rfl (by rfl) ?_)
          refine tn_first_q (i := 3) (listed' := #[true, true, true, true, false]) rfl rfl (by kernel_rfl) rfl (q_assign (by conv => lhs; whnf) ?_)
          refine tn_first_q (i := 4) (listed' := #[true, true, true, true, true]) rfl rfl (by kernel_rfl) rfl (q_assign (by conv => lhs; whnf) ?_)
          refine tn_end (by kernel_rfl) (hK25 _ ?_); clear hK25
          refine good_ret ?_
          repeat (first | refine thenQ_ret ?_ | refine blockQ_ret ?_)
          refine ret_many rfl ?_
          refine res_tmp (by conv => lhs; whnf) rfl ?_
          refine res_tmp (by conv => lhs; whnf) rfl ?_
          refine res_tmp (by conv => lhs; whnf) rfl ?_
          refine res_nil ?_
          clear hK20
          first | exact fTup1 (fS (if_neg hno).symm) (fTup1 (lstEq (by rw [rnL_n hno, List.take_of_length_le (by simp)]; rfl)) (fTup1 (fF hno) rfl)) | exact fTup1 (fS (if_pos hyo).symm) (fTup1 (by rw [rnL_y hyo]) (fTup1 (fT hyo) rfl))

-- impl.ReadSubstation
set_option maxRecDepth 20000 in
set_option maxHeartbeats 2000000 in
theorem D_impl_ReadSubstation (s : ByteArray) (hs : s.size ≤ 1048576) : Den Tryz.prog 12 [.s (.string s)] (.tup [.agg [.s (.string (rsI s)), .s (.int .i64 (rsV s 0)), .s (.int .i64 (rsV s 1)), .s (.int .i64 (rsV s 2)), .s (.int .i64 (rsV s 3))], .s (.bool (decide (rsB s)))]) := by
  refine den_of_good Tryz.func12 (by decide) rfl (Nat.le_of_ble_eq_true rfl) (Nat.le_of_ble_eq_true rfl) ?_
  refine good_seq fun K1 hK1 => ?_
  refine good_region rfl ?_
  refine ev_k rfl (k_alloc zA25 rfl ?_)
  refine ev_q rfl (q_assign (by conv => lhs; whnf) ?_)
  refine ev_nil (hK1 _ ?_); clear hK1
  refine good_seq fun K2 hK2 => ?_
  refine good_region rfl ?_
  refine ev_q rfl (q_move (by conv => lhs; whnf) ?_)
  refine ev_q rfl (q_call rfl rfl (rfl) (D_impl_readWithId s hs) rfl ?_)
  refine ev_q rfl (q_move (by conv => lhs; whnf) ?_)
  refine ev_q rfl (q_extract rfl rfl ?_)
  refine ev_q rfl (q_extract rfl rfl ?_)
  refine ev_q rfl (q_extractB rfl rfl ?_)
  intro b3 hb3; cases b3
  · first | replace hb3 := dF hb3 | skip
    have hno : ¬ rsB s := fun h => hb3 h.1
    refine ev_q rfl (q_assign (by conv => lhs; whnf) ?_)
    refine ev_q rfl (q_assign (by conv => lhs; whnf) ?_)
    refine ev_q rfl (q_assign (by conv => lhs; whnf) ?_)
    refine ev_nil (hK2 _ ?_); clear hK2
    refine good_join { env := upd (upd (upd (upd ((fun _ => .junk)) 0 (.s (.string s))) 2 (.ptr 2 0)) 6 (.s (.bool false))) 7 (.ptr 7 0), H := upd (upd ((fun _ => none)) 7 (some (.box 25 [.s (.string (if svO s then sId s else tx [])), .s (.int .i64 (svV s 0)), .s (.int .i64 (svV s 1)), .s (.int .i64 (svV s 2)), .s (.int .i64 (svV s 3))]))) 2 (some (.box 25 [.s (.string ⟨#[]⟩), .s (.int .i64 0), .s (.int .i64 0), .s (.int .i64 0), .s (.int .i64 0)])) } ?_ fun K4 hK4 => ?_
    · refine good_seq fun K5 hK5 => ?_
      refine good_seq fun K6 hK6 => ?_
      refine good_region rfl ?_
      refine ev_q rfl (q_move (by conv => lhs; whnf) ?_)
      refine ev_q rfl (q_not rfl rfl ?_)
      refine ev_q rfl (q_move (by conv => lhs; whnf) ?_)
      refine ev_skip rfl ?_
      refine ev_skip rfl ?_
      refine ev_skip rfl ?_
      refine ev_skip rfl ?_
      refine ev_q rfl (q_pickT rfl (by conv => lhs; whnf) ?_)
      refine ev_nil (hK6 _ ?_); clear hK6
      refine good_condT rfl ?_
      refine good_seq fun K7 hK7 => ?_
      refine good_region rfl ?_
      refine ev_k rfl (k_build (cs := [.s (.string ⟨#[]⟩), .s (.int .i64 0), .s (.int .i64 0), .s (.int .i64 0), .s (.int .i64 0)]) zA25 pl25 (rfl) ?_)
      refine ev_k rfl (k_store sz25 rfl (by conv => lhs; whnf) rfl rfl rfl (Nat.le_of_ble_eq_true rfl) rfl ?_)
      refine ev_q rfl (q_assign (by conv => lhs; whnf) ?_)
      refine ev_nil (hK7 _ ?_); clear hK7
      refine good_ret ?_
      repeat (first | refine thenQ_ret ?_ | refine blockQ_ret ?_)
      refine ret_many rfl ?_
      refine res_cell tA25 rfl rfl rfl ?_
      refine res_tmp (by conv => lhs; whnf) rfl ?_
      refine res_nil ?_
      clear hK5
      first | (obtain ⟨e1, e2⟩ := rs_n hno; exact fTup1 (by rw [e1, e2, e2, e2, e2]; rfl) (fTup1 (fF hno) rfl)) | (obtain ⟨e1, e2⟩ := rs_y hyo; exact fTup1 (by rw [e1, e2, e2, e2, e2]; try rw [if_pos hyv]) (fTup1 (fT hyo) rfl))
    · refine good_any 16 (listed := #[false, false, false, false, false, false, false, false, false, false, false, false, false, false, false, false]) rfl rfl hmix rfl ?_
      refine tn_first_q (i := 0) (listed' := #[true, false, false, false, false, false, false, false, false, false, false, false, false, false, false, false]) rfl rfl (by kernel_rfl) rfl (q_move (by conv => lhs; whnf) ?_)
      refine tn_first_q (i := 1) (listed' := #[true, true, false, false, false, false, false, false, false, false, false, false, false, false, false, false]) rfl rfl (by kernel_rfl) rfl (q_move (by conv => lhs; whnf) ?_)
      refine tn_firstS_q (i := 2) (listed' := #[true, true, true, false, false, false, false, false, false, false, false, false, false, false, false, false]) rfl rfl (by kernel_rfl) rfl rfl (q_idx tE36 rfl rfl (by decide) (by exact rnL_get (by decide)) rfl ?_)
      refine tn_firstS_q (i := 3) (listed' := #[true, true, true, true, false, false, false, false, false, false, false, false, false, false, false, false]) rfl rfl (by kernel_rfl) rfl rfl (q_load tA2 rfl ?_)
      refine tn_first_q (i := 4) (listed' := #[true, true, true, true, true, false, false, false, false, false, false, false, false, false, false, false]) rfl rfl (by kernel_rfl) rfl (q_move (by conv => lhs; whnf) ?_)
      refine tn_firstS_q (i := 5) (listed' := #[true, true, true, true, true, true, false, false, false, false, false, false, false, false, false, false]) rfl rfl (by kernel_rfl) rfl rfl (q_idx tE36 rfl rfl (by decide) (by exact rnL_get (by decide)) rfl ?_)
      refine tn_firstS_q (i := 6) (listed' := #[true, true, true, true, true, true, true, false, false, false, false, false, false, false, false, false]) rfl rfl (by kernel_rfl) rfl rfl (q_load tA2 rfl ?_)
      refine tn_first_q (i := 7) (listed' := #[true, true, true, true, true, true, true, true, false, false, false, false, false, false, false, false]) rfl rfl (by kernel_rfl) rfl (q_move (by conv => lhs; whnf) ?_)
      refine tn_firstS_q (i := 8) (listed' := #[true, true, true, true, true, true, true, true, true, false, false, false, false, false, false, false]) rfl rfl (by kernel_rfl) rfl rfl (q_idx tE36 rfl rfl (by decide) (by exact rnL_get (by decide)) rfl ?_)
      refine tn_firstS_q (i := 9) (listed' := #[true, true, true, true, true, true, true, true, true, true, false, false, false, false, false, false]) rfl rfl (by kernel_rfl) rfl rfl (q_load tA2 rfl ?_)
      refine tn_first_q (i := 10) (listed' := #[true, true, true, true, true, true, true, true, true, true, true, false, false, false, false, false]) rfl rfl (by kernel_rfl) rfl (q_move (by conv => lhs; whnf) ?_)
      refine tn_firstS_q (i := 11) (listed' := #[true, true, true, true, true, true, true, true, true, true, true, true, false, false, false, false]) rfl rfl (by kernel_rfl) rfl rfl (q_idx tE36 rfl rfl (by decide) (by exact rnL_get (by decide)) rfl ?_)
      refine tn_firstS_q (i := 12) (listed' := #[true, true, true, true, true, true, true, true, true, true, true, true, true, false, false, false]) rfl rfl (by kernel_rfl) rfl rfl (q_load tA2 rfl ?_)
      refine tn_step [13, 14] (by kernel_rfl) rfl ?_
      refine ⟨?_, ?_, trivial⟩
      · refine tn_k (listed' := #[true, true, true, true, true, true, true, true, true, true, true, true, true, true, false, false]) rfl rfl rfl rfl (k_build zA25 pl25 (rfl) ?_)
        refine tn_step [14] (by kernel_rfl) rfl ?_
        refine ⟨?_, trivial⟩
        · refine tn_k (listed' := #[true, true, true, true, true, true, true, true, true, true, true, true, true, true, true, false]) rfl rfl rfl rfl (k_alloc zA25 rfl ?_)
          refine tn_step [15] (by kernel_rfl) rfl ?_
          refine ⟨?_, trivial⟩
          · refine tn_k (listed' := #[true, true, true, true, true, true, true, true, true, true, true, true, true, true, true, true]) rfl rfl rfl rfl (k_store sz25 rfl (by conv => lhs; whnf) rfl rfl rfl (Nat.le_of_ble_eq_true rfl) rfl ?_)
            refine tn_end (by kernel_rfl) (hK4 _ ?_); clear hK4
            refine sub_weak ?_ ?_
            · exact weakH_box (boxEq (rfl)) rfl (weakH_box (boxEq (rfl)) rfl (weakH_none _))
            · refine weakE_upd ?e7 ?r7 (weakE_upd ?e6 ?r6 (weakE_upd ?e2 ?r2 (weakE_upd ?e0 ?r0 (weakE_junk _ _))))
              case e0 => first | rfl | exact fI (by omega) | (rfl)
              case r0 => intro h hh; cases hh
              case e2 => first | rfl | exact fI (by omega) | (rfl)
              case r2 => intro h hh; simp [refs] at hh; subst hh; rfl
              case e6 => first | rfl | exact fI (by omega) | (rfl)
              case r6 => intro h hh; cases hh
              case e7 => first | rfl | exact fI (by omega) | (rfl)
              case r7 => intro h hh; simp [refs] at hh; subst hh; rfl
      · refine tn_k (listed' := #[true, true, true, true, true, true, true, true, true, true, true, true, true, false, true, false]) rfl rfl rfl rfl (k_alloc zA25 rfl ?_)
        refine tn_step [13] (by kernel_rfl) rfl ?_
        refine ⟨?_, trivial⟩
        · refine tn_k (listed' := #[true, true, true, true, true, true, true, true, true, true, true, true, true, true, true, false]) rfl rfl rfl rfl (k_build zA25 pl25 (rfl) ?_)
          refine tn_step [15] (by kernel_rfl) rfl ?_
          refine ⟨?_, trivial⟩
          · refine tn_k (listed' := #[true, true, true, true, true, true, true, true, true, true, true, true, true, true, true, true]) rfl rfl rfl rfl (k_store sz25 rfl (by conv => lhs; whnf) rfl rfl rfl (Nat.le_of_ble_eq_true rfl) rfl ?_)
            refine tn_end (by kernel_rfl) (hK4 _ ?_); clear hK4
            refine sub_weak ?_ ?_
            · exact weakH_box (boxEq (rfl)) rfl (weakH_box (boxEq (rfl)) rfl (weakH_none _))
            · refine weakE_upd ?e7 ?r7 (weakE_upd ?e6 ?r6 (weakE_upd ?e2 ?r2 (weakE_upd ?e0 ?r0 (weakE_junk _ _))))
              case e0 => first | rfl | exact fI (by omega) | (rfl)
              case r0 => intro h hh; cases hh
              case e2 => first | rfl | exact fI (by omega) | (rfl)
              case r2 => intro h hh; simp [refs] at hh; subst hh; rfl
              case e6 => first | rfl | exact fI (by omega) | (rfl)
              case r6 => intro h hh; cases hh
              case e7 => first | rfl | exact fI (by omega) | (rfl)
              case r7 => intro h hh; simp [refs] at hh; subst hh; rfl
  · first | replace hb3 := dT hb3 | skip
    have hyv : svO s := hb3
    refine ev_q rfl (q_assign (by conv => lhs; whnf) ?_)
    refine ev_q rfl (q_assign (by conv => lhs; whnf) ?_)
    refine ev_q rfl (q_assign (by conv => lhs; whnf) ?_)
    refine ev_nil (hK2 _ ?_); clear hK2
    refine good_join { env := upd (upd (upd (upd ((fun _ => .junk)) 0 (.s (.string s))) 2 (.ptr 2 0)) 6 (.s (.bool true))) 7 (.ptr 7 0), H := upd (upd ((fun _ => none)) 7 (some (.box 25 [.s (.string (if svO s then sId s else tx [])), .s (.int .i64 (svV s 0)), .s (.int .i64 (svV s 1)), .s (.int .i64 (svV s 2)), .s (.int .i64 (svV s 3))]))) 2 (some (.box 25 [.s (.string ⟨#[]⟩), .s (.int .i64 0), .s (.int .i64 0), .s (.int .i64 0), .s (.int .i64 0)])) } ?_ fun K8 hK8 => ?_
    · refine good_seq fun K9 hK9 => ?_
      refine good_seq fun K10 hK10 => ?_
      refine good_region rfl ?_
      refine ev_q rfl (q_move (by conv => lhs; whnf) ?_)
      refine ev_q rfl (q_not rfl rfl ?_)
      refine ev_q rfl (q_move (by conv => lhs; whnf) ?_)
      refine ev_q rfl (q_loadA tA25 rfl rfl rfl ?_)
      refine ev_q rfl (q_call rfl rfl (by change ([.agg [.s (.string (if svO s then sId s else tx [])), .s (.int .i64 (svV s 0)), .s (.int .i64 (svV s 1)), .s (.int .i64 (svV s 2)), .s (.int .i64 (svV s 3))]] : List AV) = _; rw [if_pos hyv]) (D_impl_SubstationText (sId s) (svV s 0) (svV s 1) (svV s 2) (svV s 3) (by have := (cutB_sz (c := 32) (s := s)).2; show (cutA 32 s).size ≤ _; omega)) rfl ?_)
      refine ev_q rfl (q_move (by conv => lhs; whnf) ?_)
      refine ev_q rfl (q_str rfl rfl ?_)
      intro b11 hb11; cases b11
      · replace hb11 := snF hb11
        have hyo : rsB s := ⟨hyv, (sb_text hyv).1 hb11⟩
        refine ev_q rfl (q_pickF rfl (by conv => lhs; whnf) ?_)
        refine ev_nil (hK10 _ ?_); clear hK10
        refine good_condF rfl ?_
        refine good_skip (hK9 _ ?_); clear hK9
        refine good_seq fun K12 hK12 => ?_
        refine good_region rfl ?_
        refine ev_q rfl (q_loadA tA25 rfl rfl rfl ?_)
        refine ev_k rfl (k_store sz25 rfl (by conv => lhs; whnf) rfl rfl rfl (Nat.le_of_ble_eq_true rfl) rfl ?_)
        refine ev_q rfl (q_assign (by conv => lhs; whnf) ?_)
        refine ev_nil (hK12 _ ?_); clear hK12
        refine good_ret ?_
        repeat (first | refine thenQ_ret ?_ | refine blockQ_ret ?_)
        refine ret_many rfl ?_
        refine res_cell tA25 rfl rfl rfl ?_
        refine res_tmp (by conv => lhs; whnf) rfl ?_
        refine res_nil ?_
        first | (obtain ⟨e1, e2⟩ := rs_n hno; exact fTup1 (by rw [e1, e2, e2, e2, e2]; rfl) (fTup1 (fF hno) rfl)) | (obtain ⟨e1, e2⟩ := rs_y hyo; exact fTup1 (by rw [e1, e2, e2, e2, e2]; try rw [if_pos hyv]) (fTup1 (fT hyo) rfl))
      · replace hb11 := snT hb11
        have hno : ¬ rsB s := fun h => hb11 ((sb_text hyv).2 h.2)
        refine ev_q rfl (q_pickF rfl (by conv => lhs; whnf) ?_)
        refine ev_nil (hK10 _ ?_); clear hK10
        refine good_condT rfl ?_
        refine good_seq fun K13 hK13 => ?_
        refine good_region rfl ?_
        refine ev_k rfl (k_build (cs := [.s (.string ⟨#[]⟩), .s (.int .i64 0), .s (.int .i64 0), .s (.int .i64 0), .s (.int .i64 0)]) zA25 pl25 (rfl) ?_)
        refine ev_k rfl (k_store sz25 rfl (by conv => lhs; whnf) rfl rfl rfl (Nat.le_of_ble_eq_true rfl) rfl ?_)
        refine ev_q rfl (q_assign (by conv => lhs; whnf) ?_)
        refine ev_nil (hK13 _ ?_); clear hK13
        refine good_ret ?_
        repeat (first | refine thenQ_ret ?_ | refine blockQ_ret ?_)
        refine ret_many rfl ?_
        refine res_cell tA25 rfl rfl rfl ?_
        refine res_tmp (by conv => lhs; whnf) rfl ?_
        refine res_nil ?_
        clear hK9
        first | (obtain ⟨e1, e2⟩ := rs_n hno; exact fTup1 (by rw [e1, e2, e2, e2, e2]; rfl) (fTup1 (fF hno) rfl)) | (obtain ⟨e1, e2⟩ := rs_y hyo; exact fTup1 (by rw [e1, e2, e2, e2, e2]; try rw [if_pos hyv]) (fTup1 (fT hyo) rfl))
    · refine good_any 16 (listed := #[false, false, false, false, false, false, false, false, false, false, false, false, false, false, false, false]) rfl rfl hmix rfl ?_
      refine tn_first_q (i := 0) (listed' := #[true, false, false, false, false, false, false, false, false, false, false, false, false, false, false, false]) rfl rfl (by kernel_rfl) rfl (q_move (by conv => lhs; whnf) ?_)
      refine tn_first_q (i := 1) (listed' := #[true, true, false, false, false, false, false, false, false, false, false, false, false, false, false, false]) rfl rfl (by kernel_rfl) rfl (q_move (by conv => lhs; whnf) ?_)
      refine tn_firstS_q (i := 2) (listed' := #[true, true, true, false, false, false, false, false, false, false, false, false, false, false, false, false]) rfl rfl (by kernel_rfl) rfl rfl (q_idx tE36 rfl rfl (by decide) (by exact rnL_get (by decide)) rfl ?_)
      refine tn_firstS_q (i := 3) (listed' := #[true, true, true, true, false, false, false, false, false, false, false, false, false, false, false, false]) rfl rfl (by kernel_rfl) rfl rfl (q_load tA2 rfl ?_)
      refine tn_first_q (i := 4) (listed' := #[true, true, true, true, true, false, false, false, false, false, false, false, false, false, false, false]) rfl rfl (by kernel_rfl) rfl (q_move (by conv => lhs; whnf) ?_)
      refine tn_firstS_q (i := 5) (listed' := #[true, true, true, true, true, true, false, false, false, false, false, false, false, false, false, false]) rfl rfl (by kernel_rfl) rfl rfl (q_idx tE36 rfl rfl (by decide) (by exact rnL_get (by decide)) rfl ?_)
      refine tn_firstS_q (i := 6) (listed' := #[true, true, true, true, true, true, true, false, false, false, false, false, false, false, false, false]) rfl rfl (by kernel_rfl) rfl rfl (q_load tA2 rfl ?_)
      refine tn_first_q (i := 7) (listed' := #[true, true, true, true, true, true, true, true, false, false, false, false, false, false, false, false]) rfl rfl (by kernel_rfl) rfl (q_move (by conv => lhs; whnf) ?_)
      refine tn_firstS_q (i := 8) (listed' := #[true, true, true, true, true, true, true, true, true, false, false, false, false, false, false, false]) rfl rfl (by kernel_rfl) rfl rfl (q_idx tE36 rfl rfl (by decide) (by exact rnL_get (by decide)) rfl ?_)
      refine tn_firstS_q (i := 9) (listed' := #[true, true, true, true, true, true, true, true, true, true, false, false, false, false, false, false]) rfl rfl (by kernel_rfl) rfl rfl (q_load tA2 rfl ?_)
      refine tn_first_q (i := 10) (listed' := #[true, true, true, true, true, true, true, true, true, true, true, false, false, false, false, false]) rfl rfl (by kernel_rfl) rfl (q_move (by conv => lhs; whnf) ?_)
      refine tn_firstS_q (i := 11) (listed' := #[true, true, true, true, true, true, true, true, true, true, true, true, false, false, false, false]) rfl rfl (by kernel_rfl) rfl rfl (q_idx tE36 rfl rfl (by decide) (by exact rnL_get (by decide)) rfl ?_)
      refine tn_firstS_q (i := 12) (listed' := #[true, true, true, true, true, true, true, true, true, true, true, true, true, false, false, false]) rfl rfl (by kernel_rfl) rfl rfl (q_load tA2 rfl ?_)
      refine tn_step [13, 14] (by kernel_rfl) rfl ?_
      refine ⟨?_, ?_, trivial⟩
      · refine tn_k (listed' := #[true, true, true, true, true, true, true, true, true, true, true, true, true, true, false, false]) rfl rfl rfl rfl (k_build zA25 pl25 (rfl) ?_)
        refine tn_step [14] (by kernel_rfl) rfl ?_
        refine ⟨?_, trivial⟩
        · refine tn_k (listed' := #[true, true, true, true, true, true, true, true, true, true, true, true, true, true, true, false]) rfl rfl rfl rfl (k_alloc zA25 rfl ?_)
          refine tn_step [15] (by kernel_rfl) rfl ?_
          refine ⟨?_, trivial⟩
          · refine tn_k (listed' := #[true, true, true, true, true, true, true, true, true, true, true, true, true, true, true, true]) rfl rfl rfl rfl (k_store sz25 rfl (by conv => lhs; whnf) rfl rfl rfl (Nat.le_of_ble_eq_true rfl) rfl ?_)
            refine tn_end (by kernel_rfl) (hK8 _ ?_); clear hK8
            refine sub_weak ?_ ?_
            · exact weakH_box (boxEq (rfl)) rfl (weakH_box (boxEq (rfl)) rfl (weakH_none _))
            · refine weakE_upd ?e7 ?r7 (weakE_upd ?e6 ?r6 (weakE_upd ?e2 ?r2 (weakE_upd ?e0 ?r0 (weakE_junk _ _))))
              case e0 => first | rfl | exact fI (by omega) | (rfl)
              case r0 => intro h hh; cases hh
              case e2 => first | rfl | exact fI (by omega) | (rfl)
              case r2 => intro h hh; simp [refs] at hh; subst hh; rfl
              case e6 => first | rfl | exact fI (by omega) | (rfl)
              case r6 => intro h hh; cases hh
              case e7 => first | rfl | exact fI (by omega) | (rfl)
              case r7 => intro h hh; simp [refs] at hh; subst hh; rfl
      · refine tn_k (listed' := #[true, true, true, true, true, true, true, true, true, true, true, true, true, false, true, false]) rfl rfl rfl rfl (k_alloc zA25 rfl ?_)
        refine tn_step [13] (by kernel_rfl) rfl ?_
        refine ⟨?_, trivial⟩
        · refine tn_k (listed' := #[true, true, true, true, true, true, true, true, true, true, true, true, true, true, true, false]) rfl rfl rfl rfl (k_build zA25 pl25 (rfl) ?_)
          refine tn_step [15] (by kernel_rfl) rfl ?_
          refine ⟨?_, trivial⟩
          · refine tn_k (listed' := #[true, true, true, true, true, true, true, true, true, true, true, true, true, true, true, true]) rfl rfl rfl rfl (k_store sz25 rfl (by conv => lhs; whnf) rfl rfl rfl (Nat.le_of_ble_eq_true rfl) rfl ?_)
            refine tn_end (by kernel_rfl) (hK8 _ ?_); clear hK8
            refine sub_weak ?_ ?_
            · exact weakH_box (boxEq (rfl)) rfl (weakH_box (boxEq (rfl)) rfl (weakH_none _))
            · refine weakE_upd ?e7 ?r7 (weakE_upd ?e6 ?r6 (weakE_upd ?e2 ?r2 (weakE_upd ?e0 ?r0 (weakE_junk _ _))))
              case e0 => first | rfl | exact fI (by omega) | (rfl)
              case r0 => intro h hh; cases hh
              case e2 => first | rfl | exact fI (by omega) | (rfl)
              case r2 => intro h hh; simp [refs] at hh; subst hh; rfl
              case e6 => first | rfl | exact fI (by omega) | (rfl)
              case r6 => intro h hh; cases hh
              case e7 => first | rfl | exact fI (by omega) | (rfl)
              case r7 => intro h hh; simp [refs] at hh; subst hh; rfl

-- (*spec.l00Src).next
set_option maxRecDepth 20000 in
set_option maxHeartbeats 2000000 in
theorem D_spec_l00Src_next (cs : List Int) (a s : Int) (hc : cs.length ≤ 17592186044416) (hb : byteL cs) (ha : 0 ≤ a ∧ a ≤ 3999999999999999999)  : DenXR Tryz.prog 104 [(1000000, .box 91 (src cs a s))] [.ptr 1000000 0] (τ := Int × Int × Int) (fun (v, a1, s1) => (0 ≤ v ∧ v ≤ 255) ∧ (a ≤ a1 ∧ a1 ≤ a + 1)) (fun (v, a1, s1) => [(1000000, .box 91 (src cs a1 s1))]) (fun (v, a1, s1) => .s (.int .i64 v)) := by
  refine denXR_of_good Tryz.func104 (by decide) rfl (Nat.le_of_ble_eq_true rfl) (Nat.le_of_ble_eq_true rfl) rfl ?_
  refine good_seq fun K1 hK1 => ?_
  refine good_region rfl ?_
  refine ev_q rfl (q_assign (by conv => lhs; whnf) ?_)
  refine ev_nil (hK1 _ ?_); clear hK1
  refine good_seq fun K2 hK2 => ?_
  refine good_region rfl ?_
  refine ev_q rfl (q_assign (by conv => lhs; whnf) ?_)
  refine ev_nil (hK2 _ ?_); clear hK2
  refine good_seq fun K3 hK3 => ?_
  refine good_seq fun K4 hK4 => ?_
  refine good_draw 10 hmix (by kernel_rfl) rfl ?_
  refine qo_q rfl (q_move (by conv => lhs; whnf) ?_)
  refine qo_q rfl (q_nilCheck (by conv => lhs; whnf) rfl ?_)
  refine qo_q rfl (q_fieldAddrP fO91_1 rfl rfl ?_)
  refine qo_q rfl (q_load tA3 rfl ?_)
  refine qo_q rfl (q_move (by conv => lhs; whnf) ?_)
  refine qo_q rfl (q_nilCheck (by conv => lhs; whnf) rfl ?_)
  refine qo_q rfl (q_fieldAddrP fO91_0 rfl rfl ?_)
  refine qo_q rfl (q_load tA22 rfl ?_)
  refine qo_q rfl (q_len tEs22 rfl ?_)
  intro n5 hn5
  try simp only [List.length_map] at hn5
  refine qo_q rfl (q_int rfl rfl ?_)
  intro b6 hb6; cases b6
  · replace hb6 := dF hb6
    refine qo_nil ?_
    refine ev_nil (hK4 _ ?_); clear hK4
    refine good_condF rfl ?_
    refine good_skip (hK3 _ ?_); clear hK3
    refine good_seq fun K7 hK7 => ?_
    refine good_region rfl ?_
    refine ev_q rfl (q_move (by conv => lhs; whnf) ?_)
    refine ev_q rfl (q_nilCheck (by conv => lhs; whnf) rfl ?_)
    refine ev_q rfl (q_fieldAddrP fO91_1 rfl rfl ?_)
    refine ev_q rfl (q_load tA3 rfl ?_)
    refine ev_q rfl (q_int rfl rfl ?_)
    intro n8 hn8
    replace hn8 := in64 hn8 (by omega) (by omega)
    refine ev_q rfl (q_nilCheck (by conv => lhs; whnf) rfl ?_)
    refine ev_q rfl (q_fieldAddrP fO91_1 rfl rfl ?_)
    refine ev_k rfl (k_store sz3 rfl (by conv => lhs; whnf) rfl rfl rfl (Nat.le_of_ble_eq_true rfl) rfl ?_)
    refine ev_nil (hK7 _ ?_); clear hK7
    refine good_seq fun K9 hK9 => ?_
    refine good_region rfl ?_
    refine ev_q rfl (q_move (by conv => lhs; whnf) ?_)
    refine ev_q rfl (q_move (by conv => lhs; whnf) ?_)
    refine ev_q rfl (q_nilCheck (by conv => lhs; whnf) rfl ?_)
    refine ev_q rfl (q_fieldAddrP fO91_2 rfl rfl ?_)
    refine ev_q rfl (q_load tA89 rfl ?_)
    refine ev_q rfl (q_int rfl rfl ?_)
    intro n10 hn10
    skip
    refine ev_q rfl (q_move (by conv => lhs; whnf) ?_)
    refine ev_q rfl (q_conv tK3 tK89 rfl ?_)
    intro n11 hn11
    skip
    refine ev_q rfl (q_int rfl rfl ?_)
    intro n12 hn12
    skip
    refine ev_q rfl (q_int rfl rfl ?_)
    intro n13 hn13
    skip
    refine ev_q rfl (q_nilCheck (by conv => lhs; whnf) rfl ?_)
    refine ev_q rfl (q_fieldAddrP fO91_2 rfl rfl ?_)
    refine ev_k rfl (k_store sz89 rfl (by conv => lhs; whnf) rfl rfl rfl (Nat.le_of_ble_eq_true rfl) rfl ?_)
    refine ev_nil (hK9 _ ?_); clear hK9
    refine good_seq fun K14 hK14 => ?_
    refine good_seq fun K15 hK15 => ?_
    refine good_draw 10 hmix (by kernel_rfl) rfl ?_
    refine qo_q rfl (q_move (by conv => lhs; whnf) ?_)
    refine qo_q rfl (q_nilCheck (by conv => lhs; whnf) rfl ?_)
    refine qo_q rfl (q_fieldAddrP fO91_1 rfl rfl ?_)
    refine qo_q rfl (q_load tA3 rfl ?_)
    refine qo_q rfl (q_move (by conv => lhs; whnf) ?_)
    refine qo_q rfl (q_nilCheck (by conv => lhs; whnf) rfl ?_)
    refine qo_q rfl (q_fieldAddrP fO91_0 rfl rfl ?_)
    refine qo_q rfl (q_load tA22 rfl ?_)
    refine qo_q rfl (q_len tEs22 rfl ?_)
    intro n16 hn16
    try simp only [List.length_map] at hn16
    refine qo_q rfl (q_int rfl rfl ?_)
    intro b17 hb17; cases b17
    · replace hb17 := dF hb17
      refine qo_nil ?_
      refine ev_nil (hK15 _ ?_); clear hK15
      refine good_condF rfl ?_
      refine good_skip (hK14 _ ?_); clear hK14
      refine good_seq fun K18 hK18 => ?_
      refine good_region rfl ?_
      refine ev_q rfl (q_move (by conv => lhs; whnf) ?_)
      refine ev_q rfl (q_nilCheck (by conv => lhs; whnf) rfl ?_)
      refine ev_q rfl (q_fieldAddrP fO91_2 rfl rfl ?_)
      refine ev_q rfl (q_load tA89 rfl ?_)
      refine ev_q rfl (q_shr rfl rfl ⟨by omega, ?_⟩)
      intro n19 hn19
      skip
      refine ev_q rfl (q_int rfl rfl ?_)
      intro n20 hn20
      have hv := and255 hn20
      refine ev_q rfl (q_conv tK89 tK2 rfl ?_)
      intro n21 hn21
      replace hn21 := in64 hn21 (by omega) (by omega)
      refine ev_q rfl (q_assign (by conv => lhs; whnf) ?_)
      refine ev_nil (hK18 _ ?_); clear hK18
      refine good_ret ?_
      repeat (first | refine thenQ_ret ?_ | refine blockQ_ret ?_)
      apply ex_3
      case hF =>
        refine fx_tmp rfl (by conv => lhs; whnf) ?_
        exact ⟨_, conv_eq (by first | rfl | exact fI (by first | omega | grind) | (exfalso; first | omega | grind)), weakH_box (boxEq (by first | rfl | (rw [e]; done) | (rw [e]; rfl) | (simp_all; done))) rfl (weakH_none _), refsIn_ok rfl⟩
      case hR =>
        exact ⟨by omega, by omega⟩
    · replace hb17 := dT hb17
      refine qo_nil ?_
      refine ev_nil (hK15 _ ?_); clear hK15
      refine good_condT rfl ?_
      refine good_seq fun K22 hK22 => ?_
      refine good_region rfl ?_
      refine ev_q rfl (q_move (by conv => lhs; whnf) ?_)
      refine ev_q rfl (q_assign (by conv => lhs; whnf) ?_)
      refine ev_nil (hK22 _ ?_); clear hK22
      refine good_ret ?_
      repeat (first | refine thenQ_ret ?_ | refine blockQ_ret ?_)
      clear hK14
      apply ex_3
      case hF =>
        refine fx_tmp rfl (by conv => lhs; whnf) ?_
        exact ⟨_, conv_eq (by first | rfl | exact fI (by first | omega | grind) | (exfalso; first | omega | grind)), weakH_box (boxEq (by first | rfl | (rw [e]; done) | (rw [e]; rfl) | (simp_all; done))) rfl (weakH_none _), refsIn_ok rfl⟩
      case hR =>
        exact ⟨by omega, by omega⟩
  · replace hb6 := dT hb6
    obtain ⟨p, hp⟩ := getL (xs := cs) (n := a) (by omega) (by omega)
    have hpb := hb p (List.mem_of_getElem? hp)
    refine qo_nil ?_
    refine ev_nil (hK4 _ ?_); clear hK4
    refine good_condT rfl ?_
    refine good_draw 12 hmix (by kernel_rfl) rfl ?_
    refine qo_q rfl (q_move (by conv => lhs; whnf) ?_)
    refine qo_q rfl (q_nilCheck (by conv => lhs; whnf) rfl ?_)
    refine qo_q rfl (q_fieldAddrP fO91_0 rfl rfl ?_)
    refine qo_q rfl (q_load tA22 rfl ?_)
    refine qo_q rfl (q_move (by conv => lhs; whnf) ?_)
    refine qo_q rfl (q_nilCheck (by conv => lhs; whnf) rfl ?_)
    refine qo_q rfl (q_fieldAddrP fO91_1 rfl rfl ?_)
    refine qo_q rfl (q_load tA3 rfl ?_)
    refine qo_q rfl (q_idx tE22 rfl rfl (by omega) (by exact map_get hp) rfl ?_)
    refine qo_q rfl (q_load tA5 rfl ?_)
    refine qo_q rfl (q_conv tK5 tK3 rfl ?_)
    intro n23 hn23
    replace hn23 := in64 hn23 (by omega) (by omega)
    refine qo_q rfl (q_assign (by conv => lhs; whnf) ?_)
    refine qo_nil ?_
    refine ev_nil (hK3 _ ?_); clear hK3
    refine good_seq fun K24 hK24 => ?_
    refine good_region rfl ?_
    refine ev_q rfl (q_move (by conv => lhs; whnf) ?_)
    refine ev_q rfl (q_nilCheck (by conv => lhs; whnf) rfl ?_)
    refine ev_q rfl (q_fieldAddrP fO91_1 rfl rfl ?_)
    refine ev_q rfl (q_load tA3 rfl ?_)
    refine ev_q rfl (q_int rfl rfl ?_)
    intro n25 hn25
    replace hn25 := in64 hn25 (by omega) (by omega)
    refine ev_q rfl (q_nilCheck (by conv => lhs; whnf) rfl ?_)
    refine ev_q rfl (q_fieldAddrP fO91_1 rfl rfl ?_)
    refine ev_k rfl (k_store sz3 rfl (by conv => lhs; whnf) rfl rfl rfl (Nat.le_of_ble_eq_true rfl) rfl ?_)
    refine ev_nil (hK24 _ ?_); clear hK24
    refine good_seq fun K26 hK26 => ?_
    refine good_region rfl ?_
    refine ev_q rfl (q_move (by conv => lhs; whnf) ?_)
    refine ev_q rfl (q_move (by conv => lhs; whnf) ?_)
    refine ev_q rfl (q_nilCheck (by conv => lhs; whnf) rfl ?_)
    refine ev_q rfl (q_fieldAddrP fO91_2 rfl rfl ?_)
    refine ev_q rfl (q_load tA89 rfl ?_)
    refine ev_q rfl (q_int rfl rfl ?_)
    intro n27 hn27
    skip
    refine ev_q rfl (q_move (by conv => lhs; whnf) ?_)
    refine ev_q rfl (q_conv tK3 tK89 rfl ?_)
    intro n28 hn28
    skip
    refine ev_q rfl (q_int rfl rfl ?_)
    intro n29 hn29
    skip
    refine ev_q rfl (q_int rfl rfl ?_)
    intro n30 hn30
    skip
    refine ev_q rfl (q_nilCheck (by conv => lhs; whnf) rfl ?_)
    refine ev_q rfl (q_fieldAddrP fO91_2 rfl rfl ?_)
    refine ev_k rfl (k_store sz89 rfl (by conv => lhs; whnf) rfl rfl rfl (Nat.le_of_ble_eq_true rfl) rfl ?_)
    refine ev_nil (hK26 _ ?_); clear hK26
    refine good_seq fun K31 hK31 => ?_
    refine good_seq fun K32 hK32 => ?_
    refine good_draw 10 hmix (by kernel_rfl) rfl ?_
    refine qo_q rfl (q_move (by conv => lhs; whnf) ?_)
    refine qo_q rfl (q_nilCheck (by conv => lhs; whnf) rfl ?_)
    refine qo_q rfl (q_fieldAddrP fO91_1 rfl rfl ?_)
    refine qo_q rfl (q_load tA3 rfl ?_)
    refine qo_q rfl (q_move (by conv => lhs; whnf) ?_)
    refine qo_q rfl (q_nilCheck (by conv => lhs; whnf) rfl ?_)
    refine qo_q rfl (q_fieldAddrP fO91_0 rfl rfl ?_)
    refine qo_q rfl (q_load tA22 rfl ?_)
    refine qo_q rfl (q_len tEs22 rfl ?_)
    intro n33 hn33
    try simp only [List.length_map] at hn33
    refine qo_q rfl (q_int rfl rfl ?_)
    intro b34 hb34; cases b34
    · replace hb34 := dF hb34
      refine qo_nil ?_
      refine ev_nil (hK32 _ ?_); clear hK32
      refine good_condF rfl ?_
      refine good_skip (hK31 _ ?_); clear hK31
      refine good_seq fun K35 hK35 => ?_
      refine good_region rfl ?_
      refine ev_q rfl (q_move (by conv => lhs; whnf) ?_)
      refine ev_q rfl (q_nilCheck (by conv => lhs; whnf) rfl ?_)
      refine ev_q rfl (q_fieldAddrP fO91_2 rfl rfl ?_)
      refine ev_q rfl (q_load tA89 rfl ?_)
      refine ev_q rfl (q_shr rfl rfl ⟨by omega, ?_⟩)
      intro n36 hn36
      skip
      refine ev_q rfl (q_int rfl rfl ?_)
      intro n37 hn37
      have hv := and255 hn37
      refine ev_q rfl (q_conv tK89 tK2 rfl ?_)
      intro n38 hn38
      replace hn38 := in64 hn38 (by omega) (by omega)
      refine ev_q rfl (q_assign (by conv => lhs; whnf) ?_)
      refine ev_nil (hK35 _ ?_); clear hK35
      refine good_ret ?_
      repeat (first | refine thenQ_ret ?_ | refine blockQ_ret ?_)
      apply ex_3
      case hF =>
        refine fx_tmp rfl (by conv => lhs; whnf) ?_
        exact ⟨_, conv_eq (by first | rfl | exact fI (by first | omega | grind) | (exfalso; first | omega | grind)), weakH_box (boxEq (by first | rfl | (rw [e]; done) | (rw [e]; rfl) | (simp_all; done))) rfl (weakH_none _), refsIn_ok rfl⟩
      case hR =>
        exact ⟨by omega, by omega⟩
    · replace hb34 := dT hb34
      refine qo_nil ?_
      refine ev_nil (hK32 _ ?_); clear hK32
      refine good_condT rfl ?_
      refine good_seq fun K39 hK39 => ?_
      refine good_region rfl ?_
      refine ev_q rfl (q_move (by conv => lhs; whnf) ?_)
      refine ev_q rfl (q_assign (by conv => lhs; whnf) ?_)
      refine ev_nil (hK39 _ ?_); clear hK39
      refine good_ret ?_
      repeat (first | refine thenQ_ret ?_ | refine blockQ_ret ?_)
      clear hK31
      apply ex_3
      case hF =>
        refine fx_tmp rfl (by conv => lhs; whnf) ?_
        exact ⟨_, conv_eq (by first | rfl | exact fI (by first | omega | grind) | (exfalso; first | omega | grind)), weakH_box (boxEq (by first | rfl | (rw [e]; done) | (rw [e]; rfl) | (simp_all; done))) rfl (weakH_none _), refsIn_ok rfl⟩
      case hR =>
        exact ⟨by omega, by omega⟩

-- (*spec.l00Src).pick
set_option maxRecDepth 20000 in
set_option maxHeartbeats 2000000 in
theorem D_spec_l00Src_pick (cs : List Int) (a s : Int) (n : Int) (hc : cs.length ≤ 17592186044416) (hb : byteL cs) (ha : 0 ≤ a ∧ a ≤ 3999999999999999998) (hn : -1000000000000 ≤ n ∧ n ≤ 1000000000000) : DenXR Tryz.prog 73 [(1000000, .box 91 (src cs a s))] [.ptr 1000000 0, .s (.int .i64 n)] (τ := Int × Int × Int) (fun (v, a1, s1) => (0 ≤ v ∧ (v = 0 ∨ v < n)) ∧ (a ≤ a1 ∧ a1 ≤ a + 2)) (fun (v, a1, s1) => [(1000000, .box 91 (src cs a1 s1))]) (fun (v, a1, s1) => .s (.int .i64 v)) := by
  refine denXR_of_good Tryz.func73 (by decide) rfl (Nat.le_of_ble_eq_true rfl) (Nat.le_of_ble_eq_true rfl) rfl ?_
  refine good_seq fun K1 hK1 => ?_
  refine good_region rfl ?_
  refine ev_q rfl (q_assign (by conv => lhs; whnf) ?_)
  refine ev_nil (hK1 _ ?_); clear hK1
  refine good_seq fun K2 hK2 => ?_
  refine good_seq fun K3 hK3 => ?_
  refine good_region rfl ?_
  refine ev_q rfl (q_move (by conv => lhs; whnf) ?_)
  refine ev_q rfl (q_int rfl rfl ?_)
  intro b4 hb4; cases b4
  · replace hb4 := dF hb4
    refine ev_nil (hK3 _ ?_); clear hK3
    refine good_condF rfl ?_
    refine good_skip (hK2 _ ?_); clear hK2
    refine good_seq fun K5 hK5 => ?_
    refine good_region rfl ?_
    refine ev_q rfl (q_move (by conv => lhs; whnf) ?_)
    refine ev_k rfl (k_callR [(1000000, 1000000)] (D_spec_l00Src_next cs _ _  hc hb (by omega)) rfl (rfl) (rfl) ⟨rfl, trivial⟩ rfl (by rintro ⟨v6, a6, s6⟩ ⟨hx6_0, hx6_1⟩; exact ⟨⟨rfl, rfl, trivial⟩, rfl⟩) rfl rfl ?_)
    rintro ⟨v6, a6, s6⟩ ⟨hx6_0, hx6_1⟩
    refine ev_q rfl (q_assign (by conv => lhs; whnf) ?_)
    refine ev_nil (hK5 _ ?_); clear hK5
    refine good_seq fun K7 hK7 => ?_
    refine good_seq fun K8 hK8 => ?_
    refine good_region rfl ?_
    refine ev_q rfl (q_move (by conv => lhs; whnf) ?_)
    refine ev_q rfl (q_int rfl rfl ?_)
    intro b9 hb9; cases b9
    · replace hb9 := dF hb9
      refine ev_nil (hK8 _ ?_); clear hK8
      refine good_condF rfl ?_
      refine good_skip (hK7 _ ?_); clear hK7
      refine good_seq fun K10 hK10 => ?_
      refine good_region rfl ?_
      refine ev_q rfl (q_move (by conv => lhs; whnf) ?_)
      refine ev_q rfl (q_move (by conv => lhs; whnf) ?_)
      refine ev_q rfl (q_int rfl rfl ⟨by omega, ?_⟩)
      intro n11 hn11
      replace hn11 := remE hn11 (by omega)
      have hr : 0 ≤ n11 ∧ n11 < n := by rw [hn11]; exact ⟨Int.emod_nonneg _ (by omega), Int.emod_lt_of_pos _ (by omega)⟩
      refine ev_q rfl (q_assign (by conv => lhs; whnf) ?_)
      refine ev_nil (hK10 _ ?_); clear hK10
      refine good_ret ?_
      repeat (first | refine thenQ_ret ?_ | refine blockQ_ret ?_)
      apply ex_3
      case hF =>
        refine fx_tmp rfl (by conv => lhs; whnf) ?_
        exact ⟨_, conv_eq (by first | rfl | exact fI (by first | omega | grind) | (exfalso; first | omega | grind)), weakH_box (boxEq (by first | rfl | (rw [e]; done) | (rw [e]; rfl) | (simp_all; done))) rfl (weakH_none _), refsIn_ok rfl⟩
      case hR =>
        exact ⟨by omega, by omega⟩
    · replace hb9 := dT hb9
      refine ev_nil (hK8 _ ?_); clear hK8
      refine good_condT rfl ?_
      refine good_region rfl ?_
      refine ev_q rfl (q_move (by conv => lhs; whnf) ?_)
      refine ev_q rfl (q_int rfl rfl ?_)
      intro n12 hn12
      replace hn12 := in64 hn12 (by omega) (by omega)
      refine ev_q rfl (q_move (by conv => lhs; whnf) ?_)
      refine ev_k rfl (k_callR [(1000000, 1000000)] (D_spec_l00Src_next cs _ _  hc hb (by omega)) rfl (rfl) (rfl) ⟨rfl, trivial⟩ rfl (by rintro ⟨v13, a13, s13⟩ ⟨hx13_0, hx13_1⟩; exact ⟨⟨rfl, rfl, trivial⟩, rfl⟩) rfl rfl ?_)
      rintro ⟨v13, a13, s13⟩ ⟨hx13_0, hx13_1⟩
      refine ev_q rfl (q_int rfl rfl ?_)
      intro n14 hn14
      replace hn14 := in64 hn14 (by omega) (by omega)
      refine ev_q rfl (q_assign (by conv => lhs; whnf) ?_)
      refine ev_nil (hK7 _ ?_); clear hK7
      refine good_seq fun K15 hK15 => ?_
      refine good_region rfl ?_
      refine ev_q rfl (q_move (by conv => lhs; whnf) ?_)
      refine ev_q rfl (q_move (by conv => lhs; whnf) ?_)
      refine ev_q rfl (q_int rfl rfl ⟨by omega, ?_⟩)
      intro n16 hn16
      replace hn16 := remE hn16 (by omega)
      have hr : 0 ≤ n16 ∧ n16 < n := by rw [hn16]; exact ⟨Int.emod_nonneg _ (by omega), Int.emod_lt_of_pos _ (by omega)⟩
      refine ev_q rfl (q_assign (by conv => lhs; whnf) ?_)
      refine ev_nil (hK15 _ ?_); clear hK15
      refine good_ret ?_
      repeat (first | refine thenQ_ret ?_ | refine blockQ_ret ?_)
      apply ex_3
      case hF =>
        refine fx_tmp rfl (by conv => lhs; whnf) ?_
        exact ⟨_, conv_eq (by first | rfl | exact fI (by first | omega | grind) | (exfalso; first | omega | grind)), weakH_box (boxEq (by first | rfl | (rw [e]; done) | (rw [e]; rfl) | (simp_all; done))) rfl (weakH_none _), refsIn_ok rfl⟩
      case hR =>
        exact ⟨by omega, by omega⟩
  · replace hb4 := dT hb4
    refine ev_nil (hK3 _ ?_); clear hK3
    refine good_condT rfl ?_
    refine good_seq fun K17 hK17 => ?_
    refine good_region rfl ?_
    refine ev_q rfl (q_assign (by conv => lhs; whnf) ?_)
    refine ev_nil (hK17 _ ?_); clear hK17
    refine good_ret ?_
    repeat (first | refine thenQ_ret ?_ | refine blockQ_ret ?_)
    clear hK2
    apply ex_3
    case hF =>
      refine fx_tmp rfl (by conv => lhs; whnf) ?_
      exact ⟨_, conv_eq (by first | rfl | exact fI (by first | omega | grind) | (exfalso; first | omega | grind)), weakH_box (boxEq (by first | rfl | (rw [e]; done) | (rw [e]; rfl) | (simp_all; done))) rfl (weakH_none _), refsIn_ok rfl⟩
    case hR =>
      exact ⟨by omega, by omega⟩

-- (*spec.l00Src).one
set_option maxRecDepth 20000 in
set_option maxHeartbeats 2000000 in
theorem D_spec_l00Src_one (cs : List Int) (a s : Int) (n : Int) (hc : cs.length ≤ 17592186044416) (hb : byteL cs) (ha : 0 ≤ a ∧ a ≤ 3999999999999999998) (hn : -1000000000000 ≤ n ∧ n ≤ 1000000000000) : DenXR Tryz.prog 75 [(1000000, .box 91 (src cs a s))] [.ptr 1000000 0, .s (.int .i64 n)] (τ := Bool × Int × Int) (fun (v, a1, s1) => a ≤ a1 ∧ a1 ≤ a + 2) (fun (v, a1, s1) => [(1000000, .box 91 (src cs a1 s1))]) (fun (v, a1, s1) => .s (.bool v)) := by
  refine denXR_of_good Tryz.func75 (by decide) rfl (Nat.le_of_ble_eq_true rfl) (Nat.le_of_ble_eq_true rfl) rfl ?_
  refine good_seq fun K1 hK1 => ?_
  refine good_region rfl ?_
  refine ev_q rfl (q_assign (by conv => lhs; whnf) ?_)
  refine ev_nil (hK1 _ ?_); clear hK1
  refine good_seq fun K2 hK2 => ?_
  refine good_region rfl ?_
  refine ev_q rfl (q_move (by conv => lhs; whnf) ?_)
  refine ev_q rfl (q_move (by conv => lhs; whnf) ?_)
  refine ev_k rfl (k_callR [(1000000, 1000000)] (D_spec_l00Src_pick cs _ _ _ hc hb (by omega) (by omega)) rfl (rfl) (rfl) ⟨rfl, trivial⟩ rfl (by rintro ⟨v3, a3, s3⟩ ⟨hx3_0, hx3_1⟩; exact ⟨⟨rfl, rfl, trivial⟩, rfl⟩) rfl rfl ?_)
  rintro ⟨v3, a3, s3⟩ ⟨hx3_0, hx3_1⟩
  refine ev_q rfl (q_int rfl rfl ?_)
  intro b4 hb4; cases b4
  · replace hb4 := eqF hb4
    refine ev_q rfl (q_assign (by conv => lhs; whnf) ?_)
    refine ev_nil (hK2 _ ?_); clear hK2
    refine good_ret ?_
    repeat (first | refine thenQ_ret ?_ | refine blockQ_ret ?_)
    apply ex_3
    case hF =>
      refine fx_tmp rfl (by conv => lhs; whnf) ?_
      exact ⟨_, conv_eq (by first | rfl | exact fT (by first | omega | grind) | exact fF (by first | omega | grind) | exact fT' (by first | omega | grind) | (exfalso; first | omega | grind)), weakH_box (boxEq (by first | rfl | (rw [e]; done) | (rw [e]; rfl) | (simp_all; done))) rfl (weakH_none _), refsIn_ok rfl⟩
    case hR =>
      exact ⟨by omega, by omega⟩
  · replace hb4 := eqT hb4
    refine ev_q rfl (q_assign (by conv => lhs; whnf) ?_)
    refine ev_nil (hK2 _ ?_); clear hK2
    refine good_ret ?_
    repeat (first | refine thenQ_ret ?_ | refine blockQ_ret ?_)
    apply ex_3
    case hF =>
      refine fx_tmp rfl (by conv => lhs; whnf) ?_
      exact ⟨_, conv_eq (by first | rfl | exact fT (by first | omega | grind) | exact fF (by first | omega | grind) | exact fT' (by first | omega | grind) | (exfalso; first | omega | grind)), weakH_box (boxEq (by first | rfl | (rw [e]; done) | (rw [e]; rfl) | (simp_all; done))) rfl (weakH_none _), refsIn_ok rfl⟩
    case hR =>
      exact ⟨by omega, by omega⟩

-- (*spec.l00Src).among
set_option maxRecDepth 20000 in
set_option maxHeartbeats 2000000 in
theorem D_spec_l00Src_among (cs : List Int) (a s : Int) (xs : List Int) (hc : cs.length ≤ 17592186044416) (hb : byteL cs) (ha : 0 ≤ a ∧ a ≤ 3999999999999999998) (hx : 1 ≤ xs.length ∧ xs.length ≤ 1000000) : DenXR Tryz.prog 74 [(1000000, .box 91 (src cs a s)), (1000001, .row 2 1 (xs.map ci))] [.ptr 1000000 0, .own 1000001 xs.length] (τ := Int × Int × Int) (fun (v, a1, s1) => (v ∈ xs) ∧ (a ≤ a1 ∧ a1 ≤ a + 2)) (fun (v, a1, s1) => [(1000000, .box 91 (src cs a1 s1)), (1000001, .row 2 1 (xs.map ci))]) (fun (v, a1, s1) => .s (.int .i64 v)) := by
  refine denXR_of_good Tryz.func74 (by decide) rfl (Nat.le_of_ble_eq_true rfl) (Nat.le_of_ble_eq_true rfl) rfl ?_
  refine good_seq fun K1 hK1 => ?_
  refine good_region rfl ?_
  refine ev_q rfl (q_assign (by conv => lhs; whnf) ?_)
  refine ev_nil (hK1 _ ?_); clear hK1
  refine good_seq fun K2 hK2 => ?_
  refine good_region rfl ?_
  refine ev_q rfl (q_move (by conv => lhs; whnf) ?_)
  refine ev_q rfl (q_move (by conv => lhs; whnf) ?_)
  refine ev_q rfl (q_move (by conv => lhs; whnf) ?_)
  refine ev_q rfl (q_len tEs36 rfl ?_)
  intro n3 hn3
  try simp only [List.length_map] at hn3
  refine ev_k rfl (k_callR [(1000000, 1000000)] (D_spec_l00Src_pick cs _ _ _ hc hb (by omega) (by omega)) rfl (rfl) (rfl) ⟨rfl, trivial⟩ rfl (by rintro ⟨v4, a4, s4⟩ ⟨hx4_0, hx4_1⟩; exact ⟨⟨rfl, rfl, trivial⟩, rfl⟩) rfl rfl ?_)
  rintro ⟨v4, a4, s4⟩ ⟨hx4_0, hx4_1⟩
  obtain ⟨p, hp⟩ := getL (xs := xs) (n := v4) (by omega) (by omega)
  refine ev_q rfl (q_idxO tE36 rfl rfl rfl (by omega) (by omega) rfl ?_)
  refine ev_q rfl (q_loadE tA2 rfl rfl (by exact map_get hp) rfl ?_)
  refine ev_q rfl (q_assign (by conv => lhs; whnf) ?_)
  refine ev_nil (hK2 _ ?_); clear hK2
  refine good_ret ?_
  repeat (first | refine thenQ_ret ?_ | refine blockQ_ret ?_)
  apply ex_3
  case hF =>
    refine fx_tmp rfl (by conv => lhs; whnf) ?_
    exact ⟨_, conv_eq (by first | rfl | exact fI (by first | omega | grind) | (exfalso; first | omega | grind)), weakH_box (boxEq (by first | rfl | (rw [e]; done) | (rw [e]; rfl) | (simp_all; done))) rfl (weakH_row (rowEq (by first | rfl | (rw [e]; done) | (rw [e]; rfl) | (simp_all; done))) (weakH_none _)), refsIn_ok rfl⟩
  case hR =>
    exact ⟨List.mem_of_getElem? hp, by omega, by omega⟩

-- spec.l00From
set_option maxRecDepth 20000 in
set_option maxHeartbeats 2000000 in
theorem D_spec_l00From (cs : List Int)  : DenX Tryz.prog 33 [] [.lst 1 (cs.map cb)] [(5, .box 91 (src cs 0 0))] (.ptr 5 0) := by
  refine denX_of_good Tryz.func33 (by decide) rfl (Nat.le_of_ble_eq_true rfl) (Nat.le_of_ble_eq_true rfl) rfl ?_
  refine good_seq fun K1 hK1 => ?_
  refine good_region rfl ?_
  refine ev_q rfl (q_assign (by conv => lhs; whnf) ?_)
  refine ev_nil (hK1 _ ?_); clear hK1
  refine good_seq fun K2 hK2 => ?_
  refine good_region rfl ?_
  refine ev_q rfl (q_move (by conv => lhs; whnf) ?_)
  refine ev_k rfl (k_build zA91 pl91 (rfl) ?_)
  refine ev_k rfl (k_box (by conv => lhs; whnf) rfl rfl rfl ?_)
  refine ev_q rfl (q_assign (by conv => lhs; whnf) ?_)
  refine ev_nil (hK2 _ ?_); clear hK2
  refine good_ret ?_
  repeat (first | refine thenQ_ret ?_ | refine blockQ_ret ?_)
  refine fx_tmp rfl (by conv => lhs; whnf) ?_
  exact ⟨_, conv_eq (by first | rfl | (rw [e]; done) | (rw [e]; rfl) | exact ownEq (by first | omega | simp_all)), weakH_box (boxEq (by first | rfl | (rw [e]; done) | (rw [e]; rfl) | (simp_all; done))) rfl (weakH_none _), refsIn_ok rfl⟩

-- spec.l12DrawOne
set_option maxRecDepth 20000 in
set_option maxHeartbeats 4000000 in
theorem D_spec_l12DrawOne (cs : List Int) (a s : Int) (nm : ByteArray) (hc : cs.length ≤ 17592186044416) (hb : byteL cs) (ha : 0 ≤ a ∧ a ≤ 3999999999999999992)  : DenXR Tryz.prog 35 [(1000000, .box 91 (src cs a s))] [.ptr 1000000 0, .s (.string nm)] (τ := Sb × Int × Int) (fun (v, a1, s1) => (v.id = nm ∧ -1000000000 ≤ v.re ∧ v.re ≤ 1000000000) ∧ (a ≤ a1 ∧ a1 ≤ a + 8)) (fun (v, a1, s1) => [(1000000, .box 91 (src cs a1 s1))]) (fun (v, a1, s1) => .agg [.s (.string v.id), .s (.int .i64 (v.nd)), .s (.int .i64 (v.tr)), .s (.int .i64 (v.su)), .s (.int .i64 (v.re))]) := by
  refine denXR_of_good Tryz.func35 (by decide) rfl (Nat.le_of_ble_eq_true rfl) (Nat.le_of_ble_eq_true rfl) rfl ?_
  refine good_seq fun K1 hK1 => ?_
  refine good_region rfl ?_
  refine ev_k rfl (k_alloc zA25 rfl ?_)
  refine ev_nil (hK1 _ ?_); clear hK1
  refine good_seq fun K2 hK2 => ?_
  refine good_region rfl ?_
  refine ev_q rfl (q_move (by conv => lhs; whnf) ?_)
  refine ev_q rfl (q_move (by conv => lhs; whnf) ?_)
  refine ev_k rfl (k_callR [(1000000, 1000000)] (D_spec_l00Src_pick cs _ _ _ hc hb (by omega) (by omega)) rfl (rfl) (rfl) ⟨rfl, trivial⟩ rfl (by rintro ⟨v3, a3, s3⟩ ⟨hx3_0, hx3_1⟩; exact ⟨⟨rfl, rfl, trivial⟩, rfl⟩) rfl rfl ?_)
  rintro ⟨v3, a3, s3⟩ ⟨hx3_0, hx3_1⟩
  refine ev_q rfl (q_move (by conv => lhs; whnf) ?_)
  refine ev_k rfl (k_callR [(1000000, 1000000)] (D_spec_l00Src_pick cs _ _ _ hc hb (by omega) (by omega)) rfl (rfl) (rfl) ⟨rfl, trivial⟩ rfl (by rintro ⟨v4, a4, s4⟩ ⟨hx4_0, hx4_1⟩; exact ⟨⟨rfl, rfl, trivial⟩, rfl⟩) rfl rfl ?_)
  rintro ⟨v4, a4, s4⟩ ⟨hx4_0, hx4_1⟩
  refine ev_q rfl (q_int rfl rfl ?_)
  intro n5 hn5
  replace hn5 := in64 hn5 (by omega) (by omega)
  refine ev_q rfl (q_int rfl rfl ?_)
  intro n6 hn6
  replace hn6 := in64 hn6 (by omega) (by omega)
  refine ev_k rfl (k_build zA25 pl25 (rfl) ?_)
  refine ev_k rfl (k_alloc zA25 rfl ?_)
  refine ev_k rfl (k_store sz25 rfl (by conv => lhs; whnf) rfl rfl rfl (Nat.le_of_ble_eq_true rfl) rfl ?_)
  refine ev_nil (hK2 _ ?_); clear hK2
  refine good_seq fun K7 hK7 => ?_
  refine good_region rfl ?_
  refine ev_q rfl (q_move (by conv => lhs; whnf) ?_)
  refine ev_k rfl (k_callR [(1000000, 1000000)] (D_spec_l00Src_pick cs _ _ _ hc hb (by omega) (by omega)) rfl (rfl) (rfl) ⟨rfl, trivial⟩ rfl (by rintro ⟨v8, a8, s8⟩ ⟨hx8_0, hx8_1⟩; exact ⟨⟨rfl, rfl, trivial⟩, rfl⟩) rfl rfl ?_)
  rintro ⟨v8, a8, s8⟩ ⟨hx8_0, hx8_1⟩
  refine ev_q rfl (q_int rfl rfl ?_)
  intro n9 hn9
  replace hn9 := in64 hn9 (by omega) (by omega)
  refine ev_q rfl (q_int rfl rfl ?_)
  intro n10 hn10
  replace hn10 := in64 hn10 (by omega) (by omega)
  refine ev_q rfl (q_fieldAddrP fO25_3 rfl rfl ?_)
  refine ev_k rfl (k_store sz2 rfl (by conv => lhs; whnf) rfl rfl rfl (Nat.le_of_ble_eq_true rfl) rfl ?_)
  refine ev_nil (hK7 _ ?_); clear hK7
  refine good_seq fun K11 hK11 => ?_
  refine good_weak (st' := { env := upd (upd (upd ((fun _ => .junk)) 0 (.ptr 1000000 0)) 4 (.ptr 4 0)) 5 (.ptr 5 0), H := upd (upd (upd ((fun _ => none)) 5 (some (.box 25 [.s (.string nm), .s (.int .i64 (v3)), .s (.int .i64 (n6)), .s (.int .i64 (n10)), .s (.int .i64 0)]))) 4 (some (.box 25 [.s (.string ⟨#[]⟩), .s (.int .i64 0), .s (.int .i64 0), .s (.int .i64 0), .s (.int .i64 0)]))) 1000000 (some (.box 91 (src cs a8 s8))) }) ?_ ?_
  · refine sub_weak ?_ ?_
    · exact weakH_box (boxEq (rfl)) rfl (weakH_box (boxEq (rfl)) rfl (weakH_box (boxEq (rfl)) rfl (weakH_none _)))
    · refine weakE_upd ?e5 ?r5 (weakE_upd ?e4 ?r4 (weakE_upd ?e0 ?r0 (weakE_junk _ _)))
      case e0 => first | rfl | exact fI (by omega) | (rfl)
      case r0 => intro h hh; simp [refs] at hh; subst hh; rfl
      case e4 => first | rfl | exact fI (by omega) | (rfl)
      case r4 => intro h hh; simp [refs] at hh; subst hh; rfl
      case e5 => first | rfl | exact fI (by omega) | (rfl)
      case r5 => intro h hh; simp [refs] at hh; subst hh; rfl
  refine good_orders 9 (listed := #[false, false, false, false, false, false, false, false, false]) rfl rfl hmix rfl ?_
  refine an_step [0, 3] (by kernel_rfl) rfl ?_
  refine ⟨?_, ?_, trivial⟩
  · refine an_q (listed' := #[true, false, false, false, false, false, false, false, false]) rfl rfl rfl (q_fieldAddrP fO25_3 rfl rfl ?_)
    refine an_step [1, 3] (by kernel_rfl) rfl ?_
    refine ⟨?_, ?_, trivial⟩
    · refine an_q (listed' := #[true, true, false, false, false, false, false, false, false]) rfl rfl rfl (q_load tA2 rfl ?_)
      refine an_step [2, 3] (by kernel_rfl) rfl ?_
      refine ⟨?_, ?_, trivial⟩
      · refine an_q (listed' := #[true, true, true, false, false, false, false, false, false]) rfl rfl rfl (q_int rfl rfl ?_)
        intro n12 hn12
        replace hn12 := in64 hn12 (by omega) (by omega)
        refine an_step [3] (by kernel_rfl) rfl ?_
        refine ⟨?_, trivial⟩
        · refine an_q (listed' := #[true, true, true, true, false, false, false, false, false]) rfl rfl rfl (q_move (by conv => lhs; whnf) ?_)
          refine an_step [4] (by kernel_rfl) rfl ?_
          refine ⟨?_, trivial⟩
          · refine an_k (listed' := #[true, true, true, true, true, false, false, false, false]) rfl rfl rfl (k_callR [(1000000, 1000000)] (D_spec_l00Src_pick cs _ _ _ hc hb (by omega) (by omega)) rfl (rfl) (rfl) ⟨rfl, trivial⟩ rfl (by rintro ⟨v13, a13, s13⟩ ⟨hx13_0, hx13_1⟩; exact ⟨⟨rfl, rfl, trivial⟩, rfl⟩) rfl rfl ?_)
            rintro ⟨v13, a13, s13⟩ ⟨hx13_0, hx13_1⟩
            refine an_step [5] (by kernel_rfl) rfl ?_
            refine ⟨?_, trivial⟩
            · refine an_q (listed' := #[true, true, true, true, true, true, false, false, false]) rfl rfl rfl (q_int rfl rfl ?_)
              intro n14 hn14
              replace hn14 := in64 hn14 (by omega) (by omega)
              refine an_step [6] (by kernel_rfl) rfl ?_
              refine ⟨?_, trivial⟩
              · refine an_q (listed' := #[true, true, true, true, true, true, true, false, false]) rfl rfl rfl (q_int rfl rfl ?_)
                intro n15 hn15
                replace hn15 := in64 hn15 (by omega) (by omega)
                refine an_step [7] (by kernel_rfl) rfl ?_
                refine ⟨?_, trivial⟩
                · refine an_q (listed' := #[true, true, true, true, true, true, true, true, false]) rfl rfl rfl (q_fieldAddrP fO25_4 rfl rfl ?_)
                  refine an_step [8] (by kernel_rfl) rfl ?_
                  refine ⟨?_, trivial⟩
                  · refine an_k (listed' := #[true, true, true, true, true, true, true, true, true]) rfl rfl rfl (k_store sz2 rfl (by conv => lhs; whnf) rfl rfl rfl (Nat.le_of_ble_eq_true rfl) rfl ?_)
                    refine an_end (by kernel_rfl) (hK11 _ ?_); clear hK11
                    refine good_seq fun K16 hK16 => ?_
                    refine good_region rfl ?_
                    refine ev_q rfl (q_loadA tA25 rfl rfl rfl ?_)
                    refine ev_k rfl (k_store sz25 rfl (by conv => lhs; whnf) rfl rfl rfl (Nat.le_of_ble_eq_true rfl) rfl ?_)
                    refine ev_nil (hK16 _ ?_); clear hK16
                    refine good_ret ?_
                    repeat (first | refine thenQ_ret ?_ | refine blockQ_ret ?_)
                    refine ex_3 (v := ⟨nm, v3, n6, n10, n15⟩) (a := a13) (b := s13) ?hF ?hR
                    case hF =>
                      refine fx_cell rfl tA25 rfl rfl rfl ?_
                      exact ⟨_, conv_eq (by first | rfl | exact fAgg1 (by first | rfl | exact ownEq (by first | done | omega | (simp; done)) | (simp_all; done)) (fAgg1 (by first | rfl | exact fI (by first | omega | grind) | (exfalso; first | omega | grind)) (fAgg1 (by first | rfl | exact fI (by first | omega | grind) | (exfalso; first | omega | grind)) (fAgg1 (by first | rfl | exact fI (by first | omega | grind) | (exfalso; first | omega | grind)) (fAgg1 (by first | rfl | exact fI (by first | omega | grind) | (exfalso; first | omega | grind)) (rfl)))))), weakH_box (boxEq (by first | rfl | (rw [e]; done) | (rw [e]; rfl) | (simp_all; done))) rfl (weakH_none _), refsIn_ok rfl⟩
                    case hR =>
                      exact ⟨⟨rfl, by dsimp only; omega, by dsimp only; omega⟩, by omega⟩
      · refine an_q (listed' := #[true, true, false, true, false, false, false, false, false]) rfl rfl rfl (q_move (by conv => lhs; whnf) ?_)
        refine an_step [2, 4] (by kernel_rfl) rfl ?_
        refine ⟨?_, ?_, trivial⟩
        · refine an_q (listed' := #[true, true, true, true, false, false, false, false, false]) rfl rfl rfl (q_int rfl rfl ?_)
          intro n17 hn17
          replace hn17 := in64 hn17 (by omega) (by omega)
          refine an_step [4] (by kernel_rfl) rfl ?_
          refine ⟨?_, trivial⟩
          · refine an_k (listed' := #[true, true, true, true, true, false, false, false, false]) rfl rfl rfl (k_callR [(1000000, 1000000)] (D_spec_l00Src_pick cs _ _ _ hc hb (by omega) (by omega)) rfl (rfl) (rfl) ⟨rfl, trivial⟩ rfl (by rintro ⟨v18, a18, s18⟩ ⟨hx18_0, hx18_1⟩; exact ⟨⟨rfl, rfl, trivial⟩, rfl⟩) rfl rfl ?_)
            rintro ⟨v18, a18, s18⟩ ⟨hx18_0, hx18_1⟩
            refine an_step [5] (by kernel_rfl) rfl ?_
            refine ⟨?_, trivial⟩
            · refine an_q (listed' := #[true, true, true, true, true, true, false, false, false]) rfl rfl rfl (q_int rfl rfl ?_)
              intro n19 hn19
              replace hn19 := in64 hn19 (by omega) (by omega)
              refine an_step [6] (by kernel_rfl) rfl ?_
              refine ⟨?_, trivial⟩
              · refine an_q (listed' := #[true, true, true, true, true, true, true, false, false]) rfl rfl rfl (q_int rfl rfl ?_)
                intro n20 hn20
                replace hn20 := in64 hn20 (by omega) (by omega)
                refine an_step [7] (by kernel_rfl) rfl ?_
                refine ⟨?_, trivial⟩
                · refine an_q (listed' := #[true, true, true, true, true, true, true, true, false]) rfl rfl rfl (q_fieldAddrP fO25_4 rfl rfl ?_)
                  refine an_step [8] (by kernel_rfl) rfl ?_
                  refine ⟨?_, trivial⟩
                  · refine an_k (listed' := #[true, true, true, true, true, true, true, true, true]) rfl rfl rfl (k_store sz2 rfl (by conv => lhs; whnf) rfl rfl rfl (Nat.le_of_ble_eq_true rfl) rfl ?_)
                    refine an_end (by kernel_rfl) (hK11 _ ?_); clear hK11
                    refine good_seq fun K21 hK21 => ?_
                    refine good_region rfl ?_
                    refine ev_q rfl (q_loadA tA25 rfl rfl rfl ?_)
                    refine ev_k rfl (k_store sz25 rfl (by conv => lhs; whnf) rfl rfl rfl (Nat.le_of_ble_eq_true rfl) rfl ?_)
                    refine ev_nil (hK21 _ ?_); clear hK21
                    refine good_ret ?_
                    repeat (first | refine thenQ_ret ?_ | refine blockQ_ret ?_)
                    refine ex_3 (v := ⟨nm, v3, n6, n10, n20⟩) (a := a18) (b := s18) ?hF ?hR
                    case hF =>
                      refine fx_cell rfl tA25 rfl rfl rfl ?_
                      exact ⟨_, conv_eq (by first | rfl | exact fAgg1 (by first | rfl | exact ownEq (by first | done | omega | (simp; done)) | (simp_all; done)) (fAgg1 (by first | rfl | exact fI (by first | omega | grind) | (exfalso; first | omega | grind)) (fAgg1 (by first | rfl | exact fI (by first | omega | grind) | (exfalso; first | omega | grind)) (fAgg1 (by first | rfl | exact fI (by first | omega | grind) | (exfalso; first | omega | grind)) (fAgg1 (by first | rfl | exact fI (by first | omega | grind) | (exfalso; first | omega | grind)) (rfl)))))), weakH_box (boxEq (by first | rfl | (rw [e]; done) | (rw [e]; rfl) | (simp_all; done))) rfl (weakH_none _), refsIn_ok rfl⟩
                    case hR =>
                      exact ⟨⟨rfl, by dsimp only; omega, by dsimp only; omega⟩, by omega⟩
        · refine an_k (listed' := #[true, true, false, true, true, false, false, false, false]) rfl rfl rfl (k_callR [(1000000, 1000000)] (D_spec_l00Src_pick cs _ _ _ hc hb (by omega) (by omega)) rfl (rfl) (rfl) ⟨rfl, trivial⟩ rfl (by rintro ⟨v22, a22, s22⟩ ⟨hx22_0, hx22_1⟩; exact ⟨⟨rfl, rfl, trivial⟩, rfl⟩) rfl rfl ?_)
          rintro ⟨v22, a22, s22⟩ ⟨hx22_0, hx22_1⟩
          refine an_step [2, 5] (by kernel_rfl) rfl ?_
          refine ⟨?_, ?_, trivial⟩
          · refine an_q (listed' := #[true, true, true, true, true, false, false, false, false]) rfl rfl rfl (q_int rfl rfl ?_)
            intro n23 hn23
            replace hn23 := in64 hn23 (by omega) (by omega)
            refine an_step [5] (by kernel_rfl) rfl ?_
            refine ⟨?_, trivial⟩
            · refine an_q (listed' := #[true, true, true, true, true, true, false, false, false]) rfl rfl rfl (q_int rfl rfl ?_)
              intro n24 hn24
              replace hn24 := in64 hn24 (by omega) (by omega)
              refine an_step [6] (by kernel_rfl) rfl ?_
              refine ⟨?_, trivial⟩
              · refine an_q (listed' := #[true, true, true, true, true, true, true, false, false]) rfl rfl rfl (q_int rfl rfl ?_)
                intro n25 hn25
                replace hn25 := in64 hn25 (by omega) (by omega)
                refine an_step [7] (by kernel_rfl) rfl ?_
                refine ⟨?_, trivial⟩
                · refine an_q (listed' := #[true, true, true, true, true, true, true, true, false]) rfl rfl rfl (q_fieldAddrP fO25_4 rfl rfl ?_)
                  refine an_step [8] (by kernel_rfl) rfl ?_
                  refine ⟨?_, trivial⟩
                  · refine an_k (listed' := #[true, true, true, true, true, true, true, true, true]) rfl rfl rfl (k_store sz2 rfl (by conv => lhs; whnf) rfl rfl rfl (Nat.le_of_ble_eq_true rfl) rfl ?_)
                    refine an_end (by kernel_rfl) (hK11 _ ?_); clear hK11
                    refine good_seq fun K26 hK26 => ?_
                    refine good_region rfl ?_
                    refine ev_q rfl (q_loadA tA25 rfl rfl rfl ?_)
                    refine ev_k rfl (k_store sz25 rfl (by conv => lhs; whnf) rfl rfl rfl (Nat.le_of_ble_eq_true rfl) rfl ?_)
                    refine ev_nil (hK26 _ ?_); clear hK26
                    refine good_ret ?_
                    repeat (first | refine thenQ_ret ?_ | refine blockQ_ret ?_)
                    refine ex_3 (v := ⟨nm, v3, n6, n10, n25⟩) (a := a22) (b := s22) ?hF ?hR
                    case hF =>
                      refine fx_cell rfl tA25 rfl rfl rfl ?_
                      exact ⟨_, conv_eq (by first | rfl | exact fAgg1 (by first | rfl | exact ownEq (by first | done | omega | (simp; done)) | (simp_all; done)) (fAgg1 (by first | rfl | exact fI (by first | omega | grind) | (exfalso; first | omega | grind)) (fAgg1 (by first | rfl | exact fI (by first | omega | grind) | (exfalso; first | omega | grind)) (fAgg1 (by first | rfl | exact fI (by first | omega | grind) | (exfalso; first | omega | grind)) (fAgg1 (by first | rfl | exact fI (by first | omega | grind) | (exfalso; first | omega | grind)) (rfl)))))), weakH_box (boxEq (by first | rfl | (rw [e]; done) | (rw [e]; rfl) | (simp_all; done))) rfl (weakH_none _), refsIn_ok rfl⟩
                    case hR =>
                      exact ⟨⟨rfl, by dsimp only; omega, by dsimp only; omega⟩, by omega⟩
          · refine an_q (listed' := #[true, true, false, true, true, true, false, false, false]) rfl rfl rfl (q_int rfl rfl ?_)
            intro n27 hn27
            replace hn27 := in64 hn27 (by omega) (by omega)
            refine an_step [2] (by kernel_rfl) rfl ?_
            refine ⟨?_, trivial⟩
            · refine an_q (listed' := #[true, true, true, true, true, true, false, false, false]) rfl rfl rfl (q_int rfl rfl ?_)
              intro n28 hn28
              replace hn28 := in64 hn28 (by omega) (by omega)
              refine an_step [6] (by kernel_rfl) rfl ?_
              refine ⟨?_, trivial⟩
              · refine an_q (listed' := #[true, true, true, true, true, true, true, false, false]) rfl rfl rfl (q_int rfl rfl ?_)
                intro n29 hn29
                replace hn29 := in64 hn29 (by omega) (by omega)
                refine an_step [7] (by kernel_rfl) rfl ?_
                refine ⟨?_, trivial⟩
                · refine an_q (listed' := #[true, true, true, true, true, true, true, true, false]) rfl rfl rfl (q_fieldAddrP fO25_4 rfl rfl ?_)
                  refine an_step [8] (by kernel_rfl) rfl ?_
                  refine ⟨?_, trivial⟩
                  · refine an_k (listed' := #[true, true, true, true, true, true, true, true, true]) rfl rfl rfl (k_store sz2 rfl (by conv => lhs; whnf) rfl rfl rfl (Nat.le_of_ble_eq_true rfl) rfl ?_)
                    refine an_end (by kernel_rfl) (hK11 _ ?_); clear hK11
                    refine good_seq fun K30 hK30 => ?_
                    refine good_region rfl ?_
                    refine ev_q rfl (q_loadA tA25 rfl rfl rfl ?_)
                    refine ev_k rfl (k_store sz25 rfl (by conv => lhs; whnf) rfl rfl rfl (Nat.le_of_ble_eq_true rfl) rfl ?_)
                    refine ev_nil (hK30 _ ?_); clear hK30
                    refine good_ret ?_
                    repeat (first | refine thenQ_ret ?_ | refine blockQ_ret ?_)
                    refine ex_3 (v := ⟨nm, v3, n6, n10, n29⟩) (a := a22) (b := s22) ?hF ?hR
                    case hF =>
                      refine fx_cell rfl tA25 rfl rfl rfl ?_
                      exact ⟨_, conv_eq (by first | rfl | exact fAgg1 (by first | rfl | exact ownEq (by first | done | omega | (simp; done)) | (simp_all; done)) (fAgg1 (by first | rfl | exact fI (by first | omega | grind) | (exfalso; first | omega | grind)) (fAgg1 (by first | rfl | exact fI (by first | omega | grind) | (exfalso; first | omega | grind)) (fAgg1 (by first | rfl | exact fI (by first | omega | grind) | (exfalso; first | omega | grind)) (fAgg1 (by first | rfl | exact fI (by first | omega | grind) | (exfalso; first | omega | grind)) (rfl)))))), weakH_box (boxEq (by first | rfl | (rw [e]; done) | (rw [e]; rfl) | (simp_all; done))) rfl (weakH_none _), refsIn_ok rfl⟩
                    case hR =>
                      exact ⟨⟨rfl, by dsimp only; omega, by dsimp only; omega⟩, by omega⟩
    · refine an_q (listed' := #[true, false, false, true, false, false, false, false, false]) rfl rfl rfl (q_move (by conv => lhs; whnf) ?_)
      refine an_step [1, 4] (by kernel_rfl) rfl ?_
      refine ⟨?_, ?_, trivial⟩
      · refine an_q (listed' := #[true, true, false, true, false, false, false, false, false]) rfl rfl rfl (q_load tA2 rfl ?_)
        refine an_step [2, 4] (by kernel_rfl) rfl ?_
        refine ⟨?_, ?_, trivial⟩
        · refine an_q (listed' := #[true, true, true, true, false, false, false, false, false]) rfl rfl rfl (q_int rfl rfl ?_)
          intro n31 hn31
          replace hn31 := in64 hn31 (by omega) (by omega)
          refine an_step [4] (by kernel_rfl) rfl ?_
          refine ⟨?_, trivial⟩
          · refine an_k (listed' := #[true, true, true, true, true, false, false, false, false]) rfl rfl rfl (k_callR [(1000000, 1000000)] (D_spec_l00Src_pick cs _ _ _ hc hb (by omega) (by omega)) rfl (rfl) (rfl) ⟨rfl, trivial⟩ rfl (by rintro ⟨v32, a32, s32⟩ ⟨hx32_0, hx32_1⟩; exact ⟨⟨rfl, rfl, trivial⟩, rfl⟩) rfl rfl ?_)
            rintro ⟨v32, a32, s32⟩ ⟨hx32_0, hx32_1⟩
            refine an_step [5] (by kernel_rfl) rfl ?_
            refine ⟨?_, trivial⟩
            · refine an_q (listed' := #[true, true, true, true, true, true, false, false, false]) rfl rfl rfl (q_int rfl rfl ?_)
              intro n33 hn33
              replace hn33 := in64 hn33 (by omega) (by omega)
              refine an_step [6] (by kernel_rfl) rfl ?_
              refine ⟨?_, trivial⟩
              · refine an_q (listed' := #[true, true, true, true, true, true, true, false, false]) rfl rfl rfl (q_int rfl rfl ?_)
                intro n34 hn34
                replace hn34 := in64 hn34 (by omega) (by omega)
                refine an_step [7] (by kernel_rfl) rfl ?_
                refine ⟨?_, trivial⟩
                · refine an_q (listed' := #[true, true, true, true, true, true, true, true, false]) rfl rfl rfl (q_fieldAddrP fO25_4 rfl rfl ?_)
                  refine an_step [8] (by kernel_rfl) rfl ?_
                  refine ⟨?_, trivial⟩
                  · refine an_k (listed' := #[true, true, true, true, true, true, true, true, true]) rfl rfl rfl (k_store sz2 rfl (by conv => lhs; whnf) rfl rfl rfl (Nat.le_of_ble_eq_true rfl) rfl ?_)
                    refine an_end (by kernel_rfl) (hK11 _ ?_); clear hK11
                    refine good_seq fun K35 hK35 => ?_
                    refine good_region rfl ?_
                    refine ev_q rfl (q_loadA tA25 rfl rfl rfl ?_)
                    refine ev_k rfl (k_store sz25 rfl (by conv => lhs; whnf) rfl rfl rfl (Nat.le_of_ble_eq_true rfl) rfl ?_)
                    refine ev_nil (hK35 _ ?_); clear hK35
                    refine good_ret ?_
                    repeat (first | refine thenQ_ret ?_ | refine blockQ_ret ?_)
                    refine ex_3 (v := ⟨nm, v3, n6, n10, n34⟩) (a := a32) (b := s32) ?hF ?hR
                    case hF =>
                      refine fx_cell rfl tA25 rfl rfl rfl ?_
                      exact ⟨_, conv_eq (by first | rfl | exact fAgg1 (by first | rfl | exact ownEq (by first | done | omega | (simp; done)) | (simp_all; done)) (fAgg1 (by first | rfl | exact fI (by first | omega | grind) | (exfalso; first | omega | grind)) (fAgg1 (by first | rfl | exact fI (by first | omega | grind) | (exfalso; first | omega | grind)) (fAgg1 (by first | rfl | exact fI (by first | omega | grind) | (exfalso; first | omega | grind)) (fAgg1 (by first | rfl | exact fI (by first | omega | grind) | (exfalso; first | omega | grind)) (rfl)))))), weakH_box (boxEq (by first | rfl | (rw [e]; done) | (rw [e]; rfl) | (simp_all; done))) rfl (weakH_none _), refsIn_ok rfl⟩
                    case hR =>
                      exact ⟨⟨rfl, by dsimp only; omega, by dsimp only; omega⟩, by omega⟩
        · refine an_k (listed' := #[true, true, false, true, true, false, false, false, false]) rfl rfl rfl (k_callR [(1000000, 1000000)] (D_spec_l00Src_pick cs _ _ _ hc hb (by omega) (by omega)) rfl (rfl) (rfl) ⟨rfl, trivial⟩ rfl (by rintro ⟨v36, a36, s36⟩ ⟨hx36_0, hx36_1⟩; exact ⟨⟨rfl, rfl, trivial⟩, rfl⟩) rfl rfl ?_)
          rintro ⟨v36, a36, s36⟩ ⟨hx36_0, hx36_1⟩
          refine an_step [2, 5] (by kernel_rfl) rfl ?_
          refine ⟨?_, ?_, trivial⟩
          · refine an_q (listed' := #[true, true, true, true, true, false, false, false, false]) rfl rfl rfl (q_int rfl rfl ?_)
            intro n37 hn37
            replace hn37 := in64 hn37 (by omega) (by omega)
            refine an_step [5] (by kernel_rfl) rfl ?_
            refine ⟨?_, trivial⟩
            · refine an_q (listed' := #[true, true, true, true, true, true, false, false, false]) rfl rfl rfl (q_int rfl rfl ?_)
              intro n38 hn38
              replace hn38 := in64 hn38 (by omega) (by omega)
              refine an_step [6] (by kernel_rfl) rfl ?_
              refine ⟨?_, trivial⟩
              · refine an_q (listed' := #[true, true, true, true, true, true, true, false, false]) rfl rfl rfl (q_int rfl rfl ?_)
                intro n39 hn39
                replace hn39 := in64 hn39 (by omega) (by omega)
                refine an_step [7] (by kernel_rfl) rfl ?_
                refine ⟨?_, trivial⟩
                · refine an_q (listed' := #[true, true, true, true, true, true, true, true, false]) rfl rfl rfl (q_fieldAddrP fO25_4 rfl rfl ?_)
                  refine an_step [8] (by kernel_rfl) rfl ?_
                  refine ⟨?_, trivial⟩
                  · refine an_k (listed' := #[true, true, true, true, true, true, true, true, true]) rfl rfl rfl (k_store sz2 rfl (by conv => lhs; whnf) rfl rfl rfl (Nat.le_of_ble_eq_true rfl) rfl ?_)
                    refine an_end (by kernel_rfl) (hK11 _ ?_); clear hK11
                    refine good_seq fun K40 hK40 => ?_
                    refine good_region rfl ?_
                    refine ev_q rfl (q_loadA tA25 rfl rfl rfl ?_)
                    refine ev_k rfl (k_store sz25 rfl (by conv => lhs; whnf) rfl rfl rfl (Nat.le_of_ble_eq_true rfl) rfl ?_)
                    refine ev_nil (hK40 _ ?_); clear hK40
                    refine good_ret ?_
                    repeat (first | refine thenQ_ret ?_ | refine blockQ_ret ?_)
                    refine ex_3 (v := ⟨nm, v3, n6, n10, n39⟩) (a := a36) (b := s36) ?hF ?hR
                    case hF =>
                      refine fx_cell rfl tA25 rfl rfl rfl ?_
                      exact ⟨_, conv_eq (by first | rfl | exact fAgg1 (by first | rfl | exact ownEq (by first | done | omega | (simp; done)) | (simp_all; done)) (fAgg1 (by first | rfl | exact fI (by first | omega | grind) | (exfalso; first | omega | grind)) (fAgg1 (by first | rfl | exact fI (by first | omega | grind) | (exfalso; first | omega | grind)) (fAgg1 (by first | rfl | exact fI (by first | omega | grind) | (exfalso; first | omega | grind)) (fAgg1 (by first | rfl | exact fI (by first | omega | grind) | (exfalso; first | omega | grind)) (rfl)))))), weakH_box (boxEq (by first | rfl | (rw [e]; done) | (rw [e]; rfl) | (simp_all; done))) rfl (weakH_none _), refsIn_ok rfl⟩
                    case hR =>
                      exact ⟨⟨rfl, by dsimp only; omega, by dsimp only; omega⟩, by omega⟩
          · refine an_q (listed' := #[true, true, false, true, true, true, false, false, false]) rfl rfl rfl (q_int rfl rfl ?_)
            intro n41 hn41
            replace hn41 := in64 hn41 (by omega) (by omega)
            refine an_step [2] (by kernel_rfl) rfl ?_
            refine ⟨?_, trivial⟩
            · refine an_q (listed' := #[true, true, true, true, true, true, false, false, false]) rfl rfl rfl (q_int rfl rfl ?_)
              intro n42 hn42
              replace hn42 := in64 hn42 (by omega) (by omega)
              refine an_step [6] (by kernel_rfl) rfl ?_
              refine ⟨?_, trivial⟩
              · refine an_q (listed' := #[true, true, true, true, true, true, true, false, false]) rfl rfl rfl (q_int rfl rfl ?_)
                intro n43 hn43
                replace hn43 := in64 hn43 (by omega) (by omega)
                refine an_step [7] (by kernel_rfl) rfl ?_
                refine ⟨?_, trivial⟩
                · refine an_q (listed' := #[true, true, true, true, true, true, true, true, false]) rfl rfl rfl (q_fieldAddrP fO25_4 rfl rfl ?_)
                  refine an_step [8] (by kernel_rfl) rfl ?_
                  refine ⟨?_, trivial⟩
                  · refine an_k (listed' := #[true, true, true, true, true, true, true, true, true]) rfl rfl rfl (k_store sz2 rfl (by conv => lhs; whnf) rfl rfl rfl (Nat.le_of_ble_eq_true rfl) rfl ?_)
                    refine an_end (by kernel_rfl) (hK11 _ ?_); clear hK11
                    refine good_seq fun K44 hK44 => ?_
                    refine good_region rfl ?_
                    refine ev_q rfl (q_loadA tA25 rfl rfl rfl ?_)
                    refine ev_k rfl (k_store sz25 rfl (by conv => lhs; whnf) rfl rfl rfl (Nat.le_of_ble_eq_true rfl) rfl ?_)
                    refine ev_nil (hK44 _ ?_); clear hK44
                    refine good_ret ?_
                    repeat (first | refine thenQ_ret ?_ | refine blockQ_ret ?_)
                    refine ex_3 (v := ⟨nm, v3, n6, n10, n43⟩) (a := a36) (b := s36) ?hF ?hR
                    case hF =>
                      refine fx_cell rfl tA25 rfl rfl rfl ?_
                      exact ⟨_, conv_eq (by first | rfl | exact fAgg1 (by first | rfl | exact ownEq (by first | done | omega | (simp; done)) | (simp_all; done)) (fAgg1 (by first | rfl | exact fI (by first | omega | grind) | (exfalso; first | omega | grind)) (fAgg1 (by first | rfl | exact fI (by first | omega | grind) | (exfalso; first | omega | grind)) (fAgg1 (by first | rfl | exact fI (by first | omega | grind) | (exfalso; first | omega | grind)) (fAgg1 (by first | rfl | exact fI (by first | omega | grind) | (exfalso; first | omega | grind)) (rfl)))))), weakH_box (boxEq (by first | rfl | (rw [e]; done) | (rw [e]; rfl) | (simp_all; done))) rfl (weakH_none _), refsIn_ok rfl⟩
                    case hR =>
                      exact ⟨⟨rfl, by dsimp only; omega, by dsimp only; omega⟩, by omega⟩
      · refine an_k (listed' := #[true, false, false, true, true, false, false, false, false]) rfl rfl rfl (k_callR [(1000000, 1000000)] (D_spec_l00Src_pick cs _ _ _ hc hb (by omega) (by omega)) rfl (rfl) (rfl) ⟨rfl, trivial⟩ rfl (by rintro ⟨v45, a45, s45⟩ ⟨hx45_0, hx45_1⟩; exact ⟨⟨rfl, rfl, trivial⟩, rfl⟩) rfl rfl ?_)
        rintro ⟨v45, a45, s45⟩ ⟨hx45_0, hx45_1⟩
        refine an_step [1, 5] (by kernel_rfl) rfl ?_
        refine ⟨?_, ?_, trivial⟩
        · refine an_q (listed' := #[true, true, false, true, true, false, false, false, false]) rfl rfl rfl (q_load tA2 rfl ?_)
          refine an_step [2, 5] (by kernel_rfl) rfl ?_
          refine ⟨?_, ?_, trivial⟩
          · refine an_q (listed' := #[true, true, true, true, true, false, false, false, false]) rfl rfl rfl (q_int rfl rfl ?_)
            intro n46 hn46
            replace hn46 := in64 hn46 (by omega) (by omega)
            refine an_step [5] (by kernel_rfl) rfl ?_
            refine ⟨?_, trivial⟩
            · refine an_q (listed' := #[true, true, true, true, true, true, false, false, false]) rfl rfl rfl (q_int rfl rfl ?_)
              intro n47 hn47
              replace hn47 := in64 hn47 (by omega) (by omega)
              refine an_step [6] (by kernel_rfl) rfl ?_
              refine ⟨?_, trivial⟩
              · refine an_q (listed' := #[true, true, true, true, true, true, true, false, false]) rfl rfl rfl (q_int rfl rfl ?_)
                intro n48 hn48
                replace hn48 := in64 hn48 (by omega) (by omega)
                refine an_step [7] (by kernel_rfl) rfl ?_
                refine ⟨?_, trivial⟩
                · refine an_q (listed' := #[true, true, true, true, true, true, true, true, false]) rfl rfl rfl (q_fieldAddrP fO25_4 rfl rfl ?_)
                  refine an_step [8] (by kernel_rfl) rfl ?_
                  refine ⟨?_, trivial⟩
                  · refine an_k (listed' := #[true, true, true, true, true, true, true, true, true]) rfl rfl rfl (k_store sz2 rfl (by conv => lhs; whnf) rfl rfl rfl (Nat.le_of_ble_eq_true rfl) rfl ?_)
                    refine an_end (by kernel_rfl) (hK11 _ ?_); clear hK11
                    refine good_seq fun K49 hK49 => ?_
                    refine good_region rfl ?_
                    refine ev_q rfl (q_loadA tA25 rfl rfl rfl ?_)
                    refine ev_k rfl (k_store sz25 rfl (by conv => lhs; whnf) rfl rfl rfl (Nat.le_of_ble_eq_true rfl) rfl ?_)
                    refine ev_nil (hK49 _ ?_); clear hK49
                    refine good_ret ?_
                    repeat (first | refine thenQ_ret ?_ | refine blockQ_ret ?_)
                    refine ex_3 (v := ⟨nm, v3, n6, n10, n48⟩) (a := a45) (b := s45) ?hF ?hR
                    case hF =>
                      refine fx_cell rfl tA25 rfl rfl rfl ?_
                      exact ⟨_, conv_eq (by first | rfl | exact fAgg1 (by first | rfl | exact ownEq (by first | done | omega | (simp; done)) | (simp_all; done)) (fAgg1 (by first | rfl | exact fI (by first | omega | grind) | (exfalso; first | omega | grind)) (fAgg1 (by first | rfl | exact fI (by first | omega | grind) | (exfalso; first | omega | grind)) (fAgg1 (by first | rfl | exact fI (by first | omega | grind) | (exfalso; first | omega | grind)) (fAgg1 (by first | rfl | exact fI (by first | omega | grind) | (exfalso; first | omega | grind)) (rfl)))))), weakH_box (boxEq (by first | rfl | (rw [e]; done) | (rw [e]; rfl) | (simp_all; done))) rfl (weakH_none _), refsIn_ok rfl⟩
                    case hR =>
                      exact ⟨⟨rfl, by dsimp only; omega, by dsimp only; omega⟩, by omega⟩
          · refine an_q (listed' := #[true, true, false, true, true, true, false, false, false]) rfl rfl rfl (q_int rfl rfl ?_)
            intro n50 hn50
            replace hn50 := in64 hn50 (by omega) (by omega)
            refine an_step [2] (by kernel_rfl) rfl ?_
            refine ⟨?_, trivial⟩
            · refine an_q (listed' := #[true, true, true, true, true, true, false, false, false]) rfl rfl rfl (q_int rfl rfl ?_)
              intro n51 hn51
              replace hn51 := in64 hn51 (by omega) (by omega)
              refine an_step [6] (by kernel_rfl) rfl ?_
              refine ⟨?_, trivial⟩
              · refine an_q (listed' := #[true, true, true, true, true, true, true, false, false]) rfl rfl rfl (q_int rfl rfl ?_)
                intro n52 hn52
                replace hn52 := in64 hn52 (by omega) (by omega)
                refine an_step [7] (by kernel_rfl) rfl ?_
                refine ⟨?_, trivial⟩
                · refine an_q (listed' := #[true, true, true, true, true, true, true, true, false]) rfl rfl rfl (q_fieldAddrP fO25_4 rfl rfl ?_)
                  refine an_step [8] (by kernel_rfl) rfl ?_
                  refine ⟨?_, trivial⟩
                  · refine an_k (listed' := #[true, true, true, true, true, true, true, true, true]) rfl rfl rfl (k_store sz2 rfl (by conv => lhs; whnf) rfl rfl rfl (Nat.le_of_ble_eq_true rfl) rfl ?_)
                    refine an_end (by kernel_rfl) (hK11 _ ?_); clear hK11
                    refine good_seq fun K53 hK53 => ?_
                    refine good_region rfl ?_
                    refine ev_q rfl (q_loadA tA25 rfl rfl rfl ?_)
                    refine ev_k rfl (k_store sz25 rfl (by conv => lhs; whnf) rfl rfl rfl (Nat.le_of_ble_eq_true rfl) rfl ?_)
                    refine ev_nil (hK53 _ ?_); clear hK53
                    refine good_ret ?_
                    repeat (first | refine thenQ_ret ?_ | refine blockQ_ret ?_)
                    refine ex_3 (v := ⟨nm, v3, n6, n10, n52⟩) (a := a45) (b := s45) ?hF ?hR
                    case hF =>
                      refine fx_cell rfl tA25 rfl rfl rfl ?_
                      exact ⟨_, conv_eq (by first | rfl | exact fAgg1 (by first | rfl | exact ownEq (by first | done | omega | (simp; done)) | (simp_all; done)) (fAgg1 (by first | rfl | exact fI (by first | omega | grind) | (exfalso; first | omega | grind)) (fAgg1 (by first | rfl | exact fI (by first | omega | grind) | (exfalso; first | omega | grind)) (fAgg1 (by first | rfl | exact fI (by first | omega | grind) | (exfalso; first | omega | grind)) (fAgg1 (by first | rfl | exact fI (by first | omega | grind) | (exfalso; first | omega | grind)) (rfl)))))), weakH_box (boxEq (by first | rfl | (rw [e]; done) | (rw [e]; rfl) | (simp_all; done))) rfl (weakH_none _), refsIn_ok rfl⟩
                    case hR =>
                      exact ⟨⟨rfl, by dsimp only; omega, by dsimp only; omega⟩, by omega⟩
        · refine an_q (listed' := #[true, false, false, true, true, true, false, false, false]) rfl rfl rfl (q_int rfl rfl ?_)
          intro n54 hn54
          replace hn54 := in64 hn54 (by omega) (by omega)
          refine an_step [1] (by kernel_rfl) rfl ?_
          refine ⟨?_, trivial⟩
          · refine an_q (listed' := #[true, true, false, true, true, true, false, false, false]) rfl rfl rfl (q_load tA2 rfl ?_)
            refine an_step [2] (by kernel_rfl) rfl ?_
            refine ⟨?_, trivial⟩
            · refine an_q (listed' := #[true, true, true, true, true, true, false, false, false]) rfl rfl rfl (q_int rfl rfl ?_)
              intro n55 hn55
              replace hn55 := in64 hn55 (by omega) (by omega)
              refine an_step [6] (by kernel_rfl) rfl ?_
              refine ⟨?_, trivial⟩
              · refine an_q (listed' := #[true, true, true, true, true, true, true, false, false]) rfl rfl rfl (q_int rfl rfl ?_)
                intro n56 hn56
                replace hn56 := in64 hn56 (by omega) (by omega)
                refine an_step [7] (by kernel_rfl) rfl ?_
                refine ⟨?_, trivial⟩
                · refine an_q (listed' := #[true, true, true, true, true, true, true, true, false]) rfl rfl rfl (q_fieldAddrP fO25_4 rfl rfl ?_)
                  refine an_step [8] (by kernel_rfl) rfl ?_
                  refine ⟨?_, trivial⟩
                  · refine an_k (listed' := #[true, true, true, true, true, true, true, true, true]) rfl rfl rfl (k_store sz2 rfl (by conv => lhs; whnf) rfl rfl rfl (Nat.le_of_ble_eq_true rfl) rfl ?_)
                    refine an_end (by kernel_rfl) (hK11 _ ?_); clear hK11
                    refine good_seq fun K57 hK57 => ?_
                    refine good_region rfl ?_
                    refine ev_q rfl (q_loadA tA25 rfl rfl rfl ?_)
                    refine ev_k rfl (k_store sz25 rfl (by conv => lhs; whnf) rfl rfl rfl (Nat.le_of_ble_eq_true rfl) rfl ?_)
                    refine ev_nil (hK57 _ ?_); clear hK57
                    refine good_ret ?_
                    repeat (first | refine thenQ_ret ?_ | refine blockQ_ret ?_)
                    refine ex_3 (v := ⟨nm, v3, n6, n10, n56⟩) (a := a45) (b := s45) ?hF ?hR
                    case hF =>
                      refine fx_cell rfl tA25 rfl rfl rfl ?_
                      exact ⟨_, conv_eq (by first | rfl | exact fAgg1 (by first | rfl | exact ownEq (by first | done | omega | (simp; done)) | (simp_all; done)) (fAgg1 (by first | rfl | exact fI (by first | omega | grind) | (exfalso; first | omega | grind)) (fAgg1 (by first | rfl | exact fI (by first | omega | grind) | (exfalso; first | omega | grind)) (fAgg1 (by first | rfl | exact fI (by first | omega | grind) | (exfalso; first | omega | grind)) (fAgg1 (by first | rfl | exact fI (by first | omega | grind) | (exfalso; first | omega | grind)) (rfl)))))), weakH_box (boxEq (by first | rfl | (rw [e]; done) | (rw [e]; rfl) | (simp_all; done))) rfl (weakH_none _), refsIn_ok rfl⟩
                    case hR =>
                      exact ⟨⟨rfl, by dsimp only; omega, by dsimp only; omega⟩, by omega⟩
  · refine an_q (listed' := #[false, false, false, true, false, false, false, false, false]) rfl rfl rfl (q_move (by conv => lhs; whnf) ?_)
    refine an_step [0, 4] (by kernel_rfl) rfl ?_
    refine ⟨?_, ?_, trivial⟩
    · refine an_q (listed' := #[true, false, false, true, false, false, false, false, false]) rfl rfl rfl (q_fieldAddrP fO25_3 rfl rfl ?_)
      refine an_step [1, 4] (by kernel_rfl) rfl ?_
      refine ⟨?_, ?_, trivial⟩
      · refine an_q (listed' := #[true, true, false, true, false, false, false, false, false]) rfl rfl rfl (q_load tA2 rfl ?_)
        refine an_step [2, 4] (by kernel_rfl) rfl ?_
        refine ⟨?_, ?_, trivial⟩
        · refine an_q (listed' := #[true, true, true, true, false, false, false, false, false]) rfl rfl rfl (q_int rfl rfl ?_)
          intro n58 hn58
          replace hn58 := in64 hn58 (by omega) (by omega)
          refine an_step [4] (by kernel_rfl) rfl ?_
          refine ⟨?_, trivial⟩
          · refine an_k (listed' := #[true, true, true, true, true, false, false, false, false]) rfl rfl rfl (k_callR [(1000000, 1000000)] (D_spec_l00Src_pick cs _ _ _ hc hb (by omega) (by omega)) rfl (rfl) (rfl) ⟨rfl, trivial⟩ rfl (by rintro ⟨v59, a59, s59⟩ ⟨hx59_0, hx59_1⟩; exact ⟨⟨rfl, rfl, trivial⟩, rfl⟩) rfl rfl ?_)
            rintro ⟨v59, a59, s59⟩ ⟨hx59_0, hx59_1⟩
            refine an_step [5] (by kernel_rfl) rfl ?_
            refine ⟨?_, trivial⟩
            · refine an_q (listed' := #[true, true, true, true, true, true, false, false, false]) rfl rfl rfl (q_int rfl rfl ?_)
              intro n60 hn60
              replace hn60 := in64 hn60 (by omega) (by omega)
              refine an_step [6] (by kernel_rfl) rfl ?_
              refine ⟨?_, trivial⟩
              · refine an_q (listed' := #[true, true, true, true, true, true, true, false, false]) rfl rfl rfl (q_int rfl rfl ?_)
                intro n61 hn61
                replace hn61 := in64 hn61 (by omega) (by omega)
                refine an_step [7] (by kernel_rfl) rfl ?_
                refine ⟨?_, trivial⟩
                · refine an_q (listed' := #[true, true, true, true, true, true, true, true, false]) rfl rfl rfl (q_fieldAddrP fO25_4 rfl rfl ?_)
                  refine an_step [8] (by kernel_rfl) rfl ?_
                  refine ⟨?_, trivial⟩
                  · refine an_k (listed' := #[true, true, true, true, true, true, true, true, true]) rfl rfl rfl (k_store sz2 rfl (by conv => lhs; whnf) rfl rfl rfl (Nat.le_of_ble_eq_true rfl) rfl ?_)
                    refine an_end (by kernel_rfl) (hK11 _ ?_); clear hK11
                    refine good_seq fun K62 hK62 => ?_
                    refine good_region rfl ?_
                    refine ev_q rfl (q_loadA tA25 rfl rfl rfl ?_)
                    refine ev_k rfl (k_store sz25 rfl (by conv => lhs; whnf) rfl rfl rfl (Nat.le_of_ble_eq_true rfl) rfl ?_)
                    refine ev_nil (hK62 _ ?_); clear hK62
                    refine good_ret ?_
                    repeat (first | refine thenQ_ret ?_ | refine blockQ_ret ?_)
                    refine ex_3 (v := ⟨nm, v3, n6, n10, n61⟩) (a := a59) (b := s59) ?hF ?hR
                    case hF =>
                      refine fx_cell rfl tA25 rfl rfl rfl ?_
                      exact ⟨_, conv_eq (by first | rfl | exact fAgg1 (by first | rfl | exact ownEq (by first | done | omega | (simp; done)) | (simp_all; done)) (fAgg1 (by first | rfl | exact fI (by first | omega | grind) | (exfalso; first | omega | grind)) (fAgg1 (by first | rfl | exact fI (by first | omega | grind) | (exfalso; first | omega | grind)) (fAgg1 (by first | rfl | exact fI (by first | omega | grind) | (exfalso; first | omega | grind)) (fAgg1 (by first | rfl | exact fI (by first | omega | grind) | (exfalso; first | omega | grind)) (rfl)))))), weakH_box (boxEq (by first | rfl | (rw [e]; done) | (rw [e]; rfl) | (simp_all; done))) rfl (weakH_none _), refsIn_ok rfl⟩
                    case hR =>
                      exact ⟨⟨rfl, by dsimp only; omega, by dsimp only; omega⟩, by omega⟩
        · refine an_k (listed' := #[true, true, false, true, true, false, false, false, false]) rfl rfl rfl (k_callR [(1000000, 1000000)] (D_spec_l00Src_pick cs _ _ _ hc hb (by omega) (by omega)) rfl (rfl) (rfl) ⟨rfl, trivial⟩ rfl (by rintro ⟨v63, a63, s63⟩ ⟨hx63_0, hx63_1⟩; exact ⟨⟨rfl, rfl, trivial⟩, rfl⟩) rfl rfl ?_)
          rintro ⟨v63, a63, s63⟩ ⟨hx63_0, hx63_1⟩
          refine an_step [2, 5] (by kernel_rfl) rfl ?_
          refine ⟨?_, ?_, trivial⟩
          · refine an_q (listed' := #[true, true, true, true, true, false, false, false, false]) rfl rfl rfl (q_int rfl rfl ?_)
            intro n64 hn64
            replace hn64 := in64 hn64 (by omega) (by omega)
            refine an_step [5] (by kernel_rfl) rfl ?_
            refine ⟨?_, trivial⟩
            · refine an_q (listed' := #[true, true, true, true, true, true, false, false, false]) rfl rfl rfl (q_int rfl rfl ?_)
              intro n65 hn65
              replace hn65 := in64 hn65 (by omega) (by omega)
              refine an_step [6] (by kernel_rfl) rfl ?_
              refine ⟨?_, trivial⟩
              · refine an_q (listed' := #[true, true, true, true, true, true, true, false, false]) rfl rfl rfl (q_int rfl rfl ?_)
                intro n66 hn66
                replace hn66 := in64 hn66 (by omega) (by omega)
                refine an_step [7] (by kernel_rfl) rfl ?_
                refine ⟨?_, trivial⟩
                · refine an_q (listed' := #[true, true, true, true, true, true, true, true, false]) rfl rfl rfl (q_fieldAddrP fO25_4 rfl rfl ?_)
                  refine an_step [8] (by kernel_rfl) rfl ?_
                  refine ⟨?_, trivial⟩
                  · refine an_k (listed' := #[true, true, true, true, true, true, true, true, true]) rfl rfl rfl (k_store sz2 rfl (by conv => lhs; whnf) rfl rfl rfl (Nat.le_of_ble_eq_true rfl) rfl ?_)
                    refine an_end (by kernel_rfl) (hK11 _ ?_); clear hK11
                    refine good_seq fun K67 hK67 => ?_
                    refine good_region rfl ?_
                    refine ev_q rfl (q_loadA tA25 rfl rfl rfl ?_)
                    refine ev_k rfl (k_store sz25 rfl (by conv => lhs; whnf) rfl rfl rfl (Nat.le_of_ble_eq_true rfl) rfl ?_)
                    refine ev_nil (hK67 _ ?_); clear hK67
                    refine good_ret ?_
                    repeat (first | refine thenQ_ret ?_ | refine blockQ_ret ?_)
                    refine ex_3 (v := ⟨nm, v3, n6, n10, n66⟩) (a := a63) (b := s63) ?hF ?hR
                    case hF =>
                      refine fx_cell rfl tA25 rfl rfl rfl ?_
                      exact ⟨_, conv_eq (by first | rfl | exact fAgg1 (by first | rfl | exact ownEq (by first | done | omega | (simp; done)) | (simp_all; done)) (fAgg1 (by first | rfl | exact fI (by first | omega | grind) | (exfalso; first | omega | grind)) (fAgg1 (by first | rfl | exact fI (by first | omega | grind) | (exfalso; first | omega | grind)) (fAgg1 (by first | rfl | exact fI (by first | omega | grind) | (exfalso; first | omega | grind)) (fAgg1 (by first | rfl | exact fI (by first | omega | grind) | (exfalso; first | omega | grind)) (rfl)))))), weakH_box (boxEq (by first | rfl | (rw [e]; done) | (rw [e]; rfl) | (simp_all; done))) rfl (weakH_none _), refsIn_ok rfl⟩
                    case hR =>
                      exact ⟨⟨rfl, by dsimp only; omega, by dsimp only; omega⟩, by omega⟩
          · refine an_q (listed' := #[true, true, false, true, true, true, false, false, false]) rfl rfl rfl (q_int rfl rfl ?_)
            intro n68 hn68
            replace hn68 := in64 hn68 (by omega) (by omega)
            refine an_step [2] (by kernel_rfl) rfl ?_
            refine ⟨?_, trivial⟩
            · refine an_q (listed' := #[true, true, true, true, true, true, false, false, false]) rfl rfl rfl (q_int rfl rfl ?_)
              intro n69 hn69
              replace hn69 := in64 hn69 (by omega) (by omega)
              refine an_step [6] (by kernel_rfl) rfl ?_
              refine ⟨?_, trivial⟩
              · refine an_q (listed' := #[true, true, true, true, true, true, true, false, false]) rfl rfl rfl (q_int rfl rfl ?_)
                intro n70 hn70
                replace hn70 := in64 hn70 (by omega) (by omega)
                refine an_step [7] (by kernel_rfl) rfl ?_
                refine ⟨?_, trivial⟩
                · refine an_q (listed' := #[true, true, true, true, true, true, true, true, false]) rfl rfl rfl (q_fieldAddrP fO25_4 rfl rfl ?_)
                  refine an_step [8] (by kernel_rfl) rfl ?_
                  refine ⟨?_, trivial⟩
                  · refine an_k (listed' := #[true, true, true, true, true, true, true, true, true]) rfl rfl rfl (k_store sz2 rfl (by conv => lhs; whnf) rfl rfl rfl (Nat.le_of_ble_eq_true rfl) rfl ?_)
                    refine an_end (by kernel_rfl) (hK11 _ ?_); clear hK11
                    refine good_seq fun K71 hK71 => ?_
                    refine good_region rfl ?_
                    refine ev_q rfl (q_loadA tA25 rfl rfl rfl ?_)
                    refine ev_k rfl (k_store sz25 rfl (by conv => lhs; whnf) rfl rfl rfl (Nat.le_of_ble_eq_true rfl) rfl ?_)
                    refine ev_nil (hK71 _ ?_); clear hK71
                    refine good_ret ?_
                    repeat (first | refine thenQ_ret ?_ | refine blockQ_ret ?_)
                    refine ex_3 (v := ⟨nm, v3, n6, n10, n70⟩) (a := a63) (b := s63) ?hF ?hR
                    case hF =>
                      refine fx_cell rfl tA25 rfl rfl rfl ?_
                      exact ⟨_, conv_eq (by first | rfl | exact fAgg1 (by first | rfl | exact ownEq (by first | done | omega | (simp; done)) | (simp_all; done)) (fAgg1 (by first | rfl | exact fI (by first | omega | grind) | (exfalso; first | omega | grind)) (fAgg1 (by first | rfl | exact fI (by first | omega | grind) | (exfalso; first | omega | grind)) (fAgg1 (by first | rfl | exact fI (by first | omega | grind) | (exfalso; first | omega | grind)) (fAgg1 (by first | rfl | exact fI (by first | omega | grind) | (exfalso; first | omega | grind)) (rfl)))))), weakH_box (boxEq (by first | rfl | (rw [e]; done) | (rw [e]; rfl) | (simp_all; done))) rfl (weakH_none _), refsIn_ok rfl⟩
                    case hR =>
                      exact ⟨⟨rfl, by dsimp only; omega, by dsimp only; omega⟩, by omega⟩
      · refine an_k (listed' := #[true, false, false, true, true, false, false, false, false]) rfl rfl rfl (k_callR [(1000000, 1000000)] (D_spec_l00Src_pick cs _ _ _ hc hb (by omega) (by omega)) rfl (rfl) (rfl) ⟨rfl, trivial⟩ rfl (by rintro ⟨v72, a72, s72⟩ ⟨hx72_0, hx72_1⟩; exact ⟨⟨rfl, rfl, trivial⟩, rfl⟩) rfl rfl ?_)
        rintro ⟨v72, a72, s72⟩ ⟨hx72_0, hx72_1⟩
        refine an_step [1, 5] (by kernel_rfl) rfl ?_
        refine ⟨?_, ?_, trivial⟩
        · refine an_q (listed' := #[true, true, false, true, true, false, false, false, false]) rfl rfl rfl (q_load tA2 rfl ?_)
          refine an_step [2, 5] (by kernel_rfl) rfl ?_
          refine ⟨?_, ?_, trivial⟩
          · refine an_q (listed' := #[true, true, true, true, true, false, false, false, false]) rfl rfl rfl (q_int rfl rfl ?_)
            intro n73 hn73
            replace hn73 := in64 hn73 (by omega) (by omega)
            refine an_step [5] (by kernel_rfl) rfl ?_
            refine ⟨?_, trivial⟩
            · refine an_q (listed' := #[true, true, true, true, true, true, false, false, false]) rfl rfl rfl (q_int rfl rfl ?_)
              intro n74 hn74
              replace hn74 := in64 hn74 (by omega) (by omega)
              refine an_step [6] (by kernel_rfl) rfl ?_
              refine ⟨?_, trivial⟩
              · refine an_q (listed' := #[true, true, true, true, true, true, true, false, false]) rfl rfl rfl (q_int rfl rfl ?_)
                intro n75 hn75
                replace hn75 := in64 hn75 (by omega) (by omega)
                refine an_step [7] (by kernel_rfl) rfl ?_
                refine ⟨?_, trivial⟩
                · refine an_q (listed' := #[true, true, true, true, true, true, true, true, false]) rfl rfl rfl (q_fieldAddrP fO25_4 rfl rfl ?_)
                  refine an_step [8] (by kernel_rfl) rfl ?_
                  refine ⟨?_, trivial⟩
                  · refine an_k (listed' := #[true, true, true, true, true, true, true, true, true]) rfl rfl rfl (k_store sz2 rfl (by conv => lhs; whnf) rfl rfl rfl (Nat.le_of_ble_eq_true rfl) rfl ?_)
                    refine an_end (by kernel_rfl) (hK11 _ ?_); clear hK11
                    refine good_seq fun K76 hK76 => ?_
                    refine good_region rfl ?_
                    refine ev_q rfl (q_loadA tA25 rfl rfl rfl ?_)
                    refine ev_k rfl (k_store sz25 rfl (by conv => lhs; whnf) rfl rfl rfl (Nat.le_of_ble_eq_true rfl) rfl ?_)
                    refine ev_nil (hK76 _ ?_); clear hK76
                    refine good_ret ?_
                    repeat (first | refine thenQ_ret ?_ | refine blockQ_ret ?_)
                    refine ex_3 (v := ⟨nm, v3, n6, n10, n75⟩) (a := a72) (b := s72) ?hF ?hR
                    case hF =>
                      refine fx_cell rfl tA25 rfl rfl rfl ?_
                      exact ⟨_, conv_eq (by first | rfl | exact fAgg1 (by first | rfl | exact ownEq (by first | done | omega | (simp; done)) | (simp_all; done)) (fAgg1 (by first | rfl | exact fI (by first | omega | grind) | (exfalso; first | omega | grind)) (fAgg1 (by first | rfl | exact fI (by first | omega | grind) | (exfalso; first | omega | grind)) (fAgg1 (by first | rfl | exact fI (by first | omega | grind) | (exfalso; first | omega | grind)) (fAgg1 (by first | rfl | exact fI (by first | omega | grind) | (exfalso; first | omega | grind)) (rfl)))))), weakH_box (boxEq (by first | rfl | (rw [e]; done) | (rw [e]; rfl) | (simp_all; done))) rfl (weakH_none _), refsIn_ok rfl⟩
                    case hR =>
                      exact ⟨⟨rfl, by dsimp only; omega, by dsimp only; omega⟩, by omega⟩
          · refine an_q (listed' := #[true, true, false, true, true, true, false, false, false]) rfl rfl rfl (q_int rfl rfl ?_)
            intro n77 hn77
            replace hn77 := in64 hn77 (by omega) (by omega)
            refine an_step [2] (by kernel_rfl) rfl ?_
            refine ⟨?_, trivial⟩
            · refine an_q (listed' := #[true, true, true, true, true, true, false, false, false]) rfl rfl rfl (q_int rfl rfl ?_)
              intro n78 hn78
              replace hn78 := in64 hn78 (by omega) (by omega)
              refine an_step [6] (by kernel_rfl) rfl ?_
              refine ⟨?_, trivial⟩
              · refine an_q (listed' := #[true, true, true, true, true, true, true, false, false]) rfl rfl rfl (q_int rfl rfl ?_)
                intro n79 hn79
                replace hn79 := in64 hn79 (by omega) (by omega)
                refine an_step [7] (by kernel_rfl) rfl ?_
                refine ⟨?_, trivial⟩
                · refine an_q (listed' := #[true, true, true, true, true, true, true, true, false]) rfl rfl rfl (q_fieldAddrP fO25_4 rfl rfl ?_)
                  refine an_step [8] (by kernel_rfl) rfl ?_
                  refine ⟨?_, trivial⟩
                  · refine an_k (listed' := #[true, true, true, true, true, true, true, true, true]) rfl rfl rfl (k_store sz2 rfl (by conv => lhs; whnf) rfl rfl rfl (Nat.le_of_ble_eq_true rfl) rfl ?_)
                    refine an_end (by kernel_rfl) (hK11 _ ?_); clear hK11
                    refine good_seq fun K80 hK80 => ?_
                    refine good_region rfl ?_
                    refine ev_q rfl (q_loadA tA25 rfl rfl rfl ?_)
                    refine ev_k rfl (k_store sz25 rfl (by conv => lhs; whnf) rfl rfl rfl (Nat.le_of_ble_eq_true rfl) rfl ?_)
                    refine ev_nil (hK80 _ ?_); clear hK80
                    refine good_ret ?_
                    repeat (first | refine thenQ_ret ?_ | refine blockQ_ret ?_)
                    refine ex_3 (v := ⟨nm, v3, n6, n10, n79⟩) (a := a72) (b := s72) ?hF ?hR
                    case hF =>
                      refine fx_cell rfl tA25 rfl rfl rfl ?_
                      exact ⟨_, conv_eq (by first | rfl | exact fAgg1 (by first | rfl | exact ownEq (by first | done | omega | (simp; done)) | (simp_all; done)) (fAgg1 (by first | rfl | exact fI (by first | omega | grind) | (exfalso; first | omega | grind)) (fAgg1 (by first | rfl | exact fI (by first | omega | grind) | (exfalso; first | omega | grind)) (fAgg1 (by first | rfl | exact fI (by first | omega | grind) | (exfalso; first | omega | grind)) (fAgg1 (by first | rfl | exact fI (by first | omega | grind) | (exfalso; first | omega | grind)) (rfl)))))), weakH_box (boxEq (by first | rfl | (rw [e]; done) | (rw [e]; rfl) | (simp_all; done))) rfl (weakH_none _), refsIn_ok rfl⟩
                    case hR =>
                      exact ⟨⟨rfl, by dsimp only; omega, by dsimp only; omega⟩, by omega⟩
        · refine an_q (listed' := #[true, false, false, true, true, true, false, false, false]) rfl rfl rfl (q_int rfl rfl ?_)
          intro n81 hn81
          replace hn81 := in64 hn81 (by omega) (by omega)
          refine an_step [1] (by kernel_rfl) rfl ?_
          refine ⟨?_, trivial⟩
          · refine an_q (listed' := #[true, true, false, true, true, true, false, false, false]) rfl rfl rfl (q_load tA2 rfl ?_)
            refine an_step [2] (by kernel_rfl) rfl ?_
            refine ⟨?_, trivial⟩
            · refine an_q (listed' := #[true, true, true, true, true, true, false, false, false]) rfl rfl rfl (q_int rfl rfl ?_)
              intro n82 hn82
              replace hn82 := in64 hn82 (by omega) (by omega)
              refine an_step [6] (by kernel_rfl) rfl ?_
              refine ⟨?_, trivial⟩
              · refine an_q (listed' := #[true, true, true, true, true, true, true, false, false]) rfl rfl rfl (q_int rfl rfl ?_)
                intro n83 hn83
                replace hn83 := in64 hn83 (by omega) (by omega)
                refine an_step [7] (by kernel_rfl) rfl ?_
                refine ⟨?_, trivial⟩
                · refine an_q (listed' := #[true, true, true, true, true, true, true, true, false]) rfl rfl rfl (q_fieldAddrP fO25_4 rfl rfl ?_)
                  refine an_step [8] (by kernel_rfl) rfl ?_
                  refine ⟨?_, trivial⟩
                  · refine an_k (listed' := #[true, true, true, true, true, true, true, true, true]) rfl rfl rfl (k_store sz2 rfl (by conv => lhs; whnf) rfl rfl rfl (Nat.le_of_ble_eq_true rfl) rfl ?_)
                    refine an_end (by kernel_rfl) (hK11 _ ?_); clear hK11
                    refine good_seq fun K84 hK84 => ?_
                    refine good_region rfl ?_
                    refine ev_q rfl (q_loadA tA25 rfl rfl rfl ?_)
                    refine ev_k rfl (k_store sz25 rfl (by conv => lhs; whnf) rfl rfl rfl (Nat.le_of_ble_eq_true rfl) rfl ?_)
                    refine ev_nil (hK84 _ ?_); clear hK84
                    refine good_ret ?_
                    repeat (first | refine thenQ_ret ?_ | refine blockQ_ret ?_)
                    refine ex_3 (v := ⟨nm, v3, n6, n10, n83⟩) (a := a72) (b := s72) ?hF ?hR
                    case hF =>
                      refine fx_cell rfl tA25 rfl rfl rfl ?_
                      exact ⟨_, conv_eq (by first | rfl | exact fAgg1 (by first | rfl | exact ownEq (by first | done | omega | (simp; done)) | (simp_all; done)) (fAgg1 (by first | rfl | exact fI (by first | omega | grind) | (exfalso; first | omega | grind)) (fAgg1 (by first | rfl | exact fI (by first | omega | grind) | (exfalso; first | omega | grind)) (fAgg1 (by first | rfl | exact fI (by first | omega | grind) | (exfalso; first | omega | grind)) (fAgg1 (by first | rfl | exact fI (by first | omega | grind) | (exfalso; first | omega | grind)) (rfl)))))), weakH_box (boxEq (by first | rfl | (rw [e]; done) | (rw [e]; rfl) | (simp_all; done))) rfl (weakH_none _), refsIn_ok rfl⟩
                    case hR =>
                      exact ⟨⟨rfl, by dsimp only; omega, by dsimp only; omega⟩, by omega⟩
    · refine an_k (listed' := #[false, false, false, true, true, false, false, false, false]) rfl rfl rfl (k_callR [(1000000, 1000000)] (D_spec_l00Src_pick cs _ _ _ hc hb (by omega) (by omega)) rfl (rfl) (rfl) ⟨rfl, trivial⟩ rfl (by rintro ⟨v85, a85, s85⟩ ⟨hx85_0, hx85_1⟩; exact ⟨⟨rfl, rfl, trivial⟩, rfl⟩) rfl rfl ?_)
      rintro ⟨v85, a85, s85⟩ ⟨hx85_0, hx85_1⟩
      refine an_step [0, 5] (by kernel_rfl) rfl ?_
      refine ⟨?_, ?_, trivial⟩
      · refine an_q (listed' := #[true, false, false, true, true, false, false, false, false]) rfl rfl rfl (q_fieldAddrP fO25_3 rfl rfl ?_)
        refine an_step [1, 5] (by kernel_rfl) rfl ?_
        refine ⟨?_, ?_, trivial⟩
        · refine an_q (listed' := #[true, true, false, true, true, false, false, false, false]) rfl rfl rfl (q_load tA2 rfl ?_)
          refine an_step [2, 5] (by kernel_rfl) rfl ?_
          refine ⟨?_, ?_, trivial⟩
          · refine an_q (listed' := #[true, true, true, true, true, false, false, false, false]) rfl rfl rfl (q_int rfl rfl ?_)
            intro n86 hn86
            replace hn86 := in64 hn86 (by omega) (by omega)
            refine an_step [5] (by kernel_rfl) rfl ?_
            refine ⟨?_, trivial⟩
            · refine an_q (listed' := #[true, true, true, true, true, true, false, false, false]) rfl rfl rfl (q_int rfl rfl ?_)
              intro n87 hn87
              replace hn87 := in64 hn87 (by omega) (by omega)
              refine an_step [6] (by kernel_rfl) rfl ?_
              refine ⟨?_, trivial⟩
              · refine an_q (listed' := #[true, true, true, true, true, true, true, false, false]) rfl rfl rfl (q_int rfl rfl ?_)
                intro n88 hn88
                replace hn88 := in64 hn88 (by omega) (by omega)
                refine an_step [7] (by kernel_rfl) rfl ?_
                refine ⟨?_, trivial⟩
                · refine an_q (listed' := #[true, true, true, true, true, true, true, true, false]) rfl rfl rfl (q_fieldAddrP fO25_4 rfl rfl ?_)
                  refine an_step [8] (by kernel_rfl) rfl ?_
                  refine ⟨?_, trivial⟩
                  · refine an_k (listed' := #[true, true, true, true, true, true, true, true, true]) rfl rfl rfl (k_store sz2 rfl (by conv => lhs; whnf) rfl rfl rfl (Nat.le_of_ble_eq_true rfl) rfl ?_)
                    refine an_end (by kernel_rfl) (hK11 _ ?_); clear hK11
                    refine good_seq fun K89 hK89 => ?_
                    refine good_region rfl ?_
                    refine ev_q rfl (q_loadA tA25 rfl rfl rfl ?_)
                    refine ev_k rfl (k_store sz25 rfl (by conv => lhs; whnf) rfl rfl rfl (Nat.le_of_ble_eq_true rfl) rfl ?_)
                    refine ev_nil (hK89 _ ?_); clear hK89
                    refine good_ret ?_
                    repeat (first | refine thenQ_ret ?_ | refine blockQ_ret ?_)
                    refine ex_3 (v := ⟨nm, v3, n6, n10, n88⟩) (a := a85) (b := s85) ?hF ?hR
                    case hF =>
                      refine fx_cell rfl tA25 rfl rfl rfl ?_
                      exact ⟨_, conv_eq (by first | rfl | exact fAgg1 (by first | rfl | exact ownEq (by first | done | omega | (simp; done)) | (simp_all; done)) (fAgg1 (by first | rfl | exact fI (by first | omega | grind) | (exfalso; first | omega | grind)) (fAgg1 (by first | rfl | exact fI (by first | omega | grind) | (exfalso; first | omega | grind)) (fAgg1 (by first | rfl | exact fI (by first | omega | grind) | (exfalso; first | omega | grind)) (fAgg1 (by first | rfl | exact fI (by first | omega | grind) | (exfalso; first | omega | grind)) (rfl)))))), weakH_box (boxEq (by first | rfl | (rw [e]; done) | (rw [e]; rfl) | (simp_all; done))) rfl (weakH_none _), refsIn_ok rfl⟩
                    case hR =>
                      exact ⟨⟨rfl, by dsimp only; omega, by dsimp only; omega⟩, by omega⟩
          · refine an_q (listed' := #[true, true, false, true, true, true, false, false, false]) rfl rfl rfl (q_int rfl rfl ?_)
            intro n90 hn90
            replace hn90 := in64 hn90 (by omega) (by omega)
            refine an_step [2] (by kernel_rfl) rfl ?_
            refine ⟨?_, trivial⟩
            · refine an_q (listed' := #[true, true, true, true, true, true, false, false, false]) rfl rfl rfl (q_int rfl rfl ?_)
              intro n91 hn91
              replace hn91 := in64 hn91 (by omega) (by omega)
              refine an_step [6] (by kernel_rfl) rfl ?_
              refine ⟨?_, trivial⟩
              · refine an_q (listed' := #[true, true, true, true, true, true, true, false, false]) rfl rfl rfl (q_int rfl rfl ?_)
                intro n92 hn92
                replace hn92 := in64 hn92 (by omega) (by omega)
                refine an_step [7] (by kernel_rfl) rfl ?_
                refine ⟨?_, trivial⟩
                · refine an_q (listed' := #[true, true, true, true, true, true, true, true, false]) rfl rfl rfl (q_fieldAddrP fO25_4 rfl rfl ?_)
                  refine an_step [8] (by kernel_rfl) rfl ?_
                  refine ⟨?_, trivial⟩
                  · refine an_k (listed' := #[true, true, true, true, true, true, true, true, true]) rfl rfl rfl (k_store sz2 rfl (by conv => lhs; whnf) rfl rfl rfl (Nat.le_of_ble_eq_true rfl) rfl ?_)
                    refine an_end (by kernel_rfl) (hK11 _ ?_); clear hK11
                    refine good_seq fun K93 hK93 => ?_
                    refine good_region rfl ?_
                    refine ev_q rfl (q_loadA tA25 rfl rfl rfl ?_)
                    refine ev_k rfl (k_store sz25 rfl (by conv => lhs; whnf) rfl rfl rfl (Nat.le_of_ble_eq_true rfl) rfl ?_)
                    refine ev_nil (hK93 _ ?_); clear hK93
                    refine good_ret ?_
                    repeat (first | refine thenQ_ret ?_ | refine blockQ_ret ?_)
                    refine ex_3 (v := ⟨nm, v3, n6, n10, n92⟩) (a := a85) (b := s85) ?hF ?hR
                    case hF =>
                      refine fx_cell rfl tA25 rfl rfl rfl ?_
                      exact ⟨_, conv_eq (by first | rfl | exact fAgg1 (by first | rfl | exact ownEq (by first | done | omega | (simp; done)) | (simp_all; done)) (fAgg1 (by first | rfl | exact fI (by first | omega | grind) | (exfalso; first | omega | grind)) (fAgg1 (by first | rfl | exact fI (by first | omega | grind) | (exfalso; first | omega | grind)) (fAgg1 (by first | rfl | exact fI (by first | omega | grind) | (exfalso; first | omega | grind)) (fAgg1 (by first | rfl | exact fI (by first | omega | grind) | (exfalso; first | omega | grind)) (rfl)))))), weakH_box (boxEq (by first | rfl | (rw [e]; done) | (rw [e]; rfl) | (simp_all; done))) rfl (weakH_none _), refsIn_ok rfl⟩
                    case hR =>
                      exact ⟨⟨rfl, by dsimp only; omega, by dsimp only; omega⟩, by omega⟩
        · refine an_q (listed' := #[true, false, false, true, true, true, false, false, false]) rfl rfl rfl (q_int rfl rfl ?_)
          intro n94 hn94
          replace hn94 := in64 hn94 (by omega) (by omega)
          refine an_step [1] (by kernel_rfl) rfl ?_
          refine ⟨?_, trivial⟩
          · refine an_q (listed' := #[true, true, false, true, true, true, false, false, false]) rfl rfl rfl (q_load tA2 rfl ?_)
            refine an_step [2] (by kernel_rfl) rfl ?_
            refine ⟨?_, trivial⟩
            · refine an_q (listed' := #[true, true, true, true, true, true, false, false, false]) rfl rfl rfl (q_int rfl rfl ?_)
              intro n95 hn95
              replace hn95 := in64 hn95 (by omega) (by omega)
              refine an_step [6] (by kernel_rfl) rfl ?_
              refine ⟨?_, trivial⟩
              · refine an_q (listed' := #[true, true, true, true, true, true, true, false, false]) rfl rfl rfl (q_int rfl rfl ?_)
                intro n96 hn96
                replace hn96 := in64 hn96 (by omega) (by omega)
                refine an_step [7] (by kernel_rfl) rfl ?_
                refine ⟨?_, trivial⟩
                · refine an_q (listed' := #[true, true, true, true, true, true, true, true, false]) rfl rfl rfl (q_fieldAddrP fO25_4 rfl rfl ?_)
                  refine an_step [8] (by kernel_rfl) rfl ?_
                  refine ⟨?_, trivial⟩
                  · refine an_k (listed' := #[true, true, true, true, true, true, true, true, true]) rfl rfl rfl (k_store sz2 rfl (by conv => lhs; whnf) rfl rfl rfl (Nat.le_of_ble_eq_true rfl) rfl ?_)
                    refine an_end (by kernel_rfl) (hK11 _ ?_); clear hK11
                    refine good_seq fun K97 hK97 => ?_
                    refine good_region rfl ?_
                    refine ev_q rfl (q_loadA tA25 rfl rfl rfl ?_)
                    refine ev_k rfl (k_store sz25 rfl (by conv => lhs; whnf) rfl rfl rfl (Nat.le_of_ble_eq_true rfl) rfl ?_)
                    refine ev_nil (hK97 _ ?_); clear hK97
                    refine good_ret ?_
                    repeat (first | refine thenQ_ret ?_ | refine blockQ_ret ?_)
                    refine ex_3 (v := ⟨nm, v3, n6, n10, n96⟩) (a := a85) (b := s85) ?hF ?hR
                    case hF =>
                      refine fx_cell rfl tA25 rfl rfl rfl ?_
                      exact ⟨_, conv_eq (by first | rfl | exact fAgg1 (by first | rfl | exact ownEq (by first | done | omega | (simp; done)) | (simp_all; done)) (fAgg1 (by first | rfl | exact fI (by first | omega | grind) | (exfalso; first | omega | grind)) (fAgg1 (by first | rfl | exact fI (by first | omega | grind) | (exfalso; first | omega | grind)) (fAgg1 (by first | rfl | exact fI (by first | omega | grind) | (exfalso; first | omega | grind)) (fAgg1 (by first | rfl | exact fI (by first | omega | grind) | (exfalso; first | omega | grind)) (rfl)))))), weakH_box (boxEq (by first | rfl | (rw [e]; done) | (rw [e]; rfl) | (simp_all; done))) rfl (weakH_none _), refsIn_ok rfl⟩
                    case hR =>
                      exact ⟨⟨rfl, by dsimp only; omega, by dsimp only; omega⟩, by omega⟩
      · refine an_q (listed' := #[false, false, false, true, true, true, false, false, false]) rfl rfl rfl (q_int rfl rfl ?_)
        intro n98 hn98
        replace hn98 := in64 hn98 (by omega) (by omega)
        refine an_step [0] (by kernel_rfl) rfl ?_
        refine ⟨?_, trivial⟩
        · refine an_q (listed' := #[true, false, false, true, true, true, false, false, false]) rfl rfl rfl (q_fieldAddrP fO25_3 rfl rfl ?_)
          refine an_step [1] (by kernel_rfl) rfl ?_
          refine ⟨?_, trivial⟩
          · refine an_q (listed' := #[true, true, false, true, true, true, false, false, false]) rfl rfl rfl (q_load tA2 rfl ?_)
            refine an_step [2] (by kernel_rfl) rfl ?_
            refine ⟨?_, trivial⟩
            · refine an_q (listed' := #[true, true, true, true, true, true, false, false, false]) rfl rfl rfl (q_int rfl rfl ?_)
              intro n99 hn99
              replace hn99 := in64 hn99 (by omega) (by omega)
              refine an_step [6] (by kernel_rfl) rfl ?_
              refine ⟨?_, trivial⟩
              · refine an_q (listed' := #[true, true, true, true, true, true, true, false, false]) rfl rfl rfl (q_int rfl rfl ?_)
                intro n100 hn100
                replace hn100 := in64 hn100 (by omega) (by omega)
                refine an_step [7] (by kernel_rfl) rfl ?_
                refine ⟨?_, trivial⟩
                · refine an_q (listed' := #[true, true, true, true, true, true, true, true, false]) rfl rfl rfl (q_fieldAddrP fO25_4 rfl rfl ?_)
                  refine an_step [8] (by kernel_rfl) rfl ?_
                  refine ⟨?_, trivial⟩
                  · refine an_k (listed' := #[true, true, true, true, true, true, true, true, true]) rfl rfl rfl (k_store sz2 rfl (by conv => lhs; whnf) rfl rfl rfl (Nat.le_of_ble_eq_true rfl) rfl ?_)
                    refine an_end (by kernel_rfl) (hK11 _ ?_); clear hK11
                    refine good_seq fun K101 hK101 => ?_
                    refine good_region rfl ?_
                    refine ev_q rfl (q_loadA tA25 rfl rfl rfl ?_)
                    refine ev_k rfl (k_store sz25 rfl (by conv => lhs; whnf) rfl rfl rfl (Nat.le_of_ble_eq_true rfl) rfl ?_)
                    refine ev_nil (hK101 _ ?_); clear hK101
                    refine good_ret ?_
                    repeat (first | refine thenQ_ret ?_ | refine blockQ_ret ?_)
                    refine ex_3 (v := ⟨nm, v3, n6, n10, n100⟩) (a := a85) (b := s85) ?hF ?hR
                    case hF =>
                      refine fx_cell rfl tA25 rfl rfl rfl ?_
                      exact ⟨_, conv_eq (by first | rfl | exact fAgg1 (by first | rfl | exact ownEq (by first | done | omega | (simp; done)) | (simp_all; done)) (fAgg1 (by first | rfl | exact fI (by first | omega | grind) | (exfalso; first | omega | grind)) (fAgg1 (by first | rfl | exact fI (by first | omega | grind) | (exfalso; first | omega | grind)) (fAgg1 (by first | rfl | exact fI (by first | omega | grind) | (exfalso; first | omega | grind)) (fAgg1 (by first | rfl | exact fI (by first | omega | grind) | (exfalso; first | omega | grind)) (rfl)))))), weakH_box (boxEq (by first | rfl | (rw [e]; done) | (rw [e]; rfl) | (simp_all; done))) rfl (weakH_none _), refsIn_ok rfl⟩
                    case hR =>
                      exact ⟨⟨rfl, by dsimp only; omega, by dsimp only; omega⟩, by omega⟩

-- spec.l12Bend
set_option maxRecDepth 20000 in
set_option maxHeartbeats 2000000 in
theorem D_spec_l12Bend (cs : List Int) (a s : Int) (p : Sb) (hc : cs.length ≤ 17592186044416) (hb : byteL cs) (ha : 0 ≤ a ∧ a ≤ 3999999999999999996) (hp : -1000000000 ≤ p.re ∧ p.re ≤ 1000000000) : DenXR Tryz.prog 34 [(1000000, .box 91 (src cs a s))] [.ptr 1000000 0, .agg [.s (.string p.id), .s (.int .i64 (p.nd)), .s (.int .i64 (p.tr)), .s (.int .i64 (p.su)), .s (.int .i64 (p.re))]] (τ := Sb × Int × Int) (fun (v, a1, s1) => (v.id = p.id) ∧ (a ≤ a1 ∧ a1 ≤ a + 4)) (fun (v, a1, s1) => [(1000000, .box 91 (src cs a1 s1))]) (fun (v, a1, s1) => .agg [.s (.string v.id), .s (.int .i64 (v.nd)), .s (.int .i64 (v.tr)), .s (.int .i64 (v.su)), .s (.int .i64 (v.re))]) := by
  refine denXR_of_good Tryz.func34 (by decide) rfl (Nat.le_of_ble_eq_true rfl) (Nat.le_of_ble_eq_true rfl) rfl ?_
  refine good_seq fun K1 hK1 => ?_
  refine good_region rfl ?_
  refine ev_k rfl (k_box (by conv => lhs; whnf) rfl rfl rfl ?_)
  refine ev_k rfl (k_alloc zA25 rfl ?_)
  refine ev_nil (hK1 _ ?_); clear hK1
  refine good_seq fun K2 hK2 => ?_
  refine good_seq fun K3 hK3 => ?_
  refine good_region rfl ?_
  refine ev_q rfl (q_move (by conv => lhs; whnf) ?_)
  refine ev_k rfl (k_callR [(1000000, 1000000)] (D_spec_l00Src_pick cs _ _ _ hc hb (by omega) (by omega)) rfl (rfl) (rfl) ⟨rfl, trivial⟩ rfl (by rintro ⟨v4, a4, s4⟩ ⟨hx4_0, hx4_1⟩; exact ⟨⟨rfl, rfl, trivial⟩, rfl⟩) rfl rfl ?_)
  rintro ⟨v4, a4, s4⟩ ⟨hx4_0, hx4_1⟩
  refine ev_nil (hK3 _ ?_); clear hK3
  refine good_block ?_
  refine good_seq fun K5 hK5 => ?_
  refine good_region rfl ?_
  refine ev_q rfl (q_int rfl rfl ?_)
  intro b6 hb6; cases b6
  · replace hb6 := eqF hb6
    refine ev_q rfl (q_assign (by conv => lhs; whnf) ?_)
    refine ev_nil (hK5 _ ?_); clear hK5
    refine good_condF rfl ?_
    refine good_seq fun K7 hK7 => ?_
    refine good_region rfl ?_
    refine ev_q rfl (q_int rfl rfl ?_)
    intro b8 hb8; cases b8
    · replace hb8 := eqF hb8
      refine ev_q rfl (q_assign (by conv => lhs; whnf) ?_)
      refine ev_nil (hK7 _ ?_); clear hK7
      refine good_condF rfl ?_
      refine good_seq fun K9 hK9 => ?_
      refine good_region rfl ?_
      refine ev_q rfl (q_int rfl rfl ?_)
      intro b10 hb10; cases b10
      · replace hb10 := eqF hb10
        refine ev_q rfl (q_assign (by conv => lhs; whnf) ?_)
        refine ev_nil (hK9 _ ?_); clear hK9
        refine good_condF rfl ?_
        refine good_seq fun K11 hK11 => ?_
        refine good_region rfl ?_
        refine ev_q rfl (q_int rfl rfl ?_)
        intro b12 hb12; cases b12
        · replace hb12 := eqF hb12
          refine ev_q rfl (q_assign (by conv => lhs; whnf) ?_)
          refine ev_nil (hK11 _ ?_); clear hK11
          refine good_condF rfl ?_
          refine good_skip (hK2 _ ?_); clear hK2
          refine good_seq fun K13 hK13 => ?_
          refine good_region rfl ?_
          refine ev_q rfl (q_loadA tA25 rfl rfl rfl ?_)
          refine ev_k rfl (k_store sz25 rfl (by conv => lhs; whnf) rfl rfl rfl (Nat.le_of_ble_eq_true rfl) rfl ?_)
          refine ev_nil (hK13 _ ?_); clear hK13
          refine good_ret ?_
          repeat (first | refine thenQ_ret ?_ | refine blockQ_ret ?_)
          refine ex_3 (v := p) (a := a4) (b := s4) ?hF ?hR
          case hF =>
            refine fx_cell rfl tA25 rfl rfl rfl ?_
            exact ⟨_, conv_eq (by first | rfl | exact fAgg1 (by first | rfl | exact ownEq (by first | done | omega | (simp; done)) | (simp_all; done)) (fAgg1 (by first | rfl | exact fI (by first | omega | grind) | (exfalso; first | omega | grind)) (fAgg1 (by first | rfl | exact fI (by first | omega | grind) | (exfalso; first | omega | grind)) (fAgg1 (by first | rfl | exact fI (by first | omega | grind) | (exfalso; first | omega | grind)) (fAgg1 (by first | rfl | exact fI (by first | omega | grind) | (exfalso; first | omega | grind)) (rfl)))))), weakH_box (boxEq (by first | rfl | (rw [e]; done) | (rw [e]; rfl) | (simp_all; done))) rfl (weakH_none _), refsIn_ok rfl⟩
          case hR =>
            exact ⟨rfl, by omega⟩
        · replace hb12 := eqT hb12
          refine ev_q rfl (q_assign (by conv => lhs; whnf) ?_)
          refine ev_nil (hK11 _ ?_); clear hK11
          refine good_condT rfl ?_
          refine good_region rfl ?_
          refine ev_q rfl (q_move (by conv => lhs; whnf) ?_)
          refine ev_k rfl (k_lit tE36 zA2 rfl rfl (by decide) (by decide) rfl rfl rfl ?_)
          refine ev_k rfl (k_callR [(1000000, 1000000), (1000001, 33)] (D_spec_l00Src_among cs _ _ [(-1), 0] hc hb (by omega) (by decide)) rfl (rfl) (rfl) ⟨rfl, ⟨rfl, trivial⟩⟩ rfl (by rintro ⟨v14, a14, s14⟩ ⟨hx14_0, hx14_1⟩; exact ⟨⟨rfl, rfl, ⟨rfl, ⟨rfl, rfl, by first | exact Nat.le_refl _ | (simp; done) | (simp; omega)⟩, trivial⟩⟩, rfl⟩) rfl rfl ?_)
          rintro ⟨v14, a14, s14⟩ ⟨hx14_0, hx14_1⟩
          simp only [List.mem_cons, List.not_mem_nil, or_false] at hx14_0
          refine ev_q rfl (q_fieldAddrP fO25_4 rfl rfl ?_)
          refine ev_k rfl (k_store sz2 rfl (by conv => lhs; whnf) rfl rfl rfl (Nat.le_of_ble_eq_true rfl) rfl ?_)
          refine ev_nil (hK2 _ ?_); clear hK2
          refine good_seq fun K15 hK15 => ?_
          refine good_region rfl ?_
          refine ev_q rfl (q_loadA tA25 rfl rfl rfl ?_)
          refine ev_k rfl (k_store sz25 rfl (by conv => lhs; whnf) rfl rfl rfl (Nat.le_of_ble_eq_true rfl) rfl ?_)
          refine ev_nil (hK15 _ ?_); clear hK15
          refine good_ret ?_
          repeat (first | refine thenQ_ret ?_ | refine blockQ_ret ?_)
          refine ex_3 (v := ⟨p.id, p.nd, p.tr, p.su, v14⟩) (a := a14) (b := s14) ?hF ?hR
          case hF =>
            refine fx_cell rfl tA25 rfl rfl rfl ?_
            exact ⟨_, conv_eq (by first | rfl | exact fAgg1 (by first | rfl | exact ownEq (by first | done | omega | (simp; done)) | (simp_all; done)) (fAgg1 (by first | rfl | exact fI (by first | omega | grind) | (exfalso; first | omega | grind)) (fAgg1 (by first | rfl | exact fI (by first | omega | grind) | (exfalso; first | omega | grind)) (fAgg1 (by first | rfl | exact fI (by first | omega | grind) | (exfalso; first | omega | grind)) (fAgg1 (by first | rfl | exact fI (by first | omega | grind) | (exfalso; first | omega | grind)) (rfl)))))), weakH_box (boxEq (by first | rfl | (rw [e]; done) | (rw [e]; rfl) | (simp_all; done))) rfl (weakH_none _), refsIn_ok rfl⟩
          case hR =>
            exact ⟨rfl, by omega⟩
      · replace hb10 := eqT hb10
        refine ev_q rfl (q_assign (by conv => lhs; whnf) ?_)
        refine ev_nil (hK9 _ ?_); clear hK9
        refine good_condT rfl ?_
        refine good_region rfl ?_
        refine ev_q rfl (q_move (by conv => lhs; whnf) ?_)
        refine ev_q rfl (q_fieldAddrP fO25_4 rfl rfl ?_)
        refine ev_q rfl (q_load tA2 rfl ?_)
        refine ev_q rfl (q_fieldAddrP fO25_4 rfl rfl ?_)
        refine ev_q rfl (q_load tA2 rfl ?_)
        refine ev_q rfl (q_int rfl rfl ?_)
        intro n16 hn16
        replace hn16 := in64 hn16 (by omega) (by omega)
        refine ev_k rfl (k_lit tE36 zA2 rfl rfl (by decide) (by decide) rfl rfl rfl ?_)
        refine ev_k rfl (k_callR [(1000000, 1000000), (1000001, 27)] (D_spec_l00Src_among cs _ _ [18000, 18001, p.re, n16] hc hb (by omega) (by simp)) rfl (rfl) (rfl) ⟨rfl, ⟨rfl, trivial⟩⟩ rfl (by rintro ⟨v17, a17, s17⟩ ⟨hx17_0, hx17_1⟩; exact ⟨⟨rfl, rfl, ⟨rfl, ⟨rfl, rfl, by first | exact Nat.le_refl _ | (simp; done) | (simp; omega)⟩, trivial⟩⟩, rfl⟩) rfl rfl ?_)
        rintro ⟨v17, a17, s17⟩ ⟨hx17_0, hx17_1⟩
        refine ev_q rfl (q_fieldAddrP fO25_3 rfl rfl ?_)
        refine ev_k rfl (k_store sz2 rfl (by conv => lhs; whnf) rfl rfl rfl (Nat.le_of_ble_eq_true rfl) rfl ?_)
        refine ev_nil (hK2 _ ?_); clear hK2
        refine good_seq fun K18 hK18 => ?_
        refine good_region rfl ?_
        refine ev_q rfl (q_loadA tA25 rfl rfl rfl ?_)
        refine ev_k rfl (k_store sz25 rfl (by conv => lhs; whnf) rfl rfl rfl (Nat.le_of_ble_eq_true rfl) rfl ?_)
        refine ev_nil (hK18 _ ?_); clear hK18
        refine good_ret ?_
        repeat (first | refine thenQ_ret ?_ | refine blockQ_ret ?_)
        refine ex_3 (v := ⟨p.id, p.nd, p.tr, v17, p.re⟩) (a := a17) (b := s17) ?hF ?hR
        case hF =>
          refine fx_cell rfl tA25 rfl rfl rfl ?_
          exact ⟨_, conv_eq (by first | rfl | exact fAgg1 (by first | rfl | exact ownEq (by first | done | omega | (simp; done)) | (simp_all; done)) (fAgg1 (by first | rfl | exact fI (by first | omega | grind) | (exfalso; first | omega | grind)) (fAgg1 (by first | rfl | exact fI (by first | omega | grind) | (exfalso; first | omega | grind)) (fAgg1 (by first | rfl | exact fI (by first | omega | grind) | (exfalso; first | omega | grind)) (fAgg1 (by first | rfl | exact fI (by first | omega | grind) | (exfalso; first | omega | grind)) (rfl)))))), weakH_box (boxEq (by first | rfl | (rw [e]; done) | (rw [e]; rfl) | (simp_all; done))) rfl (weakH_none _), refsIn_ok rfl⟩
        case hR =>
          exact ⟨rfl, by omega⟩
    · replace hb8 := eqT hb8
      refine ev_q rfl (q_assign (by conv => lhs; whnf) ?_)
      refine ev_nil (hK7 _ ?_); clear hK7
      refine good_condT rfl ?_
      refine good_region rfl ?_
      refine ev_q rfl (q_move (by conv => lhs; whnf) ?_)
      refine ev_k rfl (k_lit tE36 zA2 rfl rfl (by decide) (by decide) rfl rfl rfl ?_)
      refine ev_k rfl (k_callR [(1000000, 1000000), (1000001, 16)] (D_spec_l00Src_among cs _ _ [0, 1, 100000, 100001] hc hb (by omega) (by decide)) rfl (rfl) (rfl) ⟨rfl, ⟨rfl, trivial⟩⟩ rfl (by rintro ⟨v19, a19, s19⟩ ⟨hx19_0, hx19_1⟩; exact ⟨⟨rfl, rfl, ⟨rfl, ⟨rfl, rfl, by first | exact Nat.le_refl _ | (simp; done) | (simp; omega)⟩, trivial⟩⟩, rfl⟩) rfl rfl ?_)
      rintro ⟨v19, a19, s19⟩ ⟨hx19_0, hx19_1⟩
      simp only [List.mem_cons, List.not_mem_nil, or_false] at hx19_0
      refine ev_q rfl (q_fieldAddrP fO25_2 rfl rfl ?_)
      refine ev_k rfl (k_store sz2 rfl (by conv => lhs; whnf) rfl rfl rfl (Nat.le_of_ble_eq_true rfl) rfl ?_)
      refine ev_nil (hK2 _ ?_); clear hK2
      refine good_seq fun K20 hK20 => ?_
      refine good_region rfl ?_
      refine ev_q rfl (q_loadA tA25 rfl rfl rfl ?_)
      refine ev_k rfl (k_store sz25 rfl (by conv => lhs; whnf) rfl rfl rfl (Nat.le_of_ble_eq_true rfl) rfl ?_)
      refine ev_nil (hK20 _ ?_); clear hK20
      refine good_ret ?_
      repeat (first | refine thenQ_ret ?_ | refine blockQ_ret ?_)
      refine ex_3 (v := ⟨p.id, p.nd, v19, p.su, p.re⟩) (a := a19) (b := s19) ?hF ?hR
      case hF =>
        refine fx_cell rfl tA25 rfl rfl rfl ?_
        exact ⟨_, conv_eq (by first | rfl | exact fAgg1 (by first | rfl | exact ownEq (by first | done | omega | (simp; done)) | (simp_all; done)) (fAgg1 (by first | rfl | exact fI (by first | omega | grind) | (exfalso; first | omega | grind)) (fAgg1 (by first | rfl | exact fI (by first | omega | grind) | (exfalso; first | omega | grind)) (fAgg1 (by first | rfl | exact fI (by first | omega | grind) | (exfalso; first | omega | grind)) (fAgg1 (by first | rfl | exact fI (by first | omega | grind) | (exfalso; first | omega | grind)) (rfl)))))), weakH_box (boxEq (by first | rfl | (rw [e]; done) | (rw [e]; rfl) | (simp_all; done))) rfl (weakH_none _), refsIn_ok rfl⟩
      case hR =>
        exact ⟨rfl, by omega⟩
  · replace hb6 := eqT hb6
    refine ev_q rfl (q_assign (by conv => lhs; whnf) ?_)
    refine ev_nil (hK5 _ ?_); clear hK5
    refine good_condT rfl ?_
    refine good_region rfl ?_
    refine ev_q rfl (q_move (by conv => lhs; whnf) ?_)
    refine ev_k rfl (k_lit tE36 zA2 rfl rfl (by decide) (by decide) rfl rfl rfl ?_)
    refine ev_k rfl (k_callR [(1000000, 1000000), (1000001, 10)] (D_spec_l00Src_among cs _ _ [(-1), 15, 16] hc hb (by omega) (by decide)) rfl (rfl) (rfl) ⟨rfl, ⟨rfl, trivial⟩⟩ rfl (by rintro ⟨v21, a21, s21⟩ ⟨hx21_0, hx21_1⟩; exact ⟨⟨rfl, rfl, ⟨rfl, ⟨rfl, rfl, by first | exact Nat.le_refl _ | (simp; done) | (simp; omega)⟩, trivial⟩⟩, rfl⟩) rfl rfl ?_)
    rintro ⟨v21, a21, s21⟩ ⟨hx21_0, hx21_1⟩
    simp only [List.mem_cons, List.not_mem_nil, or_false] at hx21_0
    refine ev_q rfl (q_fieldAddrP fO25_1 rfl rfl ?_)
    refine ev_k rfl (k_store sz2 rfl (by conv => lhs; whnf) rfl rfl rfl (Nat.le_of_ble_eq_true rfl) rfl ?_)
    refine ev_nil (hK2 _ ?_); clear hK2
    refine good_seq fun K22 hK22 => ?_
    refine good_region rfl ?_
    refine ev_q rfl (q_loadA tA25 rfl rfl rfl ?_)
    refine ev_k rfl (k_store sz25 rfl (by conv => lhs; whnf) rfl rfl rfl (Nat.le_of_ble_eq_true rfl) rfl ?_)
    refine ev_nil (hK22 _ ?_); clear hK22
    refine good_ret ?_
    repeat (first | refine thenQ_ret ?_ | refine blockQ_ret ?_)
    refine ex_3 (v := ⟨p.id, v21, p.tr, p.su, p.re⟩) (a := a21) (b := s21) ?hF ?hR
    case hF =>
      refine fx_cell rfl tA25 rfl rfl rfl ?_
      exact ⟨_, conv_eq (by first | rfl | exact fAgg1 (by first | rfl | exact ownEq (by first | done | omega | (simp; done)) | (simp_all; done)) (fAgg1 (by first | rfl | exact fI (by first | omega | grind) | (exfalso; first | omega | grind)) (fAgg1 (by first | rfl | exact fI (by first | omega | grind) | (exfalso; first | omega | grind)) (fAgg1 (by first | rfl | exact fI (by first | omega | grind) | (exfalso; first | omega | grind)) (fAgg1 (by first | rfl | exact fI (by first | omega | grind) | (exfalso; first | omega | grind)) (rfl)))))), weakH_box (boxEq (by first | rfl | (rw [e]; done) | (rw [e]; rfl) | (simp_all; done))) rfl (weakH_none _), refsIn_ok rfl⟩
    case hR =>
      exact ⟨rfl, by omega⟩

end Go.Proofs.YtodghlkodiidaaaGreatDoor.DFnReturns
