/- Walks through the functions that FnExactReturnMix reaches: what each answers. -/
import Derived.Test.YthhajcpgbcpbmaaDFnExactReturnMixb
set_option linter.unusedVariables false
set_option linter.unusedSimpArgs false
namespace Go.Proofs.Ythhajcpgbcpbmaa.DFnExactReturnMix
open Go Go.RowKit Go.Proofs Go.Proofs.Ythhajcpgbcpbmaa Go.Proofs.Ythhajcpgbcpbmaa.Ev
-- impl.ReturnMix
set_option maxRecDepth 20000 in
set_option maxHeartbeats 2000000 in
theorem D_impl_ReturnMix (xs : List Sb) (ds : List Int) (pr : Int) (hx : xs.length ≤ 2932031007402) (hz : ∀ (j : Nat) (x : Sb), xs[j]? = some x → x.id.size ≤ 140737488351232) (hd : ds.length ≤ 17592186044416) : Den Try.prog 34 [.lst 5 (xs.map sbA), .s (.int .i64 pr), .lst 1 (ds.map ci)] (.tup [.s (.int .i64 (if rmC xs ds pr = 0 then dr (rmS xs ds pr xs.length) (rmA xs ds pr xs.length) else 0)), .s (.int .i64 (rmC xs ds pr))]) := by
  refine den_of_good Try.func34 (by decide) rfl (Nat.le_of_ble_eq_true rfl) (Nat.le_of_ble_eq_true rfl) ?_
  refine good_seq fun K1 hK1 => ?_
  refine good_region rfl ?_
  refine ev_q rfl (q_assign (by conv => lhs; whnf) ?_)
  refine ev_q rfl (q_assign (by conv => lhs; whnf) ?_)
  refine ev_nil (hK1 _ ?_); clear hK1
  refine good_seq fun K2 hK2 => ?_
  refine good_seq fun K3 hK3 => ?_
  refine good_region rfl ?_
  refine ev_q rfl (q_move (by conv => lhs; whnf) ?_)
  refine ev_q rfl (q_move (by conv => lhs; whnf) ?_)
  refine ev_q rfl (q_move (by conv => lhs; whnf) ?_)
  refine ev_q rfl (q_callI rfl rfl (rfl) (D_impl_substationsCode xs ds pr hx hz hd) ?_)
  intro n4 hn4
  refine ev_q rfl (q_assign (by conv => lhs; whnf) ?_)
  refine ev_nil (hK3 _ ?_); clear hK3
  refine good_seq fun K5 hK5 => ?_
  refine good_region rfl ?_
  refine ev_q rfl (q_move (by conv => lhs; whnf) ?_)
  refine ev_q rfl (q_int rfl rfl ?_)
  intro b6 hb6; cases b6
  · replace hb6 := neF hb6
    refine ev_nil (hK5 _ ?_); clear hK5
    refine good_condF rfl ?_
    refine good_skip (hK2 _ ?_); clear hK2
    refine good_seq fun K7 hK7 => ?_
    refine good_region rfl ?_
    refine ev_q rfl (q_assign (by conv => lhs; whnf) ?_)
    refine ev_q rfl (q_assign (by conv => lhs; whnf) ?_)
    refine ev_nil (hK7 _ ?_); clear hK7
    refine good_seq fun K8 hK8 => ?_
    refine good_seq fun K9 hK9 => ?_
    refine good_region rfl ?_
    refine ev_q rfl (q_move (by conv => lhs; whnf) ?_)
    refine ev_q rfl (q_len tEs33 rfl ?_)
    intro n10 hn10
    try simp only [List.length_map] at hn10
    refine ev_q rfl (q_move (by conv => lhs; whnf) ?_)
    refine ev_nil (hK9 _ ?_); clear hK9
    refine good_block ?_
    have hok := sbC_ok (show sbC xs ds pr = 0 by omega)
    refine good_loop (α := Nat) (fun i => { env := upd (upd (upd (upd (upd (upd (upd ((fun _ => .junk)) 1 (.s (.int .i64 pr))) 2 (.lst 1 (ds.map ci))) 9 (.s (.int .i64 (rmS xs ds pr i)))) 10 (.s (.int .i64 (rmA xs ds pr i)))) 24 (.lst 5 (xs.map sbA))) 25 (.s (.int .i64 ((xs.length : Int))))) 26 (.s (.int .i64 i)), H := fun _ => none }) (fun i => i ≤ xs.length ∧ ∀ j, j < i → pfj xs ds pr j ≤ 100000) (fun i => xs.length - i) 0 ?_ ?_ ?_
    · exact ⟨by omega, fun j hj => by omega⟩
    · refine sub_weak ?_ ?_
      · exact weakH_none _
      · refine weakE_upd ?e26 ?r26 (weakE_upd ?e25 ?r25 (weakE_upd ?e24 ?r24 (weakE_upd ?e10 ?r10 (weakE_upd ?e9 ?r9 (weakE_upd ?e2 ?r2 (weakE_upd ?e1 ?r1 (weakE_junk _ _)))))))
        case e1 => first | rfl | exact fI (by omega) | (simp_all)
        case r1 => intro h hh; cases hh
        case e2 => first | rfl | exact fI (by omega) | (simp_all)
        case r2 => intro h hh; cases hh
        case e9 => first | rfl | exact fI (by omega) | (first | rfl | exact fI (by rw [s1]; first | done | (rw [ebk, epq]; omega)))
        case r9 => intro h hh; cases hh
        case e10 => first | rfl | exact fI (by omega) | (first | rfl | exact fI (by rw [s2]; first | done | omega))
        case r10 => intro h hh; cases hh
        case e24 => first | rfl | exact fI (by omega) | (simp_all)
        case r24 => intro h hh; cases hh
        case e25 => first | rfl | exact fI (by omega) | (simp_all)
        case r25 => intro h hh; cases hh
        case e26 => first | rfl | exact fI (by omega) | (simp_all)
        case r26 => intro h hh; cases hh
    · rintro i ⟨hI, hJ⟩
      refine good_seq fun K11 hK11 => ?_
      refine good_region rfl ?_
      refine ev_q rfl (q_int rfl rfl ?_)
      intro b12 hb12; cases b12
      · replace hb12 := dF hb12
        have hbd := rm_bd hok i hI hJ
        have h12 := hok.1.1
        refine ev_nil (hK11 _ ?_); clear hK11
        refine good_seq fun K13 hK13 => ?_
        refine good_condF rfl ?_
        refine good_exit ?_
        repeat (first | refine thenQ_exit ?_ | refine blockQ_pass rfl ?_)
        refine blockQ_exit (hK8 _ ?_); clear hK8
        refine good_seq fun K14 hK14 => ?_
        refine good_seq fun K15 hK15 => ?_
        refine good_region rfl ?_
        refine ev_q rfl (q_move (by conv => lhs; whnf) ?_)
        refine ev_q rfl (q_int rfl rfl ?_)
        intro b16 hb16; cases b16
        · replace hb16 := eqF hb16
          refine ev_nil (hK15 _ ?_); clear hK15
          refine good_condF rfl ?_
          refine good_skip (hK14 _ ?_); clear hK14
          refine good_seq fun K17 hK17 => ?_
          refine good_region rfl ?_
          refine ev_q rfl (q_move (by conv => lhs; whnf) ?_)
          refine ev_q rfl (q_move (by conv => lhs; whnf) ?_)
          refine ev_q rfl (q_callI rfl rfl (rfl) (D_impl_divRound _ _ (by omega) (by omega)) ?_)
          intro n18 hn18
          refine ev_q rfl (q_assign (by conv => lhs; whnf) ?_)
          refine ev_q rfl (q_assign (by conv => lhs; whnf) ?_)
          refine ev_nil (hK17 _ ?_); clear hK17
          refine good_ret ?_
          repeat (first | refine thenQ_ret ?_ | refine blockQ_ret ?_)
          refine ret_many rfl ?_
          refine res_tmp (by conv => lhs; whnf) rfl ?_
          refine res_tmp (by conv => lhs; whnf) rfl ?_
          refine res_nil ?_
          clear hK13
          first | (have e := rmC_c (xs := xs) (ds := ds) (pr := pr) (by omega); exact fTup1 (fI (by rw [if_neg (by omega)])) (fTup1 (fI (by omega)) rfl)) | (have e := rmC_6 (xs := xs) (ds := ds) (pr := pr) (by omega) (fun h => by first | (have := h.1 i (by omega); omega) | (have ei : xs.length = i := (by omega); rw [ei] at h; exact h.2 (by omega))); exact fTup1 (fI (by rw [if_neg (by omega)])) (fTup1 (fI (by omega)) rfl)) | (have ei : xs.length = i := (by omega); have e := rmC_0 (xs := xs) (ds := ds) (pr := pr) (by omega) (fun j hj => hJ j (by omega)) (by rw [ei]; omega); exact fTup1 (fI (by rw [if_pos e, ei]; assumption)) (fTup1 (fI (by omega)) rfl))
        · replace hb16 := eqT hb16
          refine ev_nil (hK15 _ ?_); clear hK15
          refine good_condT rfl ?_
          refine good_seq fun K19 hK19 => ?_
          refine good_region rfl ?_
          refine ev_q rfl (q_assign (by conv => lhs; whnf) ?_)
          refine ev_q rfl (q_assign (by conv => lhs; whnf) ?_)
          refine ev_nil (hK19 _ ?_); clear hK19
          refine good_ret ?_
          repeat (first | refine thenQ_ret ?_ | refine blockQ_ret ?_)
          refine ret_many rfl ?_
          refine res_tmp (by conv => lhs; whnf) rfl ?_
          refine res_tmp (by conv => lhs; whnf) rfl ?_
          refine res_nil ?_
          clear hK13 hK14
          first | (have e := rmC_c (xs := xs) (ds := ds) (pr := pr) (by omega); exact fTup1 (fI (by rw [if_neg (by omega)])) (fTup1 (fI (by omega)) rfl)) | (have e := rmC_6 (xs := xs) (ds := ds) (pr := pr) (by omega) (fun h => by first | (have := h.1 i (by omega); omega) | (have ei : xs.length = i := (by omega); rw [ei] at h; exact h.2 (by omega))); exact fTup1 (fI (by rw [if_neg (by omega)])) (fTup1 (fI (by omega)) rfl)) | (have ei : xs.length = i := (by omega); have e := rmC_0 (xs := xs) (ds := ds) (pr := pr) (by omega) (fun j hj => hJ j (by omega)) (by rw [ei]; omega); exact fTup1 (fI (by rw [if_pos e, ei]; assumption)) (fTup1 (fI (by omega)) rfl))
      · replace hb12 := dT hb12
        obtain ⟨p, hp⟩ := getL (xs := xs) (n := (i : Int)) (by omega) (by omega)
        replace hp : xs[i]? = some p := hp
        obtain ⟨l, hl⟩ := getL (xs := ds) (n := (i : Int)) (by omega) (by omega)
        replace hl : ds[i]? = some l := hl
        have hzp := hz i p hp
        obtain ⟨_, hx1, hx2, hx3, hx4⟩ := (hok.1.2 i p hp).1
        have hlb := hok.2.2.2 _ _ hl
        have epf := pfj_eq (pr := pr) hp hl
        have hpb := pfP_bd (tr := p.tr) (su := p.su) (re := p.re) (pr := pr) (ld := l)
        have hbd := rm_bd hok i hI hJ
        have h12 := hok.1.1
        refine ev_nil (hK11 _ ?_); clear hK11
        refine good_seq fun K20 hK20 => ?_
        refine good_condT rfl ?_
        refine good_skip (hK20 _ ?_); clear hK20
        refine good_seq fun K21 hK21 => ?_
        refine good_block ?_
        refine good_seq fun K22 hK22 => ?_
        refine good_region rfl ?_
        refine ev_q rfl (q_move (by conv => lhs; whnf) ?_)
        refine ev_q rfl (q_idx tE33 rfl rfl (by exact Int.natCast_nonneg _) (by exact map_get hp) rfl ?_)
        refine ev_q rfl (q_loadA tA27 rfl rfl rfl ?_)
        refine ev_k rfl (k_alloc zA27 rfl ?_)
        refine ev_q rfl (q_assign (by conv => lhs; whnf) ?_)
        refine ev_k rfl (k_store sz27 rfl (by conv => lhs; whnf) rfl rfl rfl (Nat.le_of_ble_eq_true rfl) rfl ?_)
        refine ev_nil (hK22 _ ?_); clear hK22
        refine good_seq fun K23 hK23 => ?_
        refine good_draw 12 hmix (by kernel_rfl) rfl ?_
        refine qo_q rfl (q_loadA tA27 rfl rfl rfl ?_)
        refine qo_q rfl (q_move (by conv => lhs; whnf) ?_)
        refine qo_q rfl (q_move (by conv => lhs; whnf) ?_)
        refine qo_q rfl (q_move (by conv => lhs; whnf) ?_)
        refine qo_q rfl (q_idx tE37 rfl rfl (by exact Int.natCast_nonneg _) (by exact map_get hl) rfl ?_)
        refine qo_q rfl (q_load tA2 rfl ?_)
        refine qo_q rfl (q_call rfl rfl (rfl) (D_impl_Substation_primaryFlow p.id p.nd p.tr p.su p.re pr l (by omega) (by omega) (by omega) (by omega)) rfl ?_)
        refine qo_q rfl (q_move (by conv => lhs; whnf) ?_)
        refine qo_q rfl (q_extractI rfl rfl ?_)
        intro n24 hn24
        refine qo_q rfl (q_extractB rfl rfl ?_)
        intro b25 hb25; cases b25
        · first | replace hb25 := dF hb25 | skip
          refine qo_q rfl (q_assign (by conv => lhs; whnf) ?_)
          refine qo_q rfl (q_assign (by conv => lhs; whnf) ?_)
          refine qo_nil ?_
          refine ev_nil (hK23 _ ?_); clear hK23
          refine good_seq fun K26 hK26 => ?_
          refine good_seq fun K27 hK27 => ?_
          refine good_region rfl ?_
          refine ev_q rfl (q_move (by conv => lhs; whnf) ?_)
          refine ev_q rfl (q_not rfl rfl ?_)
          refine ev_nil (hK27 _ ?_); clear hK27
          refine good_condT rfl ?_
          refine good_seq fun K28 hK28 => ?_
          refine good_region rfl ?_
          refine ev_q rfl (q_assign (by conv => lhs; whnf) ?_)
          refine ev_q rfl (q_assign (by conv => lhs; whnf) ?_)
          refine ev_nil (hK28 _ ?_); clear hK28
          refine good_ret ?_
          repeat (first | refine thenQ_ret ?_ | refine blockQ_ret ?_)
          refine ret_many rfl ?_
          refine res_tmp (by conv => lhs; whnf) rfl ?_
          refine res_tmp (by conv => lhs; whnf) rfl ?_
          refine res_nil ?_
          clear hK8 hK21 hK26
          first | (have e := rmC_c (xs := xs) (ds := ds) (pr := pr) (by omega); exact fTup1 (fI (by rw [if_neg (by omega)])) (fTup1 (fI (by omega)) rfl)) | (have e := rmC_6 (xs := xs) (ds := ds) (pr := pr) (by omega) (fun h => by first | (have := h.1 i (by omega); omega) | (have ei : xs.length = i := (by omega); rw [ei] at h; exact h.2 (by omega))); exact fTup1 (fI (by rw [if_neg (by omega)])) (fTup1 (fI (by omega)) rfl)) | (have ei : xs.length = i := (by omega); have e := rmC_0 (xs := xs) (ds := ds) (pr := pr) (by omega) (fun j hj => hJ j (by omega)) (by rw [ei]; omega); exact fTup1 (fI (by rw [if_pos e, ei]; assumption)) (fTup1 (fI (by omega)) rfl))
        · first | replace hb25 := dT hb25 | skip
          refine qo_q rfl (q_assign (by conv => lhs; whnf) ?_)
          refine qo_q rfl (q_assign (by conv => lhs; whnf) ?_)
          refine qo_nil ?_
          refine ev_nil (hK23 _ ?_); clear hK23
          refine good_seq fun K29 hK29 => ?_
          refine good_seq fun K30 hK30 => ?_
          refine good_region rfl ?_
          refine ev_q rfl (q_move (by conv => lhs; whnf) ?_)
          refine ev_q rfl (q_not rfl rfl ?_)
          refine ev_nil (hK30 _ ?_); clear hK30
          refine good_condF rfl ?_
          refine good_skip (hK29 _ ?_); clear hK29
          refine good_seq fun K31 hK31 => ?_
          refine good_region rfl ?_
          refine ev_q rfl (q_move (by conv => lhs; whnf) ?_)
          refine ev_q rfl (q_int rfl rfl ?_)
          intro b32 hb32; cases b32
          · replace hb32 := dF hb32
            have s1 := rmS_F (xs := xs) (ds := ds) (pr := pr) (n := i) (by omega)
            have s2 := rmA_F (xs := xs) (ds := ds) (pr := pr) (n := i) (by omega)
            refine ev_nil (hK31 _ ?_); clear hK31
            refine good_condF rfl ?_
            refine good_skip (hK21 _ ?_); clear hK21
            refine good_region rfl ?_
            refine ev_q rfl (q_int rfl rfl ?_)
            intro n33 hn33
            replace hn33 := in64 hn33 (by omega) (by omega)
            refine ev_q rfl (q_move (by conv => lhs; whnf) ?_)
            refine ev_nil ?_
            clear hK8
            refine ⟨i + 1, ?_, ?_, ?_⟩
            · refine ⟨by omega, fun j hj => ?_⟩
              by_cases e : j = i
              · subst e; omega
              · exact hJ j (by omega)
            · first | omega | (simp only []; omega) | (dsimp only; omega)
            · refine sub_weak ?_ ?_
              · exact weakH_none _
              · refine weakE_upd ?e26 ?r26 (weakE_upd ?e25 ?r25 (weakE_upd ?e24 ?r24 (weakE_upd ?e10 ?r10 (weakE_upd ?e9 ?r9 (weakE_upd ?e2 ?r2 (weakE_upd ?e1 ?r1 (weakE_junk _ _)))))))
                case e1 => first | rfl | exact fI (by omega) | (simp_all)
                case r1 => intro h hh; cases hh
                case e2 => first | rfl | exact fI (by omega) | (simp_all)
                case r2 => intro h hh; cases hh
                case e9 => first | rfl | exact fI (by omega) | (first | rfl | exact fI (by rw [s1]; first | done | (rw [ebk, epq]; omega)))
                case r9 => intro h hh; cases hh
                case e10 => first | rfl | exact fI (by omega) | (first | rfl | exact fI (by rw [s2]; first | done | omega))
                case r10 => intro h hh; cases hh
                case e24 => first | rfl | exact fI (by omega) | (simp_all)
                case r24 => intro h hh; cases hh
                case e25 => first | rfl | exact fI (by omega) | (simp_all)
                case r25 => intro h hh; cases hh
                case e26 => first | rfl | exact fI (by omega) | (simp_all)
                case r26 => intro h hh; cases hh
          · replace hb32 := dT hb32
            have epq : pfj xs ds pr i = n24 := by rw [epf, ← hn24]
            have hre : p.re ≤ pr := pf_re (tr := p.tr) (su := p.su) (ld := l) (by omega) (by omega)
            have hbb := (bB_best (f := lesP p.tr p.su p.re pr n24) hre).1
            have ebk : bkj xs ds pr i = bB (lesP p.tr p.su p.re pr n24) p.re pr := by unfold bkj; rw [gs_eq hp, epf, ← hn24]
            have hmu := mulB (a := n24) (b := bB (lesP p.tr p.su p.re pr n24) p.re pr) (A := 100000) (B := 18000) (by omega) (by omega) (by omega) (by omega)
            have s1 := rmS_T (xs := xs) (ds := ds) (pr := pr) (n := i) (by omega)
            have s2 := rmA_T (xs := xs) (ds := ds) (pr := pr) (n := i) (by omega)
            refine ev_nil (hK31 _ ?_); clear hK31
            refine good_condT rfl ?_
            refine good_seq fun K34 hK34 => ?_
            refine good_region rfl ?_
            refine ev_q rfl (q_loadA tA27 rfl rfl rfl ?_)
            refine ev_q rfl (q_move (by conv => lhs; whnf) ?_)
            refine ev_q rfl (q_move (by conv => lhs; whnf) ?_)
            refine ev_q rfl (q_call rfl rfl (rfl) (D_impl_Substation_bestBack p.id p.nd p.tr p.su p.re pr _ (by omega) (by omega) (by omega) (by omega) (by omega) (by omega)) rfl ?_)
            refine ev_q rfl (q_move (by conv => lhs; whnf) ?_)
            refine ev_q rfl (q_extractI rfl rfl ?_)
            intro n35 hn35
            refine ev_q rfl (q_extractI rfl rfl ?_)
            intro n36 hn36
            refine ev_q rfl (q_assign (by conv => lhs; whnf) ?_)
            refine ev_q rfl (q_assign (by conv => lhs; whnf) ?_)
            refine ev_nil (hK34 _ ?_); clear hK34
            refine good_region rfl ?_
            refine ev_q rfl (q_move (by conv => lhs; whnf) ?_)
            refine ev_q rfl (q_move (by conv => lhs; whnf) ?_)
            refine ev_q rfl (q_move (by conv => lhs; whnf) ?_)
            refine ev_q rfl (q_int rfl rfl ?_)
            intro n37 hn37
            rw [hn35] at hn37
            replace hn37 := in64 hn37 (by omega) (by omega)
            refine ev_q rfl (q_int rfl rfl ?_)
            intro n38 hn38
            rw [hn37] at hn38
            replace hn38 := in64 hn38 (by omega) (by omega)
            refine ev_q rfl (q_move (by conv => lhs; whnf) ?_)
            refine ev_q rfl (q_move (by conv => lhs; whnf) ?_)
            refine ev_q rfl (q_int rfl rfl ?_)
            intro n39 hn39
            replace hn39 := in64 hn39 (by omega) (by omega)
            refine ev_q rfl (q_assign (by conv => lhs; whnf) ?_)
            refine ev_q rfl (q_assign (by conv => lhs; whnf) ?_)
            refine ev_nil (hK21 _ ?_); clear hK21
            refine good_region rfl ?_
            refine ev_q rfl (q_int rfl rfl ?_)
            intro n40 hn40
            replace hn40 := in64 hn40 (by omega) (by omega)
            refine ev_q rfl (q_move (by conv => lhs; whnf) ?_)
            refine ev_nil ?_
            clear hK8
            refine ⟨i + 1, ?_, ?_, ?_⟩
            · refine ⟨by omega, fun j hj => ?_⟩
              by_cases e : j = i
              · subst e; omega
              · exact hJ j (by omega)
            · first | omega | (simp only []; omega) | (dsimp only; omega)
            · refine sub_weak ?_ ?_
              · exact weakH_none _
              · refine weakE_upd ?e26 ?r26 (weakE_upd ?e25 ?r25 (weakE_upd ?e24 ?r24 (weakE_upd ?e10 ?r10 (weakE_upd ?e9 ?r9 (weakE_upd ?e2 ?r2 (weakE_upd ?e1 ?r1 (weakE_junk _ _)))))))
                case e1 => first | rfl | exact fI (by omega) | (simp_all)
                case r1 => intro h hh; cases hh
                case e2 => first | rfl | exact fI (by omega) | (simp_all)
                case r2 => intro h hh; cases hh
                case e9 => first | rfl | exact fI (by omega) | (first | rfl | exact fI (by rw [s1]; first | done | (rw [ebk, epq]; omega)))
                case r9 => intro h hh; cases hh
                case e10 => first | rfl | exact fI (by omega) | (first | rfl | exact fI (by rw [s2]; first | done | omega))
                case r10 => intro h hh; cases hh
                case e24 => first | rfl | exact fI (by omega) | (simp_all)
                case r24 => intro h hh; cases hh
                case e25 => first | rfl | exact fI (by omega) | (simp_all)
                case r25 => intro h hh; cases hh
                case e26 => first | rfl | exact fI (by omega) | (simp_all)
                case r26 => intro h hh; cases hh
  · replace hb6 := neT hb6
    refine ev_nil (hK5 _ ?_); clear hK5
    refine good_condT rfl ?_
    refine good_seq fun K41 hK41 => ?_
    refine good_region rfl ?_
    refine ev_q rfl (q_move (by conv => lhs; whnf) ?_)
    refine ev_q rfl (q_assign (by conv => lhs; whnf) ?_)
    refine ev_q rfl (q_assign (by conv => lhs; whnf) ?_)
    refine ev_nil (hK41 _ ?_); clear hK41
    refine good_ret ?_
    repeat (first | refine thenQ_ret ?_ | refine blockQ_ret ?_)
    refine ret_many rfl ?_
    refine res_tmp (by conv => lhs; whnf) rfl ?_
    refine res_tmp (by conv => lhs; whnf) rfl ?_
    refine res_nil ?_
    clear hK2
    first | (have e := rmC_c (xs := xs) (ds := ds) (pr := pr) (by omega); exact fTup1 (fI (by rw [if_neg (by omega)])) (fTup1 (fI (by omega)) rfl)) | (have e := rmC_6 (xs := xs) (ds := ds) (pr := pr) (by omega) (fun h => by first | (have := h.1 i (by omega); omega) | (have ei : xs.length = i := (by omega); rw [ei] at h; exact h.2 (by omega))); exact fTup1 (fI (by rw [if_neg (by omega)])) (fTup1 (fI (by omega)) rfl)) | (have ei : xs.length = i := (by omega); have e := rmC_0 (xs := xs) (ds := ds) (pr := pr) (by omega) (fun j hj => hJ j (by omega)) (by rw [ei]; omega); exact fTup1 (fI (by rw [if_pos e, ei]; assumption)) (fTup1 (fI (by omega)) rfl))

-- spec.ReturnMix
set_option maxRecDepth 20000 in
set_option maxHeartbeats 2000000 in
theorem D_spec_ReturnMix (xs : List Sb) (ds : List Int) (pr : Int) (hx : xs.length ≤ 2932031007402) (hz : ∀ (j : Nat) (x : Sb), xs[j]? = some x → x.id.size ≤ 140737488351232) (hd : ds.length ≤ 17592186044416) : Den Try.prog 32 [.lst 5 (xs.map sbA), .s (.int .i64 pr), .lst 1 (ds.map ci)] (.tup [.s (.int .i64 (if rmC xs ds pr = 0 then dr (rmS xs ds pr xs.length) (rmA xs ds pr xs.length) else 0)), .s (.int .i64 (rmC xs ds pr))]) := by
  refine den_of_good Try.func32 (by decide) rfl (Nat.le_of_ble_eq_true rfl) (Nat.le_of_ble_eq_true rfl) ?_
  refine good_seq fun K1 hK1 => ?_
  refine good_region rfl ?_
  refine ev_q rfl (q_assign (by conv => lhs; whnf) ?_)
  refine ev_q rfl (q_assign (by conv => lhs; whnf) ?_)
  refine ev_nil (hK1 _ ?_); clear hK1
  refine good_seq fun K2 hK2 => ?_
  refine good_region rfl ?_
  refine ev_q rfl (q_move (by conv => lhs; whnf) ?_)
  refine ev_q rfl (q_move (by conv => lhs; whnf) ?_)
  refine ev_q rfl (q_move (by conv => lhs; whnf) ?_)
  refine ev_q rfl (q_callI rfl rfl (rfl) (D_spec_l12Ask xs ds pr hx hz hd) ?_)
  intro n3 hn3
  refine ev_q rfl (q_assign (by conv => lhs; whnf) ?_)
  refine ev_nil (hK2 _ ?_); clear hK2
  refine good_seq fun K4 hK4 => ?_
  refine good_seq fun K5 hK5 => ?_
  refine good_region rfl ?_
  refine ev_q rfl (q_move (by conv => lhs; whnf) ?_)
  refine ev_q rfl (q_int rfl rfl ?_)
  intro b6 hb6; cases b6
  · replace hb6 := neF hb6
    refine ev_nil (hK5 _ ?_); clear hK5
    refine good_condF rfl ?_
    refine good_skip (hK4 _ ?_); clear hK4
    refine good_seq fun K7 hK7 => ?_
    refine good_region rfl ?_
    refine ev_q rfl (q_assign (by conv => lhs; whnf) ?_)
    refine ev_nil (hK7 _ ?_); clear hK7
    refine good_seq fun K8 hK8 => ?_
    refine good_region rfl ?_
    refine ev_q rfl (q_assign (by conv => lhs; whnf) ?_)
    refine ev_nil (hK8 _ ?_); clear hK8
    refine good_seq fun K9 hK9 => ?_
    refine good_seq fun K10 hK10 => ?_
    refine good_region rfl ?_
    refine ev_q rfl (q_assign (by conv => lhs; whnf) ?_)
    refine ev_nil (hK10 _ ?_); clear hK10
    refine good_block ?_
    have hok := sbC_ok (show sbC xs ds pr = 0 by omega)
    refine good_loop (α := Nat) (fun i => { env := upd (upd (upd (upd (upd (upd ((fun _ => .junk)) 0 (.lst 5 (xs.map sbA))) 1 (.s (.int .i64 pr))) 2 (.lst 1 (ds.map ci))) 9 (.s (.int .i64 (rmS xs ds pr i)))) 10 (.s (.int .i64 (rmA xs ds pr i)))) 11 (.s (.int .i64 i)), H := fun _ => none }) (fun i => i ≤ xs.length ∧ ∀ j, j < i → pfj xs ds pr j ≤ 100000) (fun i => xs.length - i) 0 ?_ ?_ ?_
    · exact ⟨by omega, fun j hj => by omega⟩
    · refine sub_weak ?_ ?_
      · exact weakH_none _
      · refine weakE_upd ?e11 ?r11 (weakE_upd ?e10 ?r10 (weakE_upd ?e9 ?r9 (weakE_upd ?e2 ?r2 (weakE_upd ?e1 ?r1 (weakE_upd ?e0 ?r0 (weakE_junk _ _))))))
        case e0 => first | rfl | exact fI (by omega) | (simp_all)
        case r0 => intro h hh; cases hh
        case e1 => first | rfl | exact fI (by omega) | (simp_all)
        case r1 => intro h hh; cases hh
        case e2 => first | rfl | exact fI (by omega) | (simp_all)
        case r2 => intro h hh; cases hh
        case e9 => first | rfl | exact fI (by omega) | (first | rfl | exact fI (by rw [s1]; first | done | (rw [ebk, epq]; omega)))
        case r9 => intro h hh; cases hh
        case e10 => first | rfl | exact fI (by omega) | (first | rfl | exact fI (by rw [s2]; first | done | omega))
        case r10 => intro h hh; cases hh
        case e11 => first | rfl | exact fI (by omega) | (simp_all)
        case r11 => intro h hh; cases hh
    · rintro i ⟨hI, hJ⟩
      refine good_seq fun K11 hK11 => ?_
      refine good_seq fun K12 hK12 => ?_
      refine good_region rfl ?_
      refine ev_q rfl (q_move (by conv => lhs; whnf) ?_)
      refine ev_q rfl (q_move (by conv => lhs; whnf) ?_)
      refine ev_q rfl (q_len tEs33 rfl ?_)
      intro n13 hn13
      try simp only [List.length_map] at hn13
      refine ev_q rfl (q_int rfl rfl ?_)
      intro b14 hb14; cases b14
      · replace hb14 := dF hb14
        have hbd := rm_bd hok i hI hJ
        have h12 := hok.1.1
        refine ev_nil (hK12 _ ?_); clear hK12
        refine good_condF rfl ?_
        refine good_exit ?_
        repeat (first | refine thenQ_exit ?_ | refine blockQ_pass rfl ?_)
        refine blockQ_exit (hK9 _ ?_); clear hK9
        refine good_seq fun K15 hK15 => ?_
        refine good_seq fun K16 hK16 => ?_
        refine good_region rfl ?_
        refine ev_q rfl (q_move (by conv => lhs; whnf) ?_)
        refine ev_q rfl (q_int rfl rfl ?_)
        intro b17 hb17; cases b17
        · replace hb17 := eqF hb17
          refine ev_nil (hK16 _ ?_); clear hK16
          refine good_condF rfl ?_
          refine good_skip (hK15 _ ?_); clear hK15
          refine good_seq fun K18 hK18 => ?_
          refine good_region rfl ?_
          refine ev_q rfl (q_move (by conv => lhs; whnf) ?_)
          refine ev_q rfl (q_move (by conv => lhs; whnf) ?_)
          refine ev_q rfl (q_callI rfl rfl (rfl) (D_spec_l01Div _ _ (by omega) (by omega)) ?_)
          intro n19 hn19
          refine ev_q rfl (q_assign (by conv => lhs; whnf) ?_)
          refine ev_q rfl (q_assign (by conv => lhs; whnf) ?_)
          refine ev_nil (hK18 _ ?_); clear hK18
          refine good_ret ?_
          repeat (first | refine thenQ_ret ?_ | refine blockQ_ret ?_)
          refine ret_many rfl ?_
          refine res_tmp (by conv => lhs; whnf) rfl ?_
          refine res_tmp (by conv => lhs; whnf) rfl ?_
          refine res_nil ?_
          clear hK11
          first | (have e := rmC_c (xs := xs) (ds := ds) (pr := pr) (by omega); exact fTup1 (fI (by rw [if_neg (by omega)])) (fTup1 (fI (by omega)) rfl)) | (have e := rmC_6 (xs := xs) (ds := ds) (pr := pr) (by omega) (fun h => by first | (have := h.1 i (by omega); omega) | (have ei : xs.length = i := (by omega); rw [ei] at h; exact h.2 (by omega))); exact fTup1 (fI (by rw [if_neg (by omega)])) (fTup1 (fI (by omega)) rfl)) | (have ei : xs.length = i := (by omega); have e := rmC_0 (xs := xs) (ds := ds) (pr := pr) (by omega) (fun j hj => hJ j (by omega)) (by rw [ei]; omega); exact fTup1 (fI (by rw [if_pos e, ei]; assumption)) (fTup1 (fI (by omega)) rfl))
        · replace hb17 := eqT hb17
          refine ev_nil (hK16 _ ?_); clear hK16
          refine good_condT rfl ?_
          refine good_seq fun K20 hK20 => ?_
          refine good_region rfl ?_
          refine ev_q rfl (q_assign (by conv => lhs; whnf) ?_)
          refine ev_q rfl (q_assign (by conv => lhs; whnf) ?_)
          refine ev_nil (hK20 _ ?_); clear hK20
          refine good_ret ?_
          repeat (first | refine thenQ_ret ?_ | refine blockQ_ret ?_)
          refine ret_many rfl ?_
          refine res_tmp (by conv => lhs; whnf) rfl ?_
          refine res_tmp (by conv => lhs; whnf) rfl ?_
          refine res_nil ?_
          clear hK11 hK15
          first | (have e := rmC_c (xs := xs) (ds := ds) (pr := pr) (by omega); exact fTup1 (fI (by rw [if_neg (by omega)])) (fTup1 (fI (by omega)) rfl)) | (have e := rmC_6 (xs := xs) (ds := ds) (pr := pr) (by omega) (fun h => by first | (have := h.1 i (by omega); omega) | (have ei : xs.length = i := (by omega); rw [ei] at h; exact h.2 (by omega))); exact fTup1 (fI (by rw [if_neg (by omega)])) (fTup1 (fI (by omega)) rfl)) | (have ei : xs.length = i := (by omega); have e := rmC_0 (xs := xs) (ds := ds) (pr := pr) (by omega) (fun j hj => hJ j (by omega)) (by rw [ei]; omega); exact fTup1 (fI (by rw [if_pos e, ei]; assumption)) (fTup1 (fI (by omega)) rfl))
      · replace hb14 := dT hb14
        obtain ⟨p, hp⟩ := getL (xs := xs) (n := (i : Int)) (by omega) (by omega)
        replace hp : xs[i]? = some p := hp
        obtain ⟨l, hl⟩ := getL (xs := ds) (n := (i : Int)) (by omega) (by omega)
        replace hl : ds[i]? = some l := hl
        have hzp := hz i p hp
        obtain ⟨_, hx1, hx2, hx3, hx4⟩ := (hok.1.2 i p hp).1
        have hlb := hok.2.2.2 _ _ hl
        have epf := pfj_eq (pr := pr) hp hl
        have hpb := pfP_bd (tr := p.tr) (su := p.su) (re := p.re) (pr := pr) (ld := l)
        have hbd := rm_bd hok i hI hJ
        have h12 := hok.1.1
        refine ev_nil (hK12 _ ?_); clear hK12
        refine good_condT rfl ?_
        refine good_skip (hK11 _ ?_); clear hK11
        refine good_seq fun K21 hK21 => ?_
        refine good_block ?_
        refine good_seq fun K22 hK22 => ?_
        refine good_draw 10 hmix (by kernel_rfl) rfl ?_
        refine qo_q rfl (q_move (by conv => lhs; whnf) ?_)
        refine qo_q rfl (q_move (by conv => lhs; whnf) ?_)
        refine qo_q rfl (q_idx tE33 rfl rfl (by exact Int.natCast_nonneg _) (by exact map_get hp) rfl ?_)
        refine qo_q rfl (q_move (by conv => lhs; whnf) ?_)
        refine qo_q rfl (q_move (by conv => lhs; whnf) ?_)
        refine qo_q rfl (q_move (by conv => lhs; whnf) ?_)
        refine qo_q rfl (q_idx tE37 rfl rfl (by exact Int.natCast_nonneg _) (by exact map_get hl) rfl ?_)
        refine qo_q rfl (q_load tA2 rfl ?_)
        refine qo_q rfl (q_callI rfl rfl (rfl) (D_spec_l12Needed p.id p.nd p.tr p.su p.re pr l (by omega) (by omega) (by omega) (by omega)) ?_)
        intro n23 hn23
        refine qo_q rfl (q_assign (by conv => lhs; whnf) ?_)
        refine qo_nil ?_
        refine ev_nil (hK22 _ ?_); clear hK22
        refine good_seq fun K24 hK24 => ?_
        refine good_seq fun K25 hK25 => ?_
        refine good_region rfl ?_
        refine ev_q rfl (q_move (by conv => lhs; whnf) ?_)
        refine ev_q rfl (q_int rfl rfl ?_)
        intro b26 hb26; cases b26
        · replace hb26 := dF hb26
          refine ev_nil (hK25 _ ?_); clear hK25
          refine good_condF rfl ?_
          refine good_skip (hK24 _ ?_); clear hK24
          refine good_seq fun K27 hK27 => ?_
          refine good_region rfl ?_
          refine ev_q rfl (q_move (by conv => lhs; whnf) ?_)
          refine ev_q rfl (q_int rfl rfl ?_)
          intro b28 hb28; cases b28
          · replace hb28 := dF hb28
            have s1 := rmS_F (xs := xs) (ds := ds) (pr := pr) (n := i) (by omega)
            have s2 := rmA_F (xs := xs) (ds := ds) (pr := pr) (n := i) (by omega)
            refine ev_nil (hK27 _ ?_); clear hK27
            refine good_condF rfl ?_
            refine good_skip (hK21 _ ?_); clear hK21
            refine good_region rfl ?_
            refine ev_q rfl (q_move (by conv => lhs; whnf) ?_)
            refine ev_q rfl (q_int rfl rfl ?_)
            intro n29 hn29
            replace hn29 := in64 hn29 (by omega) (by omega)
            refine ev_q rfl (q_assign (by conv => lhs; whnf) ?_)
            refine ev_nil ?_
            clear hK9
            refine ⟨i + 1, ?_, ?_, ?_⟩
            · refine ⟨by omega, fun j hj => ?_⟩
              by_cases e : j = i
              · subst e; omega
              · exact hJ j (by omega)
            · first | omega | (simp only []; omega) | (dsimp only; omega)
            · refine sub_weak ?_ ?_
              · exact weakH_none _
              · refine weakE_upd ?e11 ?r11 (weakE_upd ?e10 ?r10 (weakE_upd ?e9 ?r9 (weakE_upd ?e2 ?r2 (weakE_upd ?e1 ?r1 (weakE_upd ?e0 ?r0 (weakE_junk _ _))))))
                case e0 => first | rfl | exact fI (by omega) | (simp_all)
                case r0 => intro h hh; cases hh
                case e1 => first | rfl | exact fI (by omega) | (simp_all)
                case r1 => intro h hh; cases hh
                case e2 => first | rfl | exact fI (by omega) | (simp_all)
                case r2 => intro h hh; cases hh
                case e9 => first | rfl | exact fI (by omega) | (first | rfl | exact fI (by rw [s1]; first | done | (rw [ebk, epq]; omega)))
                case r9 => intro h hh; cases hh
                case e10 => first | rfl | exact fI (by omega) | (first | rfl | exact fI (by rw [s2]; first | done | omega))
                case r10 => intro h hh; cases hh
                case e11 => first | rfl | exact fI (by omega) | (simp_all)
                case r11 => intro h hh; cases hh
          · replace hb28 := dT hb28
            have epq : pfj xs ds pr i = n23 := by rw [epf, ← hn23]
            have hre : p.re ≤ pr := pf_re (tr := p.tr) (su := p.su) (ld := l) (by omega) (by omega)
            have hbb := (bB_best (f := lesP p.tr p.su p.re pr n23) hre).1
            have ebk : bkj xs ds pr i = bB (lesP p.tr p.su p.re pr n23) p.re pr := by unfold bkj; rw [gs_eq hp, epf, ← hn23]
            have hmu := mulB (a := n23) (b := bB (lesP p.tr p.su p.re pr n23) p.re pr) (A := 100000) (B := 18000) (by omega) (by omega) (by omega) (by omega)
            have s1 := rmS_T (xs := xs) (ds := ds) (pr := pr) (n := i) (by omega)
            have s2 := rmA_T (xs := xs) (ds := ds) (pr := pr) (n := i) (by omega)
            refine ev_nil (hK27 _ ?_); clear hK27
            refine good_condT rfl ?_
            refine good_seq fun K30 hK30 => ?_
            refine good_region rfl ?_
            refine ev_q rfl (q_move (by conv => lhs; whnf) ?_)
            refine ev_q rfl (q_move (by conv => lhs; whnf) ?_)
            refine ev_q rfl (q_idx tE33 rfl rfl (by exact Int.natCast_nonneg _) (by exact map_get hp) rfl ?_)
            refine ev_q rfl (q_move (by conv => lhs; whnf) ?_)
            refine ev_q rfl (q_move (by conv => lhs; whnf) ?_)
            refine ev_q rfl (q_call rfl rfl (rfl) (D_spec_l12Back p.id p.nd p.tr p.su p.re pr _ (by omega) (by omega) (by omega) (by omega) (by omega) (by omega)) rfl ?_)
            refine ev_q rfl (q_move (by conv => lhs; whnf) ?_)
            refine ev_q rfl (q_extractI rfl rfl ?_)
            intro n31 hn31
            refine ev_q rfl (q_extractI rfl rfl ?_)
            intro n32 hn32
            refine ev_q rfl (q_assign (by conv => lhs; whnf) ?_)
            refine ev_q rfl (q_assign (by conv => lhs; whnf) ?_)
            refine ev_nil (hK30 _ ?_); clear hK30
            refine good_seq fun K33 hK33 => ?_
            refine good_region rfl ?_
            refine ev_q rfl (q_move (by conv => lhs; whnf) ?_)
            refine ev_q rfl (q_move (by conv => lhs; whnf) ?_)
            refine ev_q rfl (q_move (by conv => lhs; whnf) ?_)
            refine ev_q rfl (q_int rfl rfl ?_)
            intro n34 hn34
            rw [hn31] at hn34
            replace hn34 := in64 hn34 (by omega) (by omega)
            refine ev_q rfl (q_int rfl rfl ?_)
            intro n35 hn35
            rw [hn34] at hn35
            replace hn35 := in64 hn35 (by omega) (by omega)
            refine ev_q rfl (q_assign (by conv => lhs; whnf) ?_)
            refine ev_nil (hK33 _ ?_); clear hK33
            refine good_region rfl ?_
            refine ev_q rfl (q_move (by conv => lhs; whnf) ?_)
            refine ev_q rfl (q_move (by conv => lhs; whnf) ?_)
            refine ev_q rfl (q_int rfl rfl ?_)
            intro n36 hn36
            replace hn36 := in64 hn36 (by omega) (by omega)
            refine ev_q rfl (q_assign (by conv => lhs; whnf) ?_)
            refine ev_nil (hK21 _ ?_); clear hK21
            refine good_region rfl ?_
            refine ev_q rfl (q_move (by conv => lhs; whnf) ?_)
            refine ev_q rfl (q_int rfl rfl ?_)
            intro n37 hn37
            replace hn37 := in64 hn37 (by omega) (by omega)
            refine ev_q rfl (q_assign (by conv => lhs; whnf) ?_)
            refine ev_nil ?_
            clear hK9
            refine ⟨i + 1, ?_, ?_, ?_⟩
            · refine ⟨by omega, fun j hj => ?_⟩
              by_cases e : j = i
              · subst e; omega
              · exact hJ j (by omega)
            · first | omega | (simp only []; omega) | (dsimp only; omega)
            · refine sub_weak ?_ ?_
              · exact weakH_none _
              · refine weakE_upd ?e11 ?r11 (weakE_upd ?e10 ?r10 (weakE_upd ?e9 ?r9 (weakE_upd ?e2 ?r2 (weakE_upd ?e1 ?r1 (weakE_upd ?e0 ?r0 (weakE_junk _ _))))))
                case e0 => first | rfl | exact fI (by omega) | (simp_all)
                case r0 => intro h hh; cases hh
                case e1 => first | rfl | exact fI (by omega) | (simp_all)
                case r1 => intro h hh; cases hh
                case e2 => first | rfl | exact fI (by omega) | (simp_all)
                case r2 => intro h hh; cases hh
                case e9 => first | rfl | exact fI (by omega) | (first | rfl | exact fI (by rw [s1]; first | done | (rw [ebk, epq]; omega)))
                case r9 => intro h hh; cases hh
                case e10 => first | rfl | exact fI (by omega) | (first | rfl | exact fI (by rw [s2]; first | done | omega))
                case r10 => intro h hh; cases hh
                case e11 => first | rfl | exact fI (by omega) | (simp_all)
                case r11 => intro h hh; cases hh
        · replace hb26 := dT hb26
          refine ev_nil (hK25 _ ?_); clear hK25
          refine good_condT rfl ?_
          refine good_seq fun K38 hK38 => ?_
          refine good_region rfl ?_
          refine ev_q rfl (q_assign (by conv => lhs; whnf) ?_)
          refine ev_q rfl (q_assign (by conv => lhs; whnf) ?_)
          refine ev_nil (hK38 _ ?_); clear hK38
          refine good_ret ?_
          repeat (first | refine thenQ_ret ?_ | refine blockQ_ret ?_)
          refine ret_many rfl ?_
          refine res_tmp (by conv => lhs; whnf) rfl ?_
          refine res_tmp (by conv => lhs; whnf) rfl ?_
          refine res_nil ?_
          clear hK9 hK21 hK24
          first | (have e := rmC_c (xs := xs) (ds := ds) (pr := pr) (by omega); exact fTup1 (fI (by rw [if_neg (by omega)])) (fTup1 (fI (by omega)) rfl)) | (have e := rmC_6 (xs := xs) (ds := ds) (pr := pr) (by omega) (fun h => by first | (have := h.1 i (by omega); omega) | (have ei : xs.length = i := (by omega); rw [ei] at h; exact h.2 (by omega))); exact fTup1 (fI (by rw [if_neg (by omega)])) (fTup1 (fI (by omega)) rfl)) | (have ei : xs.length = i := (by omega); have e := rmC_0 (xs := xs) (ds := ds) (pr := pr) (by omega) (fun j hj => hJ j (by omega)) (by rw [ei]; omega); exact fTup1 (fI (by rw [if_pos e, ei]; assumption)) (fTup1 (fI (by omega)) rfl))
  · replace hb6 := neT hb6
    refine ev_nil (hK5 _ ?_); clear hK5
    refine good_condT rfl ?_
    refine good_seq fun K39 hK39 => ?_
    refine good_region rfl ?_
    refine ev_q rfl (q_move (by conv => lhs; whnf) ?_)
    refine ev_q rfl (q_assign (by conv => lhs; whnf) ?_)
    refine ev_q rfl (q_assign (by conv => lhs; whnf) ?_)
    refine ev_nil (hK39 _ ?_); clear hK39
    refine good_ret ?_
    repeat (first | refine thenQ_ret ?_ | refine blockQ_ret ?_)
    refine ret_many rfl ?_
    refine res_tmp (by conv => lhs; whnf) rfl ?_
    refine res_tmp (by conv => lhs; whnf) rfl ?_
    refine res_nil ?_
    clear hK4
    first | (have e := rmC_c (xs := xs) (ds := ds) (pr := pr) (by omega); exact fTup1 (fI (by rw [if_neg (by omega)])) (fTup1 (fI (by omega)) rfl)) | (have e := rmC_6 (xs := xs) (ds := ds) (pr := pr) (by omega) (fun h => by first | (have := h.1 i (by omega); omega) | (have ei : xs.length = i := (by omega); rw [ei] at h; exact h.2 (by omega))); exact fTup1 (fI (by rw [if_neg (by omega)])) (fTup1 (fI (by omega)) rfl)) | (have ei : xs.length = i := (by omega); have e := rmC_0 (xs := xs) (ds := ds) (pr := pr) (by omega) (fun j hj => hJ j (by omega)) (by rw [ei]; omega); exact fTup1 (fI (by rw [if_pos e, ei]; assumption)) (fTup1 (fI (by omega)) rfl))

-- laws.FnExactReturnMix
set_option maxRecDepth 20000 in
set_option maxHeartbeats 2000000 in
theorem D_laws_FnExactReturnMix (xs : List Sb) (ds : List Int) (pr : Int) (hx : xs.length ≤ 2932031007402) (hz : ∀ (j : Nat) (x : Sb), xs[j]? = some x → x.id.size ≤ 140737488351232) (hd : ds.length ≤ 17592186044416) : Den Try.prog 10 [.lst 5 (xs.map sbA), .s (.int .i64 pr), .lst 1 (ds.map ci)] (.s (.bool true)) := by
  refine den_of_good Try.func10 (by decide) rfl (Nat.le_of_ble_eq_true rfl) (Nat.le_of_ble_eq_true rfl) ?_
  refine good_seq fun K1 hK1 => ?_
  refine good_region rfl ?_
  refine ev_q rfl (q_assign (by conv => lhs; whnf) ?_)
  refine ev_nil (hK1 _ ?_); clear hK1
  refine good_seq fun K2 hK2 => ?_
  refine good_seq fun K3 hK3 => ?_
  refine good_region rfl ?_
  refine ev_q rfl (q_move (by conv => lhs; whnf) ?_)
  refine ev_q rfl (q_len tEs37 rfl ?_)
  intro n4 hn4
  try simp only [List.length_map] at hn4
  refine ev_q rfl (q_int rfl rfl ?_)
  intro b5 hb5; cases b5
  · replace hb5 := dF hb5
    refine ev_nil (hK3 _ ?_); clear hK3
    refine good_condF rfl ?_
    refine good_skip (hK2 _ ?_); clear hK2
    refine good_seq fun K6 hK6 => ?_
    refine good_region rfl ?_
    refine ev_q rfl (q_assign (by conv => lhs; whnf) ?_)
    refine ev_nil (hK6 _ ?_); clear hK6
    refine good_seq fun K7 hK7 => ?_
    refine good_region rfl ?_
    refine ev_q rfl (q_move (by conv => lhs; whnf) ?_)
    refine ev_q rfl (q_move (by conv => lhs; whnf) ?_)
    refine ev_q rfl (q_callI rfl rfl (rfl) (D_laws_szSubstationS _ _ hx hz (by omega)) ?_)
    intro n8 hn8
    refine ev_q rfl (q_assign (by conv => lhs; whnf) ?_)
    refine ev_nil (hK7 _ ?_); clear hK7
    refine good_seq fun K9 hK9 => ?_
    refine good_seq fun K10 hK10 => ?_
    refine good_region rfl ?_
    refine ev_q rfl (q_move (by conv => lhs; whnf) ?_)
    refine ev_q rfl (q_int rfl rfl ?_)
    intro b11 hb11; cases b11
    · replace hb11 := dF hb11
      refine ev_nil (hK10 _ ?_); clear hK10
      refine good_condF rfl ?_
      refine good_skip (hK9 _ ?_); clear hK9
      refine good_seq fun K12 hK12 => ?_
      refine good_region rfl ?_
      refine ev_q rfl (q_move (by conv => lhs; whnf) ?_)
      refine ev_q rfl (q_call rfl rfl (rfl) (D_laws_toSubstationS _ hx) rfl ?_)
      refine ev_q rfl (q_move (by conv => lhs; whnf) ?_)
      refine ev_q rfl (q_move (by conv => lhs; whnf) ?_)
      refine ev_q rfl (q_call rfl rfl (rfl) (D_laws_toInt64S ds hd) rfl ?_)
      refine ev_q rfl (q_call rfl rfl (rfl) (D_spec_ReturnMix xs ds pr hx hz hd) rfl ?_)
      refine ev_q rfl (q_move (by conv => lhs; whnf) ?_)
      refine ev_q rfl (q_extractI rfl rfl ?_)
      intro n13 hn13
      refine ev_q rfl (q_extractI rfl rfl ?_)
      intro n14 hn14
      refine ev_q rfl (q_assign (by conv => lhs; whnf) ?_)
      refine ev_q rfl (q_assign (by conv => lhs; whnf) ?_)
      refine ev_nil (hK12 _ ?_); clear hK12
      refine good_seq fun K15 hK15 => ?_
      refine good_region rfl ?_
      refine ev_q rfl (q_move (by conv => lhs; whnf) ?_)
      refine ev_q rfl (q_call rfl rfl (rfl) (D_laws_toSubstationS _ hx) rfl ?_)
      refine ev_q rfl (q_assign (by conv => lhs; whnf) ?_)
      refine ev_nil (hK15 _ ?_); clear hK15
      refine good_seq fun K16 hK16 => ?_
      refine good_region rfl ?_
      refine ev_q rfl (q_move (by conv => lhs; whnf) ?_)
      refine ev_q rfl (q_call rfl rfl (rfl) (D_laws_toInt64S ds hd) rfl ?_)
      refine ev_q rfl (q_assign (by conv => lhs; whnf) ?_)
      refine ev_nil (hK16 _ ?_); clear hK16
      refine good_seq fun K17 hK17 => ?_
      refine good_region rfl ?_
      refine ev_q rfl (q_move (by conv => lhs; whnf) ?_)
      refine ev_q rfl (q_move (by conv => lhs; whnf) ?_)
      refine ev_q rfl (q_move (by conv => lhs; whnf) ?_)
      refine ev_q rfl (q_call rfl rfl (rfl) (D_impl_ReturnMix xs ds pr hx hz hd) rfl ?_)
      refine ev_q rfl (q_move (by conv => lhs; whnf) ?_)
      refine ev_q rfl (q_extractI rfl rfl ?_)
      intro n18 hn18
      refine ev_q rfl (q_extractI rfl rfl ?_)
      intro n19 hn19
      refine ev_q rfl (q_assign (by conv => lhs; whnf) ?_)
      refine ev_q rfl (q_assign (by conv => lhs; whnf) ?_)
      refine ev_nil (hK17 _ ?_); clear hK17
      refine good_seq fun K20 hK20 => ?_
      refine good_seq fun K21 hK21 => ?_
      refine good_region rfl ?_
      refine ev_q rfl (q_move (by conv => lhs; whnf) ?_)
      refine ev_q rfl (q_move (by conv => lhs; whnf) ?_)
      refine ev_q rfl (q_int rfl rfl ?_)
      intro b22 hb22; cases b22
      · replace hb22 := neF hb22
        refine ev_q rfl (q_move (by conv => lhs; whnf) ?_)
        refine ev_q rfl (q_move (by conv => lhs; whnf) ?_)
        refine ev_q rfl (q_move (by conv => lhs; whnf) ?_)
        refine ev_q rfl (q_int rfl rfl ?_)
        intro b23 hb23; cases b23
        · replace hb23 := neF hb23
          refine ev_q rfl (q_pickF rfl (by conv => lhs; whnf) ?_)
          refine ev_nil (hK21 _ ?_); clear hK21
          refine good_condF rfl ?_
          refine good_skip (hK20 _ ?_); clear hK20
          refine good_seq fun K24 hK24 => ?_
          refine good_seq fun K25 hK25 => ?_
          refine good_region rfl ?_
          refine ev_q rfl (q_move (by conv => lhs; whnf) ?_)
          refine ev_q rfl (q_move (by conv => lhs; whnf) ?_)
          refine ev_q rfl (q_call rfl rfl (rfl) (D_laws_toSubstationS _ hx) rfl ?_)
          refine ev_q rfl (q_callB rfl rfl (rfl) (D_laws_eqSubstationS _ hx) ?_)
          intro b26 hb26; cases b26
          · first | replace hb26 := dF hb26 | skip
            refine ev_q rfl (q_not rfl rfl ?_)
            refine ev_nil (hK25 _ ?_); clear hK25
            refine good_condT rfl ?_
            refine good_seq fun K27 hK27 => ?_
            refine good_region rfl ?_
            refine ev_q rfl (q_assign (by conv => lhs; whnf) ?_)
            refine ev_nil (hK27 _ ?_); clear hK27
            refine good_ret ?_
            repeat (first | refine thenQ_ret ?_ | refine blockQ_ret ?_)
            refine ret_tmp (st := _) rfl (by conv => lhs; whnf) rfl ?_
            clear hK24
            first | rfl | (exfalso; first | omega | contradiction | grind)
          · first | replace hb26 := dT hb26 | skip
            refine ev_q rfl (q_not rfl rfl ?_)
            refine ev_nil (hK25 _ ?_); clear hK25
            refine good_condF rfl ?_
            refine good_skip (hK24 _ ?_); clear hK24
            refine good_seq fun K28 hK28 => ?_
            refine good_seq fun K29 hK29 => ?_
            refine good_region rfl ?_
            refine ev_q rfl (q_move (by conv => lhs; whnf) ?_)
            refine ev_q rfl (q_move (by conv => lhs; whnf) ?_)
            refine ev_q rfl (q_call rfl rfl (rfl) (D_laws_toInt64S ds hd) rfl ?_)
            refine ev_q rfl (q_callB rfl rfl (rfl) (D_laws_eqInt64S ds hd) ?_)
            intro b30 hb30; cases b30
            · first | replace hb30 := dF hb30 | skip
              refine ev_q rfl (q_not rfl rfl ?_)
              refine ev_nil (hK29 _ ?_); clear hK29
              refine good_condT rfl ?_
              refine good_seq fun K31 hK31 => ?_
              refine good_region rfl ?_
              refine ev_q rfl (q_assign (by conv => lhs; whnf) ?_)
              refine ev_nil (hK31 _ ?_); clear hK31
              refine good_ret ?_
              repeat (first | refine thenQ_ret ?_ | refine blockQ_ret ?_)
              refine ret_tmp (st := _) rfl (by conv => lhs; whnf) rfl ?_
              clear hK28
              first | rfl | (exfalso; first | omega | contradiction | grind)
            · first | replace hb30 := dT hb30 | skip
              refine ev_q rfl (q_not rfl rfl ?_)
              refine ev_nil (hK29 _ ?_); clear hK29
              refine good_condF rfl ?_
              refine good_skip (hK28 _ ?_); clear hK28
              refine good_seq fun K32 hK32 => ?_
              refine good_region rfl ?_
              refine ev_q rfl (q_assign (by conv => lhs; whnf) ?_)
              refine ev_nil (hK32 _ ?_); clear hK32
              refine good_ret ?_
              repeat (first | refine thenQ_ret ?_ | refine blockQ_ret ?_)
              refine ret_tmp (st := _) rfl (by conv => lhs; whnf) rfl ?_
              first | rfl | (exfalso; first | omega | contradiction | grind)
        · replace hb23 := neT hb23
          refine ev_q rfl (q_pickF rfl (by conv => lhs; whnf) ?_)
          refine ev_nil (hK21 _ ?_); clear hK21
          refine good_condT rfl ?_
          refine good_seq fun K33 hK33 => ?_
          refine good_region rfl ?_
          refine ev_q rfl (q_assign (by conv => lhs; whnf) ?_)
          refine ev_nil (hK33 _ ?_); clear hK33
          refine good_ret ?_
          repeat (first | refine thenQ_ret ?_ | refine blockQ_ret ?_)
          refine ret_tmp (st := _) rfl (by conv => lhs; whnf) rfl ?_
          clear hK20
          first | rfl | (exfalso; first | omega | contradiction | grind)
      · replace hb22 := neT hb22
        refine ev_q rfl (q_move (by conv => lhs; whnf) ?_)
        refine ev_skip rfl ?_
        refine ev_skip rfl ?_
        refine ev_skip rfl ?_
        refine ev_q rfl (q_pickT rfl (by conv => lhs; whnf) ?_)
        refine ev_nil (hK21 _ ?_); clear hK21
        refine good_condT rfl ?_
        refine good_seq fun K34 hK34 => ?_
        refine good_region rfl ?_
        refine ev_q rfl (q_assign (by conv => lhs; whnf) ?_)
        refine ev_nil (hK34 _ ?_); clear hK34
        refine good_ret ?_
        repeat (first | refine thenQ_ret ?_ | refine blockQ_ret ?_)
        refine ret_tmp (st := _) rfl (by conv => lhs; whnf) rfl ?_
        clear hK20
        first | rfl | (exfalso; first | omega | contradiction | grind)
    · replace hb11 := dT hb11
      refine ev_nil (hK10 _ ?_); clear hK10
      refine good_condT rfl ?_
      refine good_seq fun K35 hK35 => ?_
      refine good_region rfl ?_
      refine ev_q rfl (q_assign (by conv => lhs; whnf) ?_)
      refine ev_nil (hK35 _ ?_); clear hK35
      refine good_ret ?_
      repeat (first | refine thenQ_ret ?_ | refine blockQ_ret ?_)
      refine ret_tmp (st := _) rfl (by conv => lhs; whnf) rfl ?_
      clear hK9
      first | rfl | (exfalso; first | omega | contradiction | grind)
  · replace hb5 := dT hb5
    refine ev_nil (hK3 _ ?_); clear hK3
    refine good_condT rfl ?_
    refine good_seq fun K36 hK36 => ?_
    refine good_region rfl ?_
    refine ev_q rfl (q_assign (by conv => lhs; whnf) ?_)
    refine ev_nil (hK36 _ ?_); clear hK36
    refine good_ret ?_
    repeat (first | refine thenQ_ret ?_ | refine blockQ_ret ?_)
    refine ret_tmp (st := _) rfl (by conv => lhs; whnf) rfl ?_
    clear hK2
    first | rfl | (exfalso; first | omega | contradiction | grind)

end Go.Proofs.Ythhajcpgbcpbmaa.DFnExactReturnMix
