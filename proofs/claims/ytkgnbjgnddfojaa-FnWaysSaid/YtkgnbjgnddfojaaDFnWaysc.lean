/- Walks through the functions that FnWays reaches: what each answers. -/
import Derived.Test.YtkgnbjgnddfojaaDFnWaysb
set_option linter.unusedVariables false
set_option linter.unusedSimpArgs false
set_option maxRecDepth 20000
set_option maxHeartbeats 2000000
namespace Go.Proofs.Ytkgnbjgnddfojaa.DFnWays
open Go Go.RowKit Go.Proofs Go.Proofs.Ytkgnbjgnddfojaa Go.Proofs.Ytkgnbjgnddfojaa.Ev
-- spec.l04DrawTree
theorem D_spec_l04DrawTree (cs : List Int) (a s : Int) (hc : cs.length ≤ 17592186044416) (hb : byteL cs) (ha : 0 ≤ a ∧ a ≤ 1000000000000000000) : DenXR Try.prog 66 [(1000000, .box 154 (src cs a s))] [.ptr 1000000 0] (τ := List Int × List Pi × Int × Int) (fun (ns, ps, a1, s1) => DrT ns ps ∧ (a ≤ a1 ∧ a1 ≤ a + 200)) (fun (ns, ps, a1, s1) => [(1000000, .box 154 (src cs a1 s1)), (900001, .row 2 1 (ns.map ci)), (900002, .row 59 6 (ps.map piA))]) (fun (ns, ps, a1, s1) => .agg [.own 900001 ns.length, .own 900002 ps.length]) := by
  refine denXR_of_good Try.func66 (by decide) rfl (Nat.le_of_ble_eq_true rfl) (Nat.le_of_ble_eq_true rfl) rfl ?_
  refine good_seq fun K1 hK1 => ?_
  refine gr rfl ?_
  refine ev_k rfl (k_alloc zA31 rfl ?_)
  refine ev_nil (hK1 _ ?_); clear hK1
  refine good_seq fun K2 hK2 => ?_
  refine gr rfl ?_
  refine ev_k rfl (k_lit tE22 zA2 rfl rfl (by decide) (by decide) rfl rfl rfl ?_)
  refine ev_k rfl (k_lit tE29 zA59 rfl rfl (by decide) (by decide) rfl rfl rfl ?_)
  refine ev_k rfl (k_build zA31 pl31 (rfl) ?_)
  refine ev_k rfl (k_alloc zA31 rfl ?_)
  refine ev_k rfl (k_store sz31 rfl (by conv=>lhs;whnf) rfl rfl rfl (Nat.le_of_ble_eq_true rfl) rfl ?_)
  refine ev_nil (hK2 _ ?_); clear hK2
  refine good_seq fun K3 hK3 => ?_
  refine gr rfl ?_
  refine em rfl (by conv=>lhs;whnf) ?_
  refine ev_k rfl (k_callR [(1000000, 1000000)] (D_spec_l00Src_pick cs _ _ _ hc hb (by omega) (by omega)) rfl (rfl) (rfl) ⟨rfl, trivial⟩ rfl (by rintro ⟨v4, a4, s4⟩ ⟨hx4_0, hx4_1⟩; exact ⟨⟨rfl, rfl, trivial⟩, rfl⟩) rfl rfl ?_)
  rintro ⟨v4, a4, s4⟩ ⟨hx4_0, hx4_1⟩
  refine ei rfl rfl rfl ?_
  intro n5 hn5
  replace hn5 := in64 hn5 (by omega) (by omega)
  refine ea rfl (by conv=>lhs;whnf) ?_
  refine ev_nil (hK3 _ ?_); clear hK3
  refine good_seq fun K6 hK6 => ?_
  refine good_seq fun K7 hK7 => ?_
  refine gr rfl ?_
  refine ea rfl (by conv=>lhs;whnf) ?_
  refine ev_nil (hK7 _ ?_); clear hK7
  refine good_block ?_
  refine good_loop (α := List Int × Int × Int) (fun (xs, a1, s1) => { env := upd (upd (upd (upd (upd ((fun _ => .junk)) 0 (.ptr 1000000 0)) 2 (.ptr 2 0)) 3 (.ptr 3 0)) 4 (.s (.int .i64 (n5)))) 5 (.s (.int .i64 ((xs.length : Int)))), H := upd (upd (upd (upd (upd ((fun _ => none)) 10 (some (.row 59 6 ([])))) 27 (some (.row 2 1 (xs.map ci)))) 3 (some (.box 31 [.own 27 xs.length, .own 10 0]))) 2 (some (.box 31 [.nil, .nil]))) 1000000 (some (.box 154 (src cs a1 s1))) }) (fun (xs, a1, s1) => nsB xs ∧ xs.length ≤ n5 ∧ (a ≤ a1 ∧ a1 ≤ a + 2 + 2 * xs.length)) (fun (xs, a1, s1) => n5.toNat - xs.length) ([], a4, s4) ?_ ?_ ?_
  · exact ⟨fun x hx => (by cases hx), (by simp; omega), (by simp; omega)⟩
  · refine Sub.trans (sub_ren 9 27 (by decide) rfl (by decide) rfl) ?_
    refine sub_weak ?_ ?_
    · exact weakH_box (boxEq (rfl)) rfl (weakH_box (boxEq (rfl)) rfl (weakH_boxR (boxEq (rfl)) rfl (weakH_row (rowEq (rfl)) (weakH_row (rowEq (rfl)) (weakH_none _)))))
    · refine weakE_upd ?e5 ?r5 (weakE_upd ?e4 ?r4 (weakE_upd ?e3 ?r3 (weakE_upd ?e2 ?r2 (weakE_upd ?e0 ?r0 (weakE_junk _ _)))))
      case e0 => first | rfl | exact fI (by omega) | (simp_all)
      case r0 => intro h hh; simp [refs] at hh; subst hh; rfl
      case e2 => first | rfl | exact fI (by omega) | (simp_all)
      case r2 => intro h hh; simp [refs] at hh; subst hh; rfl
      case e3 => first | rfl | exact fI (by omega) | (simp_all)
      case r3 => intro h hh; simp [refs] at hh; subst hh; rfl
      case e4 => first | rfl | exact fI (by omega) | (simp_all)
      case r4 => intro h hh; cases hh
      case e5 => first | rfl | exact fI (by omega) | (first | rfl | exact fI (by simp; omega))
      case r5 => intro h hh; cases hh
  · rintro ⟨xs, a1, s1⟩ ⟨hx, hxl, hxa⟩
    refine good_seq fun K8 hK8 => ?_
    refine good_seq fun K9 hK9 => ?_
    refine gr rfl ?_
    refine em rfl (by conv=>lhs;whnf) ?_
    refine em rfl (by conv=>lhs;whnf) ?_
    refine ei rfl rfl rfl ?_
    intro b10 hb10; cases b10
    · replace hb10 := dF hb10
      refine ev_nil (hK9 _ ?_); clear hK9
      refine good_condF rfl ?_
      refine good_exit ?_
      repeat first|refine thenQ_exit ?_|refine blockQ_pass rfl ?_
      refine blockQ_exit (hK6 _ ?_); clear hK6
      refine good_seq fun K11 hK11 => ?_
      refine gr rfl ?_
      refine ev_k rfl (k_callX [(900001, 900010)] D_spec_l04Ids rfl (rfl) (rfl) trivial ⟨⟨rfl, show (900010 : Nat) < 1000000 by decide⟩, trivial⟩ rfl rfl rfl ?_)
      refine ea rfl (by conv=>lhs;whnf) ?_
      refine ev_nil (hK11 _ ?_); clear hK11
      refine good_seq fun K12 hK12 => ?_
      refine good_seq fun K13 hK13 => ?_
      refine gr rfl ?_
      refine ea rfl (by conv=>lhs;whnf) ?_
      refine ev_nil (hK13 _ ?_); clear hK13
      refine good_block ?_
      refine good_loop (α := List Pi × Int × Int) (fun (qs, a2, s2) => { env := upd (upd (upd (upd (upd (upd ((fun _ => .junk)) 0 (.ptr 1000000 0)) 2 (.ptr 2 0)) 3 (.ptr 3 0)) 4 (.s (.int .i64 (n5)))) 6 (.own 900010 12)) 7 (.s (.int .i64 ((qs.length : Int) + 1))), H := upd (upd (upd (upd (upd (upd ((fun _ => none)) 900010 (some (.row 9 1 (idL.map sAV)))) 52 (some (.row 59 6 (qs.map piA)))) 27 (some (.row 2 1 (xs.map ci)))) 3 (some (.box 31 [.own 27 xs.length, .own 52 qs.length]))) 2 (some (.box 31 [.nil, .nil]))) 1000000 (some (.box 154 (src cs a2 s2))) }) (fun (qs, a2, s2) => trA qs ∧ qs.length + 1 ≤ n5 ∧ (a ≤ a2 ∧ a2 ≤ a + 20 + 12 * qs.length)) (fun (qs, a2, s2) => n5.toNat - qs.length) ([], a1, s1) ?_ ?_ ?_
      · exact ⟨fun i p h => (by simp at h), (by simp; omega), (by simp; omega)⟩
      · refine Sub.trans (sub_ren 10 52 (by decide) rfl (by decide) rfl) ?_
        refine sub_weak ?_ ?_
        · exact weakH_box (boxEq (rfl)) rfl (weakH_box (boxEq (rfl)) rfl (weakH_boxR (boxEq (rfl)) rfl (weakH_row (rowEq (rfl)) (weakH_row (rowEq (rfl)) (weakH_row (rowEq (rfl)) (weakH_none _))))))
        · refine weakE_upd ?e7 ?r7 (weakE_upd ?e6 ?r6 (weakE_upd ?e4 ?r4 (weakE_upd ?e3 ?r3 (weakE_upd ?e2 ?r2 (weakE_upd ?e0 ?r0 (weakE_junk _ _))))))
          case e0 => first | rfl | exact fI (by omega) | (simp_all)
          case r0 => intro h hh; simp [refs] at hh; subst hh; rfl
          case e2 => first | rfl | exact fI (by omega) | (simp_all)
          case r2 => intro h hh; simp [refs] at hh; subst hh; rfl
          case e3 => first | rfl | exact fI (by omega) | (simp_all)
          case r3 => intro h hh; simp [refs] at hh; subst hh; rfl
          case e4 => first | rfl | exact fI (by omega) | (simp_all)
          case r4 => intro h hh; cases hh
          case e6 => first | rfl | exact fI (by omega) | (simp_all)
          case r6 => intro h hh; simp [refs] at hh; subst hh; rfl
          case e7 => first | rfl | exact fI (by omega) | (first | rfl | exact fI (by simp; omega))
          case r7 => intro h hh; cases hh
      · rintro ⟨qs, a2, s2⟩ ⟨hq, hql, hqa⟩
        refine good_seq fun K14 hK14 => ?_
        refine good_seq fun K15 hK15 => ?_
        refine gr rfl ?_
        refine em rfl (by conv=>lhs;whnf) ?_
        refine em rfl (by conv=>lhs;whnf) ?_
        refine ei rfl rfl rfl ?_
        intro b16 hb16; cases b16
        · replace hb16 := dF hb16
          refine ev_nil (hK15 _ ?_); clear hK15
          refine good_condF rfl ?_
          refine good_exit ?_
          repeat first|refine thenQ_exit ?_|refine blockQ_pass rfl ?_
          refine blockQ_exit (hK12 _ ?_); clear hK12
          refine good_seq fun K17 hK17 => ?_
          refine gr rfl ?_
          refine ev_q rfl (q_loadA tA31 rfl rfl rfl ?_)
          refine ev_k rfl (k_store sz31 rfl (by conv=>lhs;whnf) rfl rfl rfl (Nat.le_of_ble_eq_true rfl) rfl ?_)
          refine ev_nil (hK17 _ ?_); clear hK17
          refine good_weak (sub_ren 27 900001 (by decide) rfl (by decide) rfl) ?_
          refine good_weak (sub_ren 52 900002 (by decide) rfl (by decide) rfl) ?_
          refine good_ret ?_
          repeat first|refine thenQ_ret ?_|refine blockQ_ret ?_
          clear hK8 hK14
          refine ex_4 (v := xs) (a := qs) (b := a2) (c := s2) ?hF ?hR
          case hF =>
            refine fx_cell rfl tA31 rfl rfl rfl ?_
            exact ⟨_, conv_eq (by first | rfl | exact fAgg1 (by first | rfl | exact ownEq (by first | done | omega | (simp; done)) | (simp_all; done)) (fAgg1 (by first | rfl | exact ownEq (by first | done | omega | (simp; done)) | (simp_all; done)) (rfl))), weakH_box (boxEq (by first | rfl | (rw [e]; done) | (rw [e]; rfl) | (simp_all; done))) rfl (weakH_row (rowEq (by first | rfl | (rw [e]; done) | (rw [e]; rfl) | (simp_all; done))) (weakH_row (rowEq (by first | rfl | (rw [e]; done) | (rw [e]; rfl) | (simp_all; done))) (weakH_none _))), refsIn_ok rfl⟩
          case hR =>
            exact ⟨⟨by omega, by omega, by omega, hx, hq⟩, by omega⟩
        · replace hb16 := dT hb16
          obtain ⟨nm, hnm⟩ : ∃ nm, idL[qs.length]? = some nm := ⟨_, List.getElem?_eq_getElem (by show _ < 12; omega)⟩
          refine ev_nil (hK15 _ ?_); clear hK15
          refine good_condT rfl ?_
          refine good_skip (hK14 _ ?_); clear hK14
          refine good_seq fun K18 hK18 => ?_
          refine good_block ?_
          refine good_seq fun K19 hK19 => ?_
          refine gr rfl ?_
          refine em rfl (by conv=>lhs;whnf) ?_
          refine em rfl (by conv=>lhs;whnf) ?_
          refine ev_k rfl (k_callR [(1000000, 1000000)] (D_spec_l00Src_pick cs _ _ _ hc hb (by omega) (by omega)) rfl (rfl) (rfl) ⟨rfl, trivial⟩ rfl (by rintro ⟨v20, a20, s20⟩ ⟨hx20_0, hx20_1⟩; exact ⟨⟨rfl, rfl, trivial⟩, rfl⟩) rfl rfl ?_)
          rintro ⟨v20, a20, s20⟩ ⟨hx20_0, hx20_1⟩
          refine ea rfl (by conv=>lhs;whnf) ?_
          refine ev_nil (hK19 _ ?_); clear hK19
          refine good_seq fun K21 hK21 => ?_
          refine gr rfl ?_
          refine em rfl (by conv=>lhs;whnf) ?_
          refine ev_k rfl (k_callR [(1000000, 1000000)] (D_spec_l00Src_one cs _ _ _ hc hb (by omega) (by omega)) rfl (rfl) (rfl) ⟨rfl, trivial⟩ rfl (by rintro ⟨v22, a22, s22⟩ ⟨hx22_0, hx22_1⟩; exact ⟨⟨rfl, rfl, trivial⟩, rfl⟩) rfl rfl ?_)
          rintro ⟨v22, a22, s22⟩ ⟨hx22_0, hx22_1⟩
          cases v22
          · refine ev_nil (hK21 _ ?_); clear hK21
            refine good_condF rfl ?_
            refine good_any 15 (listed := #[false, false, false, false, false, false, false, false, false, false, false, false, false, false, false]) rfl rfl hmix rfl ?_
            refine tn_first_q (i := 0) (listed' := #[true, false, false, false, false, false, false, false, false, false, false, false, false, false, false]) rfl rfl (by kernel_rfl) rfl (q_fieldAddrP fO31_1 rfl rfl ?_)
            refine tn_first_q (i := 2) (listed' := #[true, false, true, false, false, false, false, false, false, false, false, false, false, false, false]) rfl rfl (by kernel_rfl) rfl (q_move (by conv=>lhs;whnf) ?_)
            refine tn_first_q (i := 3) (listed' := #[true, false, true, true, false, false, false, false, false, false, false, false, false, false, false]) rfl rfl (by kernel_rfl) rfl (q_move (by conv=>lhs;whnf) ?_)
            refine tn_first_q (i := 4) (listed' := #[true, false, true, true, true, false, false, false, false, false, false, false, false, false, false]) rfl rfl (by kernel_rfl) rfl (q_move (by conv=>lhs;whnf) ?_)
            refine tn_first_q (i := 5) (listed' := #[true, false, true, true, true, true, false, false, false, false, false, false, false, false, false]) rfl rfl (by kernel_rfl) rfl (q_int rfl rfl ?_)
            intro n23 hn23
            replace hn23 := in64 hn23 (by omega) (by omega)
            refine tn_first_q (i := 6) (listed' := #[true, false, true, true, true, true, true, false, false, false, false, false, false, false, false]) rfl rfl (by kernel_rfl) rfl (q_idxO tE155 rfl rfl rfl (by omega) (by first | omega | (simp; omega)) rfl ?_)
            refine tn_first_q (i := 7) (listed' := #[true, false, true, true, true, true, true, true, false, false, false, false, false, false, false]) rfl rfl (by kernel_rfl) rfl (q_loadE tA9 rfl rfl (by exact idG hnm (by omega)) rfl ?_)
            refine tn_first_q (i := 8) (listed' := #[true, false, true, true, true, true, true, true, true, false, false, false, false, false, false]) rfl rfl (by kernel_rfl) rfl (q_move (by conv=>lhs;whnf) ?_)
            refine tn_first_q (i := 9) (listed' := #[true, false, true, true, true, true, true, true, true, true, false, false, false, false, false]) rfl rfl (by kernel_rfl) rfl (q_move (by conv=>lhs;whnf) ?_)
            refine tn_step [1, 10] (by kernel_rfl) rfl ?_
            refine ⟨?_, ?_, trivial⟩
            · refine tn_q (listed' := #[true, true, true, true, true, true, true, true, true, true, false, false, false, false, false]) rfl rfl rfl (q_load tA29 rfl ?_)
              refine tn_step [10] (by kernel_rfl) rfl ?_
              refine ⟨?_, trivial⟩
              refine tn_k (listed' := #[true, true, true, true, true, true, true, true, true, true, true, false, false, false, false]) rfl rfl rfl rfl (k_callR [(1000000, 1000000)] (D_spec_l03DrawOk cs _ _ _ _ _ hc hb (by omega)) rfl (rfl) (rfl) ⟨rfl, trivial⟩ rfl (by rintro ⟨v24, a24, s24⟩ ⟨hx24_0, hx24_1⟩; exact ⟨⟨rfl, rfl, trivial⟩, rfl⟩) rfl rfl ?_)
              rintro ⟨v24, a24, s24⟩ ⟨hx24_0, hx24_1⟩
              have hy := hx24_0
              refine tn_step [11] (by kernel_rfl) rfl ?_
              refine ⟨?_, trivial⟩
              refine tn_k (listed' := #[true, true, true, true, true, true, true, true, true, true, true, true, false, false, false]) rfl rfl rfl rfl (k_lit tE29 zA59 rfl rfl (by decide) (by decide) rfl rfl rfl ?_)
              refine tn_step [12] (by kernel_rfl) rfl ?_
              refine ⟨?_, trivial⟩
              refine tn_k (listed' := #[true, true, true, true, true, true, true, true, true, true, true, true, true, false, false]) rfl rfl rfl rfl (k_app tApp29 rfl rfl (by simp) rfl (.inl rfl) (by first | (simp [maxLen]; omega)) (by first | (simp; omega)) ?_)
              refine tn_first_q (i := 13) (listed' := #[true, true, true, true, true, true, true, true, true, true, true, true, true, true, false]) rfl rfl (by kernel_rfl) rfl (q_fieldAddrP fO31_1 rfl rfl ?_)
              refine tn_step [14] (by kernel_rfl) rfl ?_
              refine ⟨?_, trivial⟩
              refine tn_k (listed' := #[true, true, true, true, true, true, true, true, true, true, true, true, true, true, true]) rfl rfl rfl rfl (k_store sz29 rfl (by conv=>lhs;whnf) rfl rfl rfl (Nat.le_of_ble_eq_true rfl) rfl ?_)
              refine tn_end (by kernel_rfl) (hK18 _ ?_); clear hK18
              refine gr rfl ?_
              refine em rfl (by conv=>lhs;whnf) ?_
              refine ei rfl rfl rfl ?_
              intro n25 hn25
              replace hn25 := in64 hn25 (by omega) (by omega)
              refine ea rfl (by conv=>lhs;whnf) ?_
              refine ev_nil ?_
              clear hK8 hK12
              refine ⟨(qs ++ [v24], a24, s24), ?_, ?_, ?_⟩
              · exact ⟨trA_app hq ⟨by rw [hy.1]; exact hnm, hy.2.2.2, by have := hy.2.1; have := hy.2.2.1; omega⟩, by simp; omega, by first | omega | (simp; omega)⟩
              · first | (simp; omega) | omega
              · first | refine Sub.trans (sub_ren 66 52 (by decide) rfl (by decide) rfl) ?_ | skip
                refine sub_weak ?_ ?_
                · exact weakH_box (boxEq (rfl)) rfl (weakH_box (boxEq (rfl)) rfl (weakH_boxR (boxEq (by first | rfl | (simp only [List.length_append, List.length_map, List.length_cons, List.length_nil]; rfl))) rfl (weakH_row (rowEq (rfl)) (weakH_row (rowEq (by rw [List.map_append]; rfl)) (weakH_row (rowEq (rfl)) (weakH_none _))))))
                · refine weakE_upd ?e7 ?r7 (weakE_upd ?e6 ?r6 (weakE_upd ?e4 ?r4 (weakE_upd ?e3 ?r3 (weakE_upd ?e2 ?r2 (weakE_upd ?e0 ?r0 (weakE_junk _ _))))))
                  case e0 => first | rfl | exact fI (by omega) | (simp_all)
                  case r0 => intro h hh; simp [refs] at hh; subst hh; rfl
                  case e2 => first | rfl | exact fI (by omega) | (simp_all)
                  case r2 => intro h hh; simp [refs] at hh; subst hh; rfl
                  case e3 => first | rfl | exact fI (by omega) | (simp_all)
                  case r3 => intro h hh; simp [refs] at hh; subst hh; rfl
                  case e4 => first | rfl | exact fI (by omega) | (simp_all)
                  case r4 => intro h hh; cases hh
                  case e6 => first | rfl | exact fI (by omega) | (simp_all)
                  case r6 => intro h hh; simp [refs] at hh; subst hh; rfl
                  case e7 => first | rfl | exact fI (by omega) | (first | rfl | exact fI (by simp; omega))
                  case r7 => intro h hh; cases hh
            · refine tn_k (listed' := #[true, false, true, true, true, true, true, true, true, true, true, false, false, false, false]) rfl rfl rfl rfl (k_callR [(1000000, 1000000)] (D_spec_l03DrawOk cs _ _ _ _ _ hc hb (by omega)) rfl (rfl) (rfl) ⟨rfl, trivial⟩ rfl (by rintro ⟨v26, a26, s26⟩ ⟨hx26_0, hx26_1⟩; exact ⟨⟨rfl, rfl, trivial⟩, rfl⟩) rfl rfl ?_)
              rintro ⟨v26, a26, s26⟩ ⟨hx26_0, hx26_1⟩
              have hy := hx26_0
              refine tn_step [1, 11] (by kernel_rfl) rfl ?_
              refine ⟨?_, ?_, trivial⟩
              · refine tn_q (listed' := #[true, true, true, true, true, true, true, true, true, true, true, false, false, false, false]) rfl rfl rfl (q_load tA29 rfl ?_)
                refine tn_step [11] (by kernel_rfl) rfl ?_
                refine ⟨?_, trivial⟩
                refine tn_k (listed' := #[true, true, true, true, true, true, true, true, true, true, true, true, false, false, false]) rfl rfl rfl rfl (k_lit tE29 zA59 rfl rfl (by decide) (by decide) rfl rfl rfl ?_)
                refine tn_step [12] (by kernel_rfl) rfl ?_
                refine ⟨?_, trivial⟩
                refine tn_k (listed' := #[true, true, true, true, true, true, true, true, true, true, true, true, true, false, false]) rfl rfl rfl rfl (k_app tApp29 rfl rfl (by simp) rfl (.inl rfl) (by first | (simp [maxLen]; omega)) (by first | (simp; omega)) ?_)
                refine tn_first_q (i := 13) (listed' := #[true, true, true, true, true, true, true, true, true, true, true, true, true, true, false]) rfl rfl (by kernel_rfl) rfl (q_fieldAddrP fO31_1 rfl rfl ?_)
                refine tn_step [14] (by kernel_rfl) rfl ?_
                refine ⟨?_, trivial⟩
                refine tn_k (listed' := #[true, true, true, true, true, true, true, true, true, true, true, true, true, true, true]) rfl rfl rfl rfl (k_store sz29 rfl (by conv=>lhs;whnf) rfl rfl rfl (Nat.le_of_ble_eq_true rfl) rfl ?_)
                refine tn_end (by kernel_rfl) (hK18 _ ?_); clear hK18
                refine gr rfl ?_
                refine em rfl (by conv=>lhs;whnf) ?_
                refine ei rfl rfl rfl ?_
                intro n27 hn27
                replace hn27 := in64 hn27 (by omega) (by omega)
                refine ea rfl (by conv=>lhs;whnf) ?_
                refine ev_nil ?_
                clear hK8 hK12
                refine ⟨(qs ++ [v26], a26, s26), ?_, ?_, ?_⟩
                · exact ⟨trA_app hq ⟨by rw [hy.1]; exact hnm, hy.2.2.2, by have := hy.2.1; have := hy.2.2.1; omega⟩, by simp; omega, by first | omega | (simp; omega)⟩
                · first | (simp; omega) | omega
                · first | refine Sub.trans (sub_ren 66 52 (by decide) rfl (by decide) rfl) ?_ | skip
                  refine sub_weak ?_ ?_
                  · exact weakH_box (boxEq (rfl)) rfl (weakH_box (boxEq (rfl)) rfl (weakH_boxR (boxEq (by first | rfl | (simp only [List.length_append, List.length_map, List.length_cons, List.length_nil]; rfl))) rfl (weakH_row (rowEq (rfl)) (weakH_row (rowEq (by rw [List.map_append]; rfl)) (weakH_row (rowEq (rfl)) (weakH_none _))))))
                  · refine weakE_upd ?e7 ?r7 (weakE_upd ?e6 ?r6 (weakE_upd ?e4 ?r4 (weakE_upd ?e3 ?r3 (weakE_upd ?e2 ?r2 (weakE_upd ?e0 ?r0 (weakE_junk _ _))))))
                    case e0 => first | rfl | exact fI (by omega) | (simp_all)
                    case r0 => intro h hh; simp [refs] at hh; subst hh; rfl
                    case e2 => first | rfl | exact fI (by omega) | (simp_all)
                    case r2 => intro h hh; simp [refs] at hh; subst hh; rfl
                    case e3 => first | rfl | exact fI (by omega) | (simp_all)
                    case r3 => intro h hh; simp [refs] at hh; subst hh; rfl
                    case e4 => first | rfl | exact fI (by omega) | (simp_all)
                    case r4 => intro h hh; cases hh
                    case e6 => first | rfl | exact fI (by omega) | (simp_all)
                    case r6 => intro h hh; simp [refs] at hh; subst hh; rfl
                    case e7 => first | rfl | exact fI (by omega) | (first | rfl | exact fI (by simp; omega))
                    case r7 => intro h hh; cases hh
              · refine tn_k (listed' := #[true, false, true, true, true, true, true, true, true, true, true, true, false, false, false]) rfl rfl rfl rfl (k_lit tE29 zA59 rfl rfl (by decide) (by decide) rfl rfl rfl ?_)
                refine tn_first_q (i := 1) (listed' := #[true, true, true, true, true, true, true, true, true, true, true, true, false, false, false]) rfl rfl (by kernel_rfl) rfl (q_load tA29 rfl ?_)
                refine tn_step [12] (by kernel_rfl) rfl ?_
                refine ⟨?_, trivial⟩
                refine tn_k (listed' := #[true, true, true, true, true, true, true, true, true, true, true, true, true, false, false]) rfl rfl rfl rfl (k_app tApp29 rfl rfl (by simp) rfl (.inl rfl) (by first | (simp [maxLen]; omega)) (by first | (simp; omega)) ?_)
                refine tn_first_q (i := 13) (listed' := #[true, true, true, true, true, true, true, true, true, true, true, true, true, true, false]) rfl rfl (by kernel_rfl) rfl (q_fieldAddrP fO31_1 rfl rfl ?_)
                refine tn_step [14] (by kernel_rfl) rfl ?_
                refine ⟨?_, trivial⟩
                refine tn_k (listed' := #[true, true, true, true, true, true, true, true, true, true, true, true, true, true, true]) rfl rfl rfl rfl (k_store sz29 rfl (by conv=>lhs;whnf) rfl rfl rfl (Nat.le_of_ble_eq_true rfl) rfl ?_)
                refine tn_end (by kernel_rfl) (hK18 _ ?_); clear hK18
                refine gr rfl ?_
                refine em rfl (by conv=>lhs;whnf) ?_
                refine ei rfl rfl rfl ?_
                intro n28 hn28
                replace hn28 := in64 hn28 (by omega) (by omega)
                refine ea rfl (by conv=>lhs;whnf) ?_
                refine ev_nil ?_
                clear hK8 hK12
                refine ⟨(qs ++ [v26], a26, s26), ?_, ?_, ?_⟩
                · exact ⟨trA_app hq ⟨by rw [hy.1]; exact hnm, hy.2.2.2, by have := hy.2.1; have := hy.2.2.1; omega⟩, by simp; omega, by first | omega | (simp; omega)⟩
                · first | (simp; omega) | omega
                · first | refine Sub.trans (sub_ren 66 52 (by decide) rfl (by decide) rfl) ?_ | skip
                  refine sub_weak ?_ ?_
                  · exact weakH_box (boxEq (rfl)) rfl (weakH_box (boxEq (rfl)) rfl (weakH_boxR (boxEq (by first | rfl | (simp only [List.length_append, List.length_map, List.length_cons, List.length_nil]; rfl))) rfl (weakH_row (rowEq (rfl)) (weakH_row (rowEq (by rw [List.map_append]; rfl)) (weakH_row (rowEq (rfl)) (weakH_none _))))))
                  · refine weakE_upd ?e7 ?r7 (weakE_upd ?e6 ?r6 (weakE_upd ?e4 ?r4 (weakE_upd ?e3 ?r3 (weakE_upd ?e2 ?r2 (weakE_upd ?e0 ?r0 (weakE_junk _ _))))))
                    case e0 => first | rfl | exact fI (by omega) | (simp_all)
                    case r0 => intro h hh; simp [refs] at hh; subst hh; rfl
                    case e2 => first | rfl | exact fI (by omega) | (simp_all)
                    case r2 => intro h hh; simp [refs] at hh; subst hh; rfl
                    case e3 => first | rfl | exact fI (by omega) | (simp_all)
                    case r3 => intro h hh; simp [refs] at hh; subst hh; rfl
                    case e4 => first | rfl | exact fI (by omega) | (simp_all)
                    case r4 => intro h hh; cases hh
                    case e6 => first | rfl | exact fI (by omega) | (simp_all)
                    case r6 => intro h hh; simp [refs] at hh; subst hh; rfl
                    case e7 => first | rfl | exact fI (by omega) | (first | rfl | exact fI (by simp; omega))
                    case r7 => intro h hh; cases hh
          · refine ev_nil (hK21 _ ?_); clear hK21
            refine good_condT rfl ?_
            refine good_any 15 (listed := #[false, false, false, false, false, false, false, false, false, false, false, false, false, false, false]) rfl rfl hmix rfl ?_
            refine tn_first_q (i := 0) (listed' := #[true, false, false, false, false, false, false, false, false, false, false, false, false, false, false]) rfl rfl (by kernel_rfl) rfl (q_fieldAddrP fO31_1 rfl rfl ?_)
            refine tn_first_q (i := 2) (listed' := #[true, false, true, false, false, false, false, false, false, false, false, false, false, false, false]) rfl rfl (by kernel_rfl) rfl (q_move (by conv=>lhs;whnf) ?_)
            refine tn_first_q (i := 3) (listed' := #[true, false, true, true, false, false, false, false, false, false, false, false, false, false, false]) rfl rfl (by kernel_rfl) rfl (q_move (by conv=>lhs;whnf) ?_)
            refine tn_first_q (i := 4) (listed' := #[true, false, true, true, true, false, false, false, false, false, false, false, false, false, false]) rfl rfl (by kernel_rfl) rfl (q_move (by conv=>lhs;whnf) ?_)
            refine tn_first_q (i := 5) (listed' := #[true, false, true, true, true, true, false, false, false, false, false, false, false, false, false]) rfl rfl (by kernel_rfl) rfl (q_int rfl rfl ?_)
            intro n29 hn29
            replace hn29 := in64 hn29 (by omega) (by omega)
            refine tn_first_q (i := 6) (listed' := #[true, false, true, true, true, true, true, false, false, false, false, false, false, false, false]) rfl rfl (by kernel_rfl) rfl (q_idxO tE155 rfl rfl rfl (by omega) (by first | omega | (simp; omega)) rfl ?_)
            refine tn_first_q (i := 7) (listed' := #[true, false, true, true, true, true, true, true, false, false, false, false, false, false, false]) rfl rfl (by kernel_rfl) rfl (q_loadE tA9 rfl rfl (by exact idG hnm (by omega)) rfl ?_)
            refine tn_first_q (i := 8) (listed' := #[true, false, true, true, true, true, true, true, true, false, false, false, false, false, false]) rfl rfl (by kernel_rfl) rfl (q_move (by conv=>lhs;whnf) ?_)
            refine tn_first_q (i := 9) (listed' := #[true, false, true, true, true, true, true, true, true, true, false, false, false, false, false]) rfl rfl (by kernel_rfl) rfl (q_move (by conv=>lhs;whnf) ?_)
            refine tn_step [1, 10] (by kernel_rfl) rfl ?_
            refine ⟨?_, ?_, trivial⟩
            · refine tn_q (listed' := #[true, true, true, true, true, true, true, true, true, true, false, false, false, false, false]) rfl rfl rfl (q_load tA29 rfl ?_)
              refine tn_step [10] (by kernel_rfl) rfl ?_
              refine ⟨?_, trivial⟩
              refine tn_k (listed' := #[true, true, true, true, true, true, true, true, true, true, true, false, false, false, false]) rfl rfl rfl rfl (k_callR [(1000000, 1000000)] (D_spec_l03DrawOk cs _ _ _ _ _ hc hb (by omega)) rfl (rfl) (rfl) ⟨rfl, trivial⟩ rfl (by rintro ⟨v30, a30, s30⟩ ⟨hx30_0, hx30_1⟩; exact ⟨⟨rfl, rfl, trivial⟩, rfl⟩) rfl rfl ?_)
              rintro ⟨v30, a30, s30⟩ ⟨hx30_0, hx30_1⟩
              have hy := hx30_0
              refine tn_step [11] (by kernel_rfl) rfl ?_
              refine ⟨?_, trivial⟩
              refine tn_k (listed' := #[true, true, true, true, true, true, true, true, true, true, true, true, false, false, false]) rfl rfl rfl rfl (k_lit tE29 zA59 rfl rfl (by decide) (by decide) rfl rfl rfl ?_)
              refine tn_step [12] (by kernel_rfl) rfl ?_
              refine ⟨?_, trivial⟩
              refine tn_k (listed' := #[true, true, true, true, true, true, true, true, true, true, true, true, true, false, false]) rfl rfl rfl rfl (k_app tApp29 rfl rfl (by simp) rfl (.inr rfl) (by first | (simp [maxLen]; omega)) (by first | (simp; omega)) ?_)
              refine tn_first_q (i := 13) (listed' := #[true, true, true, true, true, true, true, true, true, true, true, true, true, true, false]) rfl rfl (by kernel_rfl) rfl (q_fieldAddrP fO31_1 rfl rfl ?_)
              refine tn_step [14] (by kernel_rfl) rfl ?_
              refine ⟨?_, trivial⟩
              refine tn_k (listed' := #[true, true, true, true, true, true, true, true, true, true, true, true, true, true, true]) rfl rfl rfl rfl (k_store sz29 rfl (by conv=>lhs;whnf) rfl rfl rfl (Nat.le_of_ble_eq_true rfl) rfl ?_)
              refine tn_end (by kernel_rfl) (hK18 _ ?_); clear hK18
              refine gr rfl ?_
              refine em rfl (by conv=>lhs;whnf) ?_
              refine ei rfl rfl rfl ?_
              intro n31 hn31
              replace hn31 := in64 hn31 (by omega) (by omega)
              refine ea rfl (by conv=>lhs;whnf) ?_
              refine ev_nil ?_
              clear hK8 hK12
              refine ⟨(qs ++ [v30], a30, s30), ?_, ?_, ?_⟩
              · exact ⟨trA_app hq ⟨by rw [hy.1]; exact hnm, hy.2.2.2, by have := hy.2.1; have := hy.2.2.1; omega⟩, by simp; omega, by first | omega | (simp; omega)⟩
              · first | (simp; omega) | omega
              · first | refine Sub.trans (sub_ren 66 52 (by decide) rfl (by decide) rfl) ?_ | skip
                refine sub_weak ?_ ?_
                · exact weakH_box (boxEq (rfl)) rfl (weakH_box (boxEq (rfl)) rfl (weakH_boxR (boxEq (by first | rfl | (simp only [List.length_append, List.length_map, List.length_cons, List.length_nil]; rfl))) rfl (weakH_row (rowEq (rfl)) (weakH_row (rowEq (by rw [List.map_append]; rfl)) (weakH_row (rowEq (rfl)) (weakH_none _))))))
                · refine weakE_upd ?e7 ?r7 (weakE_upd ?e6 ?r6 (weakE_upd ?e4 ?r4 (weakE_upd ?e3 ?r3 (weakE_upd ?e2 ?r2 (weakE_upd ?e0 ?r0 (weakE_junk _ _))))))
                  case e0 => first | rfl | exact fI (by omega) | (simp_all)
                  case r0 => intro h hh; simp [refs] at hh; subst hh; rfl
                  case e2 => first | rfl | exact fI (by omega) | (simp_all)
                  case r2 => intro h hh; simp [refs] at hh; subst hh; rfl
                  case e3 => first | rfl | exact fI (by omega) | (simp_all)
                  case r3 => intro h hh; simp [refs] at hh; subst hh; rfl
                  case e4 => first | rfl | exact fI (by omega) | (simp_all)
                  case r4 => intro h hh; cases hh
                  case e6 => first | rfl | exact fI (by omega) | (simp_all)
                  case r6 => intro h hh; simp [refs] at hh; subst hh; rfl
                  case e7 => first | rfl | exact fI (by omega) | (first | rfl | exact fI (by simp; omega))
                  case r7 => intro h hh; cases hh
            · refine tn_k (listed' := #[true, false, true, true, true, true, true, true, true, true, true, false, false, false, false]) rfl rfl rfl rfl (k_callR [(1000000, 1000000)] (D_spec_l03DrawOk cs _ _ _ _ _ hc hb (by omega)) rfl (rfl) (rfl) ⟨rfl, trivial⟩ rfl (by rintro ⟨v32, a32, s32⟩ ⟨hx32_0, hx32_1⟩; exact ⟨⟨rfl, rfl, trivial⟩, rfl⟩) rfl rfl ?_)
              rintro ⟨v32, a32, s32⟩ ⟨hx32_0, hx32_1⟩
              have hy := hx32_0
              refine tn_step [1, 11] (by kernel_rfl) rfl ?_
              refine ⟨?_, ?_, trivial⟩
              · refine tn_q (listed' := #[true, true, true, true, true, true, true, true, true, true, true, false, false, false, false]) rfl rfl rfl (q_load tA29 rfl ?_)
                refine tn_step [11] (by kernel_rfl) rfl ?_
                refine ⟨?_, trivial⟩
                refine tn_k (listed' := #[true, true, true, true, true, true, true, true, true, true, true, true, false, false, false]) rfl rfl rfl rfl (k_lit tE29 zA59 rfl rfl (by decide) (by decide) rfl rfl rfl ?_)
                refine tn_step [12] (by kernel_rfl) rfl ?_
                refine ⟨?_, trivial⟩
                refine tn_k (listed' := #[true, true, true, true, true, true, true, true, true, true, true, true, true, false, false]) rfl rfl rfl rfl (k_app tApp29 rfl rfl (by simp) rfl (.inr rfl) (by first | (simp [maxLen]; omega)) (by first | (simp; omega)) ?_)
                refine tn_first_q (i := 13) (listed' := #[true, true, true, true, true, true, true, true, true, true, true, true, true, true, false]) rfl rfl (by kernel_rfl) rfl (q_fieldAddrP fO31_1 rfl rfl ?_)
                refine tn_step [14] (by kernel_rfl) rfl ?_
                refine ⟨?_, trivial⟩
                refine tn_k (listed' := #[true, true, true, true, true, true, true, true, true, true, true, true, true, true, true]) rfl rfl rfl rfl (k_store sz29 rfl (by conv=>lhs;whnf) rfl rfl rfl (Nat.le_of_ble_eq_true rfl) rfl ?_)
                refine tn_end (by kernel_rfl) (hK18 _ ?_); clear hK18
                refine gr rfl ?_
                refine em rfl (by conv=>lhs;whnf) ?_
                refine ei rfl rfl rfl ?_
                intro n33 hn33
                replace hn33 := in64 hn33 (by omega) (by omega)
                refine ea rfl (by conv=>lhs;whnf) ?_
                refine ev_nil ?_
                clear hK8 hK12
                refine ⟨(qs ++ [v32], a32, s32), ?_, ?_, ?_⟩
                · exact ⟨trA_app hq ⟨by rw [hy.1]; exact hnm, hy.2.2.2, by have := hy.2.1; have := hy.2.2.1; omega⟩, by simp; omega, by first | omega | (simp; omega)⟩
                · first | (simp; omega) | omega
                · first | refine Sub.trans (sub_ren 66 52 (by decide) rfl (by decide) rfl) ?_ | skip
                  refine sub_weak ?_ ?_
                  · exact weakH_box (boxEq (rfl)) rfl (weakH_box (boxEq (rfl)) rfl (weakH_boxR (boxEq (by first | rfl | (simp only [List.length_append, List.length_map, List.length_cons, List.length_nil]; rfl))) rfl (weakH_row (rowEq (rfl)) (weakH_row (rowEq (by rw [List.map_append]; rfl)) (weakH_row (rowEq (rfl)) (weakH_none _))))))
                  · refine weakE_upd ?e7 ?r7 (weakE_upd ?e6 ?r6 (weakE_upd ?e4 ?r4 (weakE_upd ?e3 ?r3 (weakE_upd ?e2 ?r2 (weakE_upd ?e0 ?r0 (weakE_junk _ _))))))
                    case e0 => first | rfl | exact fI (by omega) | (simp_all)
                    case r0 => intro h hh; simp [refs] at hh; subst hh; rfl
                    case e2 => first | rfl | exact fI (by omega) | (simp_all)
                    case r2 => intro h hh; simp [refs] at hh; subst hh; rfl
                    case e3 => first | rfl | exact fI (by omega) | (simp_all)
                    case r3 => intro h hh; simp [refs] at hh; subst hh; rfl
                    case e4 => first | rfl | exact fI (by omega) | (simp_all)
                    case r4 => intro h hh; cases hh
                    case e6 => first | rfl | exact fI (by omega) | (simp_all)
                    case r6 => intro h hh; simp [refs] at hh; subst hh; rfl
                    case e7 => first | rfl | exact fI (by omega) | (first | rfl | exact fI (by simp; omega))
                    case r7 => intro h hh; cases hh
              · refine tn_k (listed' := #[true, false, true, true, true, true, true, true, true, true, true, true, false, false, false]) rfl rfl rfl rfl (k_lit tE29 zA59 rfl rfl (by decide) (by decide) rfl rfl rfl ?_)
                refine tn_first_q (i := 1) (listed' := #[true, true, true, true, true, true, true, true, true, true, true, true, false, false, false]) rfl rfl (by kernel_rfl) rfl (q_load tA29 rfl ?_)
                refine tn_step [12] (by kernel_rfl) rfl ?_
                refine ⟨?_, trivial⟩
                refine tn_k (listed' := #[true, true, true, true, true, true, true, true, true, true, true, true, true, false, false]) rfl rfl rfl rfl (k_app tApp29 rfl rfl (by simp) rfl (.inr rfl) (by first | (simp [maxLen]; omega)) (by first | (simp; omega)) ?_)
                refine tn_first_q (i := 13) (listed' := #[true, true, true, true, true, true, true, true, true, true, true, true, true, true, false]) rfl rfl (by kernel_rfl) rfl (q_fieldAddrP fO31_1 rfl rfl ?_)
                refine tn_step [14] (by kernel_rfl) rfl ?_
                refine ⟨?_, trivial⟩
                refine tn_k (listed' := #[true, true, true, true, true, true, true, true, true, true, true, true, true, true, true]) rfl rfl rfl rfl (k_store sz29 rfl (by conv=>lhs;whnf) rfl rfl rfl (Nat.le_of_ble_eq_true rfl) rfl ?_)
                refine tn_end (by kernel_rfl) (hK18 _ ?_); clear hK18
                refine gr rfl ?_
                refine em rfl (by conv=>lhs;whnf) ?_
                refine ei rfl rfl rfl ?_
                intro n34 hn34
                replace hn34 := in64 hn34 (by omega) (by omega)
                refine ea rfl (by conv=>lhs;whnf) ?_
                refine ev_nil ?_
                clear hK8 hK12
                refine ⟨(qs ++ [v32], a32, s32), ?_, ?_, ?_⟩
                · exact ⟨trA_app hq ⟨by rw [hy.1]; exact hnm, hy.2.2.2, by have := hy.2.1; have := hy.2.2.1; omega⟩, by simp; omega, by first | omega | (simp; omega)⟩
                · first | (simp; omega) | omega
                · first | refine Sub.trans (sub_ren 66 52 (by decide) rfl (by decide) rfl) ?_ | skip
                  refine sub_weak ?_ ?_
                  · exact weakH_box (boxEq (rfl)) rfl (weakH_box (boxEq (rfl)) rfl (weakH_boxR (boxEq (by first | rfl | (simp only [List.length_append, List.length_map, List.length_cons, List.length_nil]; rfl))) rfl (weakH_row (rowEq (rfl)) (weakH_row (rowEq (by rw [List.map_append]; rfl)) (weakH_row (rowEq (rfl)) (weakH_none _))))))
                  · refine weakE_upd ?e7 ?r7 (weakE_upd ?e6 ?r6 (weakE_upd ?e4 ?r4 (weakE_upd ?e3 ?r3 (weakE_upd ?e2 ?r2 (weakE_upd ?e0 ?r0 (weakE_junk _ _))))))
                    case e0 => first | rfl | exact fI (by omega) | (simp_all)
                    case r0 => intro h hh; simp [refs] at hh; subst hh; rfl
                    case e2 => first | rfl | exact fI (by omega) | (simp_all)
                    case r2 => intro h hh; simp [refs] at hh; subst hh; rfl
                    case e3 => first | rfl | exact fI (by omega) | (simp_all)
                    case r3 => intro h hh; simp [refs] at hh; subst hh; rfl
                    case e4 => first | rfl | exact fI (by omega) | (simp_all)
                    case r4 => intro h hh; cases hh
                    case e6 => first | rfl | exact fI (by omega) | (simp_all)
                    case r6 => intro h hh; simp [refs] at hh; subst hh; rfl
                    case e7 => first | rfl | exact fI (by omega) | (first | rfl | exact fI (by simp; omega))
                    case r7 => intro h hh; cases hh
    · replace hb10 := dT hb10
      refine ev_nil (hK9 _ ?_); clear hK9
      refine good_condT rfl ?_
      refine good_skip (hK8 _ ?_); clear hK8
      refine good_seq fun K35 hK35 => ?_
      refine good_block ?_
      refine good_any 10 (listed := #[false, false, false, false, false, false, false, false, false, false]) rfl rfl hmix rfl ?_
      refine tn_first_q (i := 0) (listed' := #[true, false, false, false, false, false, false, false, false, false]) rfl rfl (by kernel_rfl) rfl (q_fieldAddrP fO31_0 rfl rfl ?_)
      refine tn_first_q (i := 2) (listed' := #[true, false, true, false, false, false, false, false, false, false]) rfl rfl (by kernel_rfl) rfl (q_move (by conv=>lhs;whnf) ?_)
      refine tn_step [1, 3] (by kernel_rfl) rfl ?_
      refine ⟨?_, ?_, trivial⟩
      · refine tn_q (listed' := #[true, true, true, false, false, false, false, false, false, false]) rfl rfl rfl (q_load tA22 rfl ?_)
        refine tn_step [3] (by kernel_rfl) rfl ?_
        refine ⟨?_, trivial⟩
        refine tn_k (listed' := #[true, true, true, true, false, false, false, false, false, false]) rfl rfl rfl rfl (k_callR [(1000000, 1000000)] (D_spec_l00Src_pick cs _ _ _ hc hb (by omega) (by omega)) rfl (rfl) (rfl) ⟨rfl, trivial⟩ rfl (by rintro ⟨v36, a36, s36⟩ ⟨hx36_0, hx36_1⟩; exact ⟨⟨rfl, rfl, trivial⟩, rfl⟩) rfl rfl ?_)
        rintro ⟨v36, a36, s36⟩ ⟨hx36_0, hx36_1⟩
        refine tn_first_q (i := 4) (listed' := #[true, true, true, true, true, false, false, false, false, false]) rfl rfl (by kernel_rfl) rfl (q_int rfl rfl ?_)
        intro n37 hn37
        replace hn37 := in64 hn37 (by omega) (by omega)
        refine tn_first_q (i := 5) (listed' := #[true, true, true, true, true, true, false, false, false, false]) rfl rfl (by kernel_rfl) rfl (q_int rfl rfl ?_)
        intro n38 hn38
        replace hn38 := in64 hn38 (by omega) (by omega)
        refine tn_step [6] (by kernel_rfl) rfl ?_
        refine ⟨?_, trivial⟩
        refine tn_k (listed' := #[true, true, true, true, true, true, true, false, false, false]) rfl rfl rfl rfl (k_lit tE22 zA2 rfl rfl (by decide) (by decide) rfl rfl rfl ?_)
        refine tn_step [7] (by kernel_rfl) rfl ?_
        refine ⟨?_, trivial⟩
        refine tn_k (listed' := #[true, true, true, true, true, true, true, true, false, false]) rfl rfl rfl rfl (k_app tApp22 rfl rfl (by simp) rfl (.inr rfl) (by first | (simp [maxLen]; omega)) (by first | (simp; omega)) ?_)
        refine tn_first_q (i := 8) (listed' := #[true, true, true, true, true, true, true, true, true, false]) rfl rfl (by kernel_rfl) rfl (q_fieldAddrP fO31_0 rfl rfl ?_)
        refine tn_step [9] (by kernel_rfl) rfl ?_
        refine ⟨?_, trivial⟩
        refine tn_k (listed' := #[true, true, true, true, true, true, true, true, true, true]) rfl rfl rfl rfl (k_store sz22 rfl (by conv=>lhs;whnf) rfl rfl rfl (Nat.le_of_ble_eq_true rfl) rfl ?_)
        refine tn_end (by kernel_rfl) (hK35 _ ?_); clear hK35
        refine gr rfl ?_
        refine em rfl (by conv=>lhs;whnf) ?_
        refine ei rfl rfl rfl ?_
        intro n39 hn39
        replace hn39 := in64 hn39 (by omega) (by omega)
        refine ea rfl (by conv=>lhs;whnf) ?_
        refine ev_nil ?_
        clear hK6
        refine ⟨(xs ++ [n38], a36, s36), ?_, ?_, ?_⟩
        · exact ⟨nsB_app hx (by omega), by simp; omega, by first | omega | (simp; omega)⟩
        · first | (simp; omega) | omega
        · refine sub_weak ?_ ?_
          · exact weakH_box (boxEq (rfl)) rfl (weakH_box (boxEq (rfl)) rfl (weakH_boxR (boxEq (by first | rfl | (simp only [List.length_append, List.length_map, List.length_cons, List.length_nil]; rfl))) rfl (weakH_row (rowEq (by rw [List.map_append]; rfl)) (weakH_row (rowEq (rfl)) (weakH_none _)))))
          · refine weakE_upd ?e5 ?r5 (weakE_upd ?e4 ?r4 (weakE_upd ?e3 ?r3 (weakE_upd ?e2 ?r2 (weakE_upd ?e0 ?r0 (weakE_junk _ _)))))
            case e0 => first | rfl | exact fI (by omega) | (simp_all)
            case r0 => intro h hh; simp [refs] at hh; subst hh; rfl
            case e2 => first | rfl | exact fI (by omega) | (simp_all)
            case r2 => intro h hh; simp [refs] at hh; subst hh; rfl
            case e3 => first | rfl | exact fI (by omega) | (simp_all)
            case r3 => intro h hh; simp [refs] at hh; subst hh; rfl
            case e4 => first | rfl | exact fI (by omega) | (simp_all)
            case r4 => intro h hh; cases hh
            case e5 => first | rfl | exact fI (by omega) | (first | rfl | exact fI (by simp; omega))
            case r5 => intro h hh; cases hh
      · refine tn_k (listed' := #[true, false, true, true, false, false, false, false, false, false]) rfl rfl rfl rfl (k_callR [(1000000, 1000000)] (D_spec_l00Src_pick cs _ _ _ hc hb (by omega) (by omega)) rfl (rfl) (rfl) ⟨rfl, trivial⟩ rfl (by rintro ⟨v40, a40, s40⟩ ⟨hx40_0, hx40_1⟩; exact ⟨⟨rfl, rfl, trivial⟩, rfl⟩) rfl rfl ?_)
        rintro ⟨v40, a40, s40⟩ ⟨hx40_0, hx40_1⟩
        refine tn_first_q (i := 4) (listed' := #[true, false, true, true, true, false, false, false, false, false]) rfl rfl (by kernel_rfl) rfl (q_int rfl rfl ?_)
        intro n41 hn41
        replace hn41 := in64 hn41 (by omega) (by omega)
        refine tn_first_q (i := 5) (listed' := #[true, false, true, true, true, true, false, false, false, false]) rfl rfl (by kernel_rfl) rfl (q_int rfl rfl ?_)
        intro n42 hn42
        replace hn42 := in64 hn42 (by omega) (by omega)
        refine tn_step [1, 6] (by kernel_rfl) rfl ?_
        refine ⟨?_, ?_, trivial⟩
        · refine tn_q (listed' := #[true, true, true, true, true, true, false, false, false, false]) rfl rfl rfl (q_load tA22 rfl ?_)
          refine tn_step [6] (by kernel_rfl) rfl ?_
          refine ⟨?_, trivial⟩
          refine tn_k (listed' := #[true, true, true, true, true, true, true, false, false, false]) rfl rfl rfl rfl (k_lit tE22 zA2 rfl rfl (by decide) (by decide) rfl rfl rfl ?_)
          refine tn_step [7] (by kernel_rfl) rfl ?_
          refine ⟨?_, trivial⟩
          refine tn_k (listed' := #[true, true, true, true, true, true, true, true, false, false]) rfl rfl rfl rfl (k_app tApp22 rfl rfl (by simp) rfl (.inr rfl) (by first | (simp [maxLen]; omega)) (by first | (simp; omega)) ?_)
          refine tn_first_q (i := 8) (listed' := #[true, true, true, true, true, true, true, true, true, false]) rfl rfl (by kernel_rfl) rfl (q_fieldAddrP fO31_0 rfl rfl ?_)
          refine tn_step [9] (by kernel_rfl) rfl ?_
          refine ⟨?_, trivial⟩
          refine tn_k (listed' := #[true, true, true, true, true, true, true, true, true, true]) rfl rfl rfl rfl (k_store sz22 rfl (by conv=>lhs;whnf) rfl rfl rfl (Nat.le_of_ble_eq_true rfl) rfl ?_)
          refine tn_end (by kernel_rfl) (hK35 _ ?_); clear hK35
          refine gr rfl ?_
          refine em rfl (by conv=>lhs;whnf) ?_
          refine ei rfl rfl rfl ?_
          intro n43 hn43
          replace hn43 := in64 hn43 (by omega) (by omega)
          refine ea rfl (by conv=>lhs;whnf) ?_
          refine ev_nil ?_
          clear hK6
          refine ⟨(xs ++ [n42], a40, s40), ?_, ?_, ?_⟩
          · exact ⟨nsB_app hx (by omega), by simp; omega, by first | omega | (simp; omega)⟩
          · first | (simp; omega) | omega
          · refine sub_weak ?_ ?_
            · exact weakH_box (boxEq (rfl)) rfl (weakH_box (boxEq (rfl)) rfl (weakH_boxR (boxEq (by first | rfl | (simp only [List.length_append, List.length_map, List.length_cons, List.length_nil]; rfl))) rfl (weakH_row (rowEq (by rw [List.map_append]; rfl)) (weakH_row (rowEq (rfl)) (weakH_none _)))))
            · refine weakE_upd ?e5 ?r5 (weakE_upd ?e4 ?r4 (weakE_upd ?e3 ?r3 (weakE_upd ?e2 ?r2 (weakE_upd ?e0 ?r0 (weakE_junk _ _)))))
              case e0 => first | rfl | exact fI (by omega) | (simp_all)
              case r0 => intro h hh; simp [refs] at hh; subst hh; rfl
              case e2 => first | rfl | exact fI (by omega) | (simp_all)
              case r2 => intro h hh; simp [refs] at hh; subst hh; rfl
              case e3 => first | rfl | exact fI (by omega) | (simp_all)
              case r3 => intro h hh; simp [refs] at hh; subst hh; rfl
              case e4 => first | rfl | exact fI (by omega) | (simp_all)
              case r4 => intro h hh; cases hh
              case e5 => first | rfl | exact fI (by omega) | (first | rfl | exact fI (by simp; omega))
              case r5 => intro h hh; cases hh
        · refine tn_k (listed' := #[true, false, true, true, true, true, true, false, false, false]) rfl rfl rfl rfl (k_lit tE22 zA2 rfl rfl (by decide) (by decide) rfl rfl rfl ?_)
          refine tn_first_q (i := 1) (listed' := #[true, true, true, true, true, true, true, false, false, false]) rfl rfl (by kernel_rfl) rfl (q_load tA22 rfl ?_)
          refine tn_step [7] (by kernel_rfl) rfl ?_
          refine ⟨?_, trivial⟩
          refine tn_k (listed' := #[true, true, true, true, true, true, true, true, false, false]) rfl rfl rfl rfl (k_app tApp22 rfl rfl (by simp) rfl (.inr rfl) (by first | (simp [maxLen]; omega)) (by first | (simp; omega)) ?_)
          refine tn_first_q (i := 8) (listed' := #[true, true, true, true, true, true, true, true, true, false]) rfl rfl (by kernel_rfl) rfl (q_fieldAddrP fO31_0 rfl rfl ?_)
          refine tn_step [9] (by kernel_rfl) rfl ?_
          refine ⟨?_, trivial⟩
          refine tn_k (listed' := #[true, true, true, true, true, true, true, true, true, true]) rfl rfl rfl rfl (k_store sz22 rfl (by conv=>lhs;whnf) rfl rfl rfl (Nat.le_of_ble_eq_true rfl) rfl ?_)
          refine tn_end (by kernel_rfl) (hK35 _ ?_); clear hK35
          refine gr rfl ?_
          refine em rfl (by conv=>lhs;whnf) ?_
          refine ei rfl rfl rfl ?_
          intro n44 hn44
          replace hn44 := in64 hn44 (by omega) (by omega)
          refine ea rfl (by conv=>lhs;whnf) ?_
          refine ev_nil ?_
          clear hK6
          refine ⟨(xs ++ [n42], a40, s40), ?_, ?_, ?_⟩
          · exact ⟨nsB_app hx (by omega), by simp; omega, by first | omega | (simp; omega)⟩
          · first | (simp; omega) | omega
          · refine sub_weak ?_ ?_
            · exact weakH_box (boxEq (rfl)) rfl (weakH_box (boxEq (rfl)) rfl (weakH_boxR (boxEq (by first | rfl | (simp only [List.length_append, List.length_map, List.length_cons, List.length_nil]; rfl))) rfl (weakH_row (rowEq (by rw [List.map_append]; rfl)) (weakH_row (rowEq (rfl)) (weakH_none _)))))
            · refine weakE_upd ?e5 ?r5 (weakE_upd ?e4 ?r4 (weakE_upd ?e3 ?r3 (weakE_upd ?e2 ?r2 (weakE_upd ?e0 ?r0 (weakE_junk _ _)))))
              case e0 => first | rfl | exact fI (by omega) | (simp_all)
              case r0 => intro h hh; simp [refs] at hh; subst hh; rfl
              case e2 => first | rfl | exact fI (by omega) | (simp_all)
              case r2 => intro h hh; simp [refs] at hh; subst hh; rfl
              case e3 => first | rfl | exact fI (by omega) | (simp_all)
              case r3 => intro h hh; simp [refs] at hh; subst hh; rfl
              case e4 => first | rfl | exact fI (by omega) | (simp_all)
              case r4 => intro h hh; cases hh
              case e5 => first | rfl | exact fI (by omega) | (first | rfl | exact fI (by simp; omega))
              case r5 => intro h hh; cases hh

-- (*spec.l00Src).text
theorem D_spec_l00Src_text (cs : List Int) (a s : Int) (xs : List ByteArray) (hc : cs.length ≤ 17592186044416) (hb : byteL cs) (ha : 0 ≤ a ∧ a ≤ 3999999999999999998) (hx : 1 ≤ xs.length ∧ xs.length ≤ 1000000) (hz : ∀ x ∈ xs, x.size ≤ 100) : DenXR Try.prog 177 [(1000000, .box 154 (src cs a s)), (1000001, .row 9 1 (xs.map sAV))] [.ptr 1000000 0, .own 1000001 xs.length] (τ := ByteArray × Int × Int) (fun (v, a1, s1) => v.size ≤ 100 ∧ (a ≤ a1 ∧ a1 ≤ a + 2)) (fun (v, a1, s1) => [(1000000, .box 154 (src cs a1 s1)), (1000001, .row 9 1 (xs.map sAV))]) (fun (v, a1, s1) => .s (.string v)) := by
  refine denXR_of_good Try.func177 (by decide) rfl (Nat.le_of_ble_eq_true rfl) (Nat.le_of_ble_eq_true rfl) rfl ?_
  refine good_seq fun K1 hK1 => ?_
  refine gr rfl ?_
  refine ea rfl (by conv=>lhs;whnf) ?_
  refine ev_nil (hK1 _ ?_); clear hK1
  refine good_seq fun K2 hK2 => ?_
  refine gr rfl ?_
  refine em rfl (by conv=>lhs;whnf) ?_
  refine em rfl (by conv=>lhs;whnf) ?_
  refine em rfl (by conv=>lhs;whnf) ?_
  refine ev_q rfl (q_len tEs155 rfl ?_)
  intro n3 hn3
  try simp only [List.length_map] at hn3
  refine ev_k rfl (k_callR [(1000000, 1000000)] (D_spec_l00Src_pick cs _ _ _ hc hb (by omega) (by omega)) rfl (rfl) (rfl) ⟨rfl, trivial⟩ rfl (by rintro ⟨v4, a4, s4⟩ ⟨hx4_0, hx4_1⟩; exact ⟨⟨rfl, rfl, trivial⟩, rfl⟩) rfl rfl ?_)
  rintro ⟨v4, a4, s4⟩ ⟨hx4_0, hx4_1⟩
  obtain ⟨p, hp⟩ := getL (xs := xs) (n := v4) (by omega) (by omega)
  refine ev_q rfl (q_idxO tE155 rfl rfl rfl (by omega) (by omega) rfl ?_)
  refine ev_q rfl (q_loadE tA9 rfl rfl (by exact map_get hp) rfl ?_)
  refine ea rfl (by conv=>lhs;whnf) ?_
  refine ev_nil (hK2 _ ?_); clear hK2
  refine good_ret ?_
  repeat first|refine thenQ_ret ?_|refine blockQ_ret ?_
  refine ex_3 (v := p) (a := a4) (b := s4) ?hF ?hR
  case hF =>
    refine fx_tmp rfl (by conv=>lhs;whnf) ?_
    exact ⟨_, conv_eq (by first | rfl | exact ownEq (by first | done | omega | (simp; done)) | (simp_all; done)), weakH_box (boxEq (by first | rfl | (rw [e]; done) | (rw [e]; rfl) | (simp_all; done))) rfl (weakH_row (rowEq (by first | rfl | (rw [e]; done) | (rw [e]; rfl) | (simp_all; done))) (weakH_none _)), refsIn_ok rfl⟩
  case hR =>
    exact ⟨hz _ (List.mem_of_getElem? hp), by omega, by omega⟩

-- spec.l03Bent
theorem D_spec_l03Bent (cs : List Int) (a s : Int) (hc : cs.length ≤ 17592186044416) (hb : byteL cs) (ha : 0 ≤ a ∧ a ≤ 3999999999999999980)  : DenXR Try.prog 143 [(1000000, .box 154 (src cs a s))] [.ptr 1000000 0] (τ := Pi × Int × Int) (fun (v, a1, s1) => (v.id.size ≤ 100) ∧ (a ≤ a1 ∧ a1 ≤ a + 20)) (fun (v, a1, s1) => [(1000000, .box 154 (src cs a1 s1))]) (fun (v, a1, s1) => .agg [.s (.string v.id), .s (.int .i64 (v.fm)), .s (.int .i64 (v.tt)), .s (.int .i64 (v.le)), .s (.int .i64 (v.di)), .s (.int .i64 (v.lo))]) := by
  refine denXR_of_good Try.func143 (by decide) rfl (Nat.le_of_ble_eq_true rfl) (Nat.le_of_ble_eq_true rfl) rfl ?_
  refine good_seq fun K1 hK1 => ?_
  refine gr rfl ?_
  refine ev_k rfl (k_alloc zA59 rfl ?_)
  refine ev_nil (hK1 _ ?_); clear hK1
  refine good_seq fun K2 hK2 => ?_
  refine gr rfl ?_
  refine em rfl (by conv=>lhs;whnf) ?_
  refine ev_k rfl (k_lit tE155 zA9 rfl rfl (by decide) (by decide) rfl rfl rfl ?_)
  refine ev_k rfl (k_callR [(1000000, 1000000), (1000001, 7)] (D_spec_l00Src_text cs _ _ [⟨#[97]⟩, ⟨#[98]⟩, ⟨#[109, 97, 105, 110]⟩, ⟨#[112, 105, 112, 101, 49]⟩] hc hb (by omega) (by decide) (by decide)) rfl (rfl) (rfl) ⟨rfl, ⟨rfl, trivial⟩⟩ rfl (by rintro ⟨v3, a3, s3⟩ ⟨hx3_0, hx3_1⟩; exact ⟨⟨rfl, rfl, ⟨rfl, ⟨rfl, rfl, by first | exact Nat.le_refl _ | (simp; done) | (simp; omega)⟩, trivial⟩⟩, rfl⟩) rfl rfl ?_)
  rintro ⟨v3, a3, s3⟩ ⟨hx3_0, hx3_1⟩
  have hzT := hx3_0
  refine ea rfl (by conv=>lhs;whnf) ?_
  refine ev_nil (hK2 _ ?_); clear hK2
  refine good_seq fun K4 hK4 => ?_
  refine gr rfl ?_
  refine em rfl (by conv=>lhs;whnf) ?_
  refine ev_k rfl (k_callR [(1000000, 1000000)] (D_spec_l00Src_pick cs _ _ _ hc hb (by omega) (by omega)) rfl (rfl) (rfl) ⟨rfl, trivial⟩ rfl (by rintro ⟨v5, a5, s5⟩ ⟨hx5_0, hx5_1⟩; exact ⟨⟨rfl, rfl, trivial⟩, rfl⟩) rfl rfl ?_)
  rintro ⟨v5, a5, s5⟩ ⟨hx5_0, hx5_1⟩
  refine ea rfl (by conv=>lhs;whnf) ?_
  refine ev_nil (hK4 _ ?_); clear hK4
  refine good_seq fun K6 hK6 => ?_
  refine gr rfl ?_
  refine em rfl (by conv=>lhs;whnf) ?_
  refine em rfl (by conv=>lhs;whnf) ?_
  refine em rfl (by conv=>lhs;whnf) ?_
  refine em rfl (by conv=>lhs;whnf) ?_
  refine ei rfl rfl rfl ?_
  intro n7 hn7
  replace hn7 := in64 hn7 (by omega) (by omega)
  refine em rfl (by conv=>lhs;whnf) ?_
  refine ev_k rfl (k_callR [(1000000, 1000000)] (D_spec_l00Src_pick cs _ _ _ hc hb (by omega) (by omega)) rfl (rfl) (rfl) ⟨rfl, trivial⟩ rfl (by rintro ⟨v8, a8, s8⟩ ⟨hx8_0, hx8_1⟩; exact ⟨⟨rfl, rfl, trivial⟩, rfl⟩) rfl rfl ?_)
  rintro ⟨v8, a8, s8⟩ ⟨hx8_0, hx8_1⟩
  refine ei rfl rfl rfl ?_
  intro n9 hn9
  replace hn9 := in64 hn9 (by omega) (by omega)
  refine ei rfl rfl rfl ⟨by omega, ?_⟩
  intro n10 hn10
  first | replace hn10 := remE hn10 (by omega) | skip
  refine ev_k rfl (k_callR [(1000000, 1000000)] (D_spec_l03DrawOk cs _ _ _ _ _ hc hb (by omega)) rfl (rfl) (rfl) ⟨rfl, trivial⟩ rfl (by rintro ⟨v11, a11, s11⟩ ⟨hx11_0, hx11_1⟩; exact ⟨⟨rfl, rfl, trivial⟩, rfl⟩) rfl rfl ?_)
  rintro ⟨v11, a11, s11⟩ ⟨hx11_0, hx11_1⟩
  have hz20 : v11.id.size ≤ 100 := by rw [hx11_0.1]; exact hzT
  refine ev_k rfl (k_alloc zA59 rfl ?_)
  refine ev_k rfl (k_store sz59 rfl (by conv=>lhs;whnf) rfl rfl rfl (Nat.le_of_ble_eq_true rfl) rfl ?_)
  refine ev_nil (hK6 _ ?_); clear hK6
  refine good_seq fun K12 hK12 => ?_
  refine good_seq fun K13 hK13 => ?_
  refine gr rfl ?_
  refine em rfl (by conv=>lhs;whnf) ?_
  refine ev_k rfl (k_callR [(1000000, 1000000)] (D_spec_l00Src_pick cs _ _ _ hc hb (by omega) (by omega)) rfl (rfl) (rfl) ⟨rfl, trivial⟩ rfl (by rintro ⟨v14, a14, s14⟩ ⟨hx14_0, hx14_1⟩; exact ⟨⟨rfl, rfl, trivial⟩, rfl⟩) rfl rfl ?_)
  rintro ⟨v14, a14, s14⟩ ⟨hx14_0, hx14_1⟩
  refine ev_nil (hK13 _ ?_); clear hK13
  refine good_block ?_
  refine good_seq fun K15 hK15 => ?_
  refine gr rfl ?_
  refine ei rfl rfl rfl ?_
  intro b16 hb16; cases b16
  · replace hb16 := eqF hb16
    refine ea rfl (by conv=>lhs;whnf) ?_
    refine ev_nil (hK15 _ ?_); clear hK15
    refine good_condF rfl ?_
    refine good_seq fun K17 hK17 => ?_
    refine gr rfl ?_
    refine ei rfl rfl rfl ?_
    intro b18 hb18; cases b18
    · replace hb18 := eqF hb18
      refine ea rfl (by conv=>lhs;whnf) ?_
      refine ev_nil (hK17 _ ?_); clear hK17
      refine good_condF rfl ?_
      refine good_seq fun K19 hK19 => ?_
      refine gr rfl ?_
      refine ei rfl rfl rfl ?_
      intro b20 hb20; cases b20
      · replace hb20 := eqF hb20
        refine ea rfl (by conv=>lhs;whnf) ?_
        refine ev_nil (hK19 _ ?_); clear hK19
        refine good_condF rfl ?_
        refine good_seq fun K21 hK21 => ?_
        refine gr rfl ?_
        refine ei rfl rfl rfl ?_
        intro b22 hb22; cases b22
        · replace hb22 := eqF hb22
          refine ea rfl (by conv=>lhs;whnf) ?_
          refine ev_nil (hK21 _ ?_); clear hK21
          refine good_condF rfl ?_
          refine good_seq fun K23 hK23 => ?_
          refine gr rfl ?_
          refine ei rfl rfl rfl ?_
          intro b24 hb24; cases b24
          · replace hb24 := eqF hb24
            refine ea rfl (by conv=>lhs;whnf) ?_
            refine ev_nil (hK23 _ ?_); clear hK23
            refine good_condF rfl ?_
            refine good_skip (hK12 _ ?_); clear hK12
            refine good_seq fun K25 hK25 => ?_
            refine gr rfl ?_
            refine ev_q rfl (q_loadA tA59 rfl rfl rfl ?_)
            refine ev_k rfl (k_store sz59 rfl (by conv=>lhs;whnf) rfl rfl rfl (Nat.le_of_ble_eq_true rfl) rfl ?_)
            refine ev_nil (hK25 _ ?_); clear hK25
            refine good_ret ?_
            repeat first|refine thenQ_ret ?_|refine blockQ_ret ?_
            refine ex_3 (v := v11) (a := a14) (b := s14) ?hF ?hR
            case hF =>
              refine fx_cell rfl tA59 rfl rfl rfl ?_
              exact ⟨_, conv_eq (by first | rfl | exact fAgg1 (by first | rfl | exact ownEq (by first | done | omega | (simp; done)) | (simp_all; done)) (fAgg1 (by first | rfl | exact fI (by first | omega | grind) | (exfalso; first | omega | grind)) (fAgg1 (by first | rfl | exact fI (by first | omega | grind) | (exfalso; first | omega | grind)) (fAgg1 (by first | rfl | exact fI (by first | omega | grind) | (exfalso; first | omega | grind)) (fAgg1 (by first | rfl | exact fI (by first | omega | grind) | (exfalso; first | omega | grind)) (fAgg1 (by first | rfl | exact fI (by first | omega | grind) | (exfalso; first | omega | grind)) (rfl))))))), weakH_box (boxEq (by first | rfl | (rw [e]; done) | (rw [e]; rfl) | (simp_all; done))) rfl (weakH_none _), refsIn_ok rfl⟩
            case hR =>
              exact ⟨by first | exact hz20 | (dsimp only; omega), by omega⟩
          · replace hb24 := eqT hb24
            refine ea rfl (by conv=>lhs;whnf) ?_
            refine ev_nil (hK23 _ ?_); clear hK23
            refine good_condT rfl ?_
            refine gr rfl ?_
            refine em rfl (by conv=>lhs;whnf) ?_
            refine ev_k rfl (k_lit tE155 zA9 rfl rfl (by decide) (by decide) rfl rfl rfl ?_)
            refine ev_k rfl (k_callR [(1000000, 1000000), (1000001, 52)] (D_spec_l00Src_text cs _ _ [⟨#[]⟩, ⟨#[65]⟩, ⟨#[97, 98, 99, 100, 101, 102, 103, 104, 105, 106, 107]⟩] hc hb (by omega) (by decide) (by decide)) rfl (rfl) (rfl) ⟨rfl, ⟨rfl, trivial⟩⟩ rfl (by rintro ⟨v26, a26, s26⟩ ⟨hx26_0, hx26_1⟩; exact ⟨⟨rfl, rfl, ⟨rfl, ⟨rfl, rfl, by first | exact Nat.le_refl _ | (simp; done) | (simp; omega)⟩, trivial⟩⟩, rfl⟩) rfl rfl ?_)
            rintro ⟨v26, a26, s26⟩ ⟨hx26_0, hx26_1⟩
            have hzT := hx26_0
            refine ev_q rfl (q_fieldAddrP fO59_0 rfl rfl ?_)
            refine ev_k rfl (k_store sz9 rfl (by conv=>lhs;whnf) rfl rfl rfl (Nat.le_of_ble_eq_true rfl) rfl ?_)
            refine ev_nil (hK12 _ ?_); clear hK12
            refine good_seq fun K27 hK27 => ?_
            refine gr rfl ?_
            refine ev_q rfl (q_loadA tA59 rfl rfl rfl ?_)
            refine ev_k rfl (k_store sz59 rfl (by conv=>lhs;whnf) rfl rfl rfl (Nat.le_of_ble_eq_true rfl) rfl ?_)
            refine ev_nil (hK27 _ ?_); clear hK27
            refine good_ret ?_
            repeat first|refine thenQ_ret ?_|refine blockQ_ret ?_
            refine ex_3 (v := ⟨v26, v11.fm, v11.tt, v11.le, v11.di, v11.lo⟩) (a := a26) (b := s26) ?hF ?hR
            case hF =>
              refine fx_cell rfl tA59 rfl rfl rfl ?_
              exact ⟨_, conv_eq (by first | rfl | exact fAgg1 (by first | rfl | exact ownEq (by first | done | omega | (simp; done)) | (simp_all; done)) (fAgg1 (by first | rfl | exact fI (by first | omega | grind) | (exfalso; first | omega | grind)) (fAgg1 (by first | rfl | exact fI (by first | omega | grind) | (exfalso; first | omega | grind)) (fAgg1 (by first | rfl | exact fI (by first | omega | grind) | (exfalso; first | omega | grind)) (fAgg1 (by first | rfl | exact fI (by first | omega | grind) | (exfalso; first | omega | grind)) (fAgg1 (by first | rfl | exact fI (by first | omega | grind) | (exfalso; first | omega | grind)) (rfl))))))), weakH_box (boxEq (by first | rfl | (rw [e]; done) | (rw [e]; rfl) | (simp_all; done))) rfl (weakH_none _), refsIn_ok rfl⟩
            case hR =>
              exact ⟨by first | exact hz20 | (dsimp only; omega), by omega⟩
        · replace hb22 := eqT hb22
          refine ea rfl (by conv=>lhs;whnf) ?_
          refine ev_nil (hK21 _ ?_); clear hK21
          refine good_condT rfl ?_
          refine gr rfl ?_
          refine em rfl (by conv=>lhs;whnf) ?_
          refine ev_k rfl (k_lit tE22 zA2 rfl rfl (by decide) (by decide) rfl rfl rfl ?_)
          refine ev_k rfl (k_callR [(1000000, 1000000), (1000001, 46)] (D_spec_l00Src_among cs _ _ [(-1), 0, 5000, 5001] hc hb (by omega) (by decide)) rfl (rfl) (rfl) ⟨rfl, ⟨rfl, trivial⟩⟩ rfl (by rintro ⟨v28, a28, s28⟩ ⟨hx28_0, hx28_1⟩; exact ⟨⟨rfl, rfl, ⟨rfl, ⟨rfl, rfl, by first | exact Nat.le_refl _ | (simp; done) | (simp; omega)⟩, trivial⟩⟩, rfl⟩) rfl rfl ?_)
          rintro ⟨v28, a28, s28⟩ ⟨hx28_0, hx28_1⟩
          simp only [List.mem_cons, List.not_mem_nil, or_false] at hx28_0
          refine ev_q rfl (q_fieldAddrP fO59_5 rfl rfl ?_)
          refine ev_k rfl (k_store sz2 rfl (by conv=>lhs;whnf) rfl rfl rfl (Nat.le_of_ble_eq_true rfl) rfl ?_)
          refine ev_nil (hK12 _ ?_); clear hK12
          refine good_seq fun K29 hK29 => ?_
          refine gr rfl ?_
          refine ev_q rfl (q_loadA tA59 rfl rfl rfl ?_)
          refine ev_k rfl (k_store sz59 rfl (by conv=>lhs;whnf) rfl rfl rfl (Nat.le_of_ble_eq_true rfl) rfl ?_)
          refine ev_nil (hK29 _ ?_); clear hK29
          refine good_ret ?_
          repeat first|refine thenQ_ret ?_|refine blockQ_ret ?_
          refine ex_3 (v := ⟨v11.id, v11.fm, v11.tt, v11.le, v11.di, v28⟩) (a := a28) (b := s28) ?hF ?hR
          case hF =>
            refine fx_cell rfl tA59 rfl rfl rfl ?_
            exact ⟨_, conv_eq (by first | rfl | exact fAgg1 (by first | rfl | exact ownEq (by first | done | omega | (simp; done)) | (simp_all; done)) (fAgg1 (by first | rfl | exact fI (by first | omega | grind) | (exfalso; first | omega | grind)) (fAgg1 (by first | rfl | exact fI (by first | omega | grind) | (exfalso; first | omega | grind)) (fAgg1 (by first | rfl | exact fI (by first | omega | grind) | (exfalso; first | omega | grind)) (fAgg1 (by first | rfl | exact fI (by first | omega | grind) | (exfalso; first | omega | grind)) (fAgg1 (by first | rfl | exact fI (by first | omega | grind) | (exfalso; first | omega | grind)) (rfl))))))), weakH_box (boxEq (by first | rfl | (rw [e]; done) | (rw [e]; rfl) | (simp_all; done))) rfl (weakH_none _), refsIn_ok rfl⟩
          case hR =>
            exact ⟨by first | exact hz20 | (dsimp only; omega), by omega⟩
      · replace hb20 := eqT hb20
        refine ea rfl (by conv=>lhs;whnf) ?_
        refine ev_nil (hK19 _ ?_); clear hK19
        refine good_condT rfl ?_
        refine gr rfl ?_
        refine em rfl (by conv=>lhs;whnf) ?_
        refine ev_k rfl (k_lit tE22 zA2 rfl rfl (by decide) (by decide) rfl rfl rfl ?_)
        refine ev_k rfl (k_callR [(1000000, 1000000), (1000001, 40)] (D_spec_l00Src_among cs _ _ [19, 20, 1000, 1001] hc hb (by omega) (by decide)) rfl (rfl) (rfl) ⟨rfl, ⟨rfl, trivial⟩⟩ rfl (by rintro ⟨v30, a30, s30⟩ ⟨hx30_0, hx30_1⟩; exact ⟨⟨rfl, rfl, ⟨rfl, ⟨rfl, rfl, by first | exact Nat.le_refl _ | (simp; done) | (simp; omega)⟩, trivial⟩⟩, rfl⟩) rfl rfl ?_)
        rintro ⟨v30, a30, s30⟩ ⟨hx30_0, hx30_1⟩
        simp only [List.mem_cons, List.not_mem_nil, or_false] at hx30_0
        refine ev_q rfl (q_fieldAddrP fO59_4 rfl rfl ?_)
        refine ev_k rfl (k_store sz2 rfl (by conv=>lhs;whnf) rfl rfl rfl (Nat.le_of_ble_eq_true rfl) rfl ?_)
        refine ev_nil (hK12 _ ?_); clear hK12
        refine good_seq fun K31 hK31 => ?_
        refine gr rfl ?_
        refine ev_q rfl (q_loadA tA59 rfl rfl rfl ?_)
        refine ev_k rfl (k_store sz59 rfl (by conv=>lhs;whnf) rfl rfl rfl (Nat.le_of_ble_eq_true rfl) rfl ?_)
        refine ev_nil (hK31 _ ?_); clear hK31
        refine good_ret ?_
        repeat first|refine thenQ_ret ?_|refine blockQ_ret ?_
        refine ex_3 (v := ⟨v11.id, v11.fm, v11.tt, v11.le, v30, v11.lo⟩) (a := a30) (b := s30) ?hF ?hR
        case hF =>
          refine fx_cell rfl tA59 rfl rfl rfl ?_
          exact ⟨_, conv_eq (by first | rfl | exact fAgg1 (by first | rfl | exact ownEq (by first | done | omega | (simp; done)) | (simp_all; done)) (fAgg1 (by first | rfl | exact fI (by first | omega | grind) | (exfalso; first | omega | grind)) (fAgg1 (by first | rfl | exact fI (by first | omega | grind) | (exfalso; first | omega | grind)) (fAgg1 (by first | rfl | exact fI (by first | omega | grind) | (exfalso; first | omega | grind)) (fAgg1 (by first | rfl | exact fI (by first | omega | grind) | (exfalso; first | omega | grind)) (fAgg1 (by first | rfl | exact fI (by first | omega | grind) | (exfalso; first | omega | grind)) (rfl))))))), weakH_box (boxEq (by first | rfl | (rw [e]; done) | (rw [e]; rfl) | (simp_all; done))) rfl (weakH_none _), refsIn_ok rfl⟩
        case hR =>
          exact ⟨by first | exact hz20 | (dsimp only; omega), by omega⟩
    · replace hb18 := eqT hb18
      refine ea rfl (by conv=>lhs;whnf) ?_
      refine ev_nil (hK17 _ ?_); clear hK17
      refine good_condT rfl ?_
      refine gr rfl ?_
      refine em rfl (by conv=>lhs;whnf) ?_
      refine ev_k rfl (k_lit tE22 zA2 rfl rfl (by decide) (by decide) rfl rfl rfl ?_)
      refine ev_k rfl (k_callR [(1000000, 1000000), (1000001, 34)] (D_spec_l00Src_among cs _ _ [0, 1, 10000, 10001] hc hb (by omega) (by decide)) rfl (rfl) (rfl) ⟨rfl, ⟨rfl, trivial⟩⟩ rfl (by rintro ⟨v32, a32, s32⟩ ⟨hx32_0, hx32_1⟩; exact ⟨⟨rfl, rfl, ⟨rfl, ⟨rfl, rfl, by first | exact Nat.le_refl _ | (simp; done) | (simp; omega)⟩, trivial⟩⟩, rfl⟩) rfl rfl ?_)
      rintro ⟨v32, a32, s32⟩ ⟨hx32_0, hx32_1⟩
      simp only [List.mem_cons, List.not_mem_nil, or_false] at hx32_0
      refine ev_q rfl (q_fieldAddrP fO59_3 rfl rfl ?_)
      refine ev_k rfl (k_store sz2 rfl (by conv=>lhs;whnf) rfl rfl rfl (Nat.le_of_ble_eq_true rfl) rfl ?_)
      refine ev_nil (hK12 _ ?_); clear hK12
      refine good_seq fun K33 hK33 => ?_
      refine gr rfl ?_
      refine ev_q rfl (q_loadA tA59 rfl rfl rfl ?_)
      refine ev_k rfl (k_store sz59 rfl (by conv=>lhs;whnf) rfl rfl rfl (Nat.le_of_ble_eq_true rfl) rfl ?_)
      refine ev_nil (hK33 _ ?_); clear hK33
      refine good_ret ?_
      repeat first|refine thenQ_ret ?_|refine blockQ_ret ?_
      refine ex_3 (v := ⟨v11.id, v11.fm, v11.tt, v32, v11.di, v11.lo⟩) (a := a32) (b := s32) ?hF ?hR
      case hF =>
        refine fx_cell rfl tA59 rfl rfl rfl ?_
        exact ⟨_, conv_eq (by first | rfl | exact fAgg1 (by first | rfl | exact ownEq (by first | done | omega | (simp; done)) | (simp_all; done)) (fAgg1 (by first | rfl | exact fI (by first | omega | grind) | (exfalso; first | omega | grind)) (fAgg1 (by first | rfl | exact fI (by first | omega | grind) | (exfalso; first | omega | grind)) (fAgg1 (by first | rfl | exact fI (by first | omega | grind) | (exfalso; first | omega | grind)) (fAgg1 (by first | rfl | exact fI (by first | omega | grind) | (exfalso; first | omega | grind)) (fAgg1 (by first | rfl | exact fI (by first | omega | grind) | (exfalso; first | omega | grind)) (rfl))))))), weakH_box (boxEq (by first | rfl | (rw [e]; done) | (rw [e]; rfl) | (simp_all; done))) rfl (weakH_none _), refsIn_ok rfl⟩
      case hR =>
        exact ⟨by first | exact hz20 | (dsimp only; omega), by omega⟩
  · replace hb16 := eqT hb16
    refine ea rfl (by conv=>lhs;whnf) ?_
    refine ev_nil (hK15 _ ?_); clear hK15
    refine good_condT rfl ?_
    refine gr rfl ?_
    refine em rfl (by conv=>lhs;whnf) ?_
    refine ev_q rfl (q_fieldAddrP fO59_1 rfl rfl ?_)
    refine ev_q rfl (q_load tA2 rfl ?_)
    refine ev_k rfl (k_lit tE22 zA2 rfl rfl (by decide) (by decide) rfl rfl rfl ?_)
    refine ev_k rfl (k_callR [(1000000, 1000000), (1000001, 28)] (D_spec_l00Src_among cs _ _ [v11.fm, 15, 16, -1] hc hb (by omega) (by simp)) rfl (rfl) (rfl) ⟨rfl, ⟨rfl, trivial⟩⟩ rfl (by rintro ⟨v34, a34, s34⟩ ⟨hx34_0, hx34_1⟩; exact ⟨⟨rfl, rfl, ⟨rfl, ⟨rfl, rfl, by first | exact Nat.le_refl _ | (simp; done) | (simp; omega)⟩, trivial⟩⟩, rfl⟩) rfl rfl ?_)
    rintro ⟨v34, a34, s34⟩ ⟨hx34_0, hx34_1⟩
    refine ev_q rfl (q_fieldAddrP fO59_2 rfl rfl ?_)
    refine ev_k rfl (k_store sz2 rfl (by conv=>lhs;whnf) rfl rfl rfl (Nat.le_of_ble_eq_true rfl) rfl ?_)
    refine ev_nil (hK12 _ ?_); clear hK12
    refine good_seq fun K35 hK35 => ?_
    refine gr rfl ?_
    refine ev_q rfl (q_loadA tA59 rfl rfl rfl ?_)
    refine ev_k rfl (k_store sz59 rfl (by conv=>lhs;whnf) rfl rfl rfl (Nat.le_of_ble_eq_true rfl) rfl ?_)
    refine ev_nil (hK35 _ ?_); clear hK35
    refine good_ret ?_
    repeat first|refine thenQ_ret ?_|refine blockQ_ret ?_
    refine ex_3 (v := ⟨v11.id, v11.fm, v34, v11.le, v11.di, v11.lo⟩) (a := a34) (b := s34) ?hF ?hR
    case hF =>
      refine fx_cell rfl tA59 rfl rfl rfl ?_
      exact ⟨_, conv_eq (by first | rfl | exact fAgg1 (by first | rfl | exact ownEq (by first | done | omega | (simp; done)) | (simp_all; done)) (fAgg1 (by first | rfl | exact fI (by first | omega | grind) | (exfalso; first | omega | grind)) (fAgg1 (by first | rfl | exact fI (by first | omega | grind) | (exfalso; first | omega | grind)) (fAgg1 (by first | rfl | exact fI (by first | omega | grind) | (exfalso; first | omega | grind)) (fAgg1 (by first | rfl | exact fI (by first | omega | grind) | (exfalso; first | omega | grind)) (fAgg1 (by first | rfl | exact fI (by first | omega | grind) | (exfalso; first | omega | grind)) (rfl))))))), weakH_box (boxEq (by first | rfl | (rw [e]; done) | (rw [e]; rfl) | (simp_all; done))) rfl (weakH_none _), refsIn_ok rfl⟩
    case hR =>
      exact ⟨by first | exact hz20 | (dsimp only; omega), by omega⟩

-- spec.l04DrawOk
theorem D_spec_l04DrawOk (cs : List Int) (a s : Int) (hc : cs.length ≤ 17592186044416) (hb : byteL cs) (ha : 0 ≤ a ∧ a ≤ 1000000000000000000) : DenXR Try.prog 142 [(1000000, .box 154 (src cs a s))] [.ptr 1000000 0] (τ := List Int × List Pi × Nat × Nat × Int × Int) (fun (ns, W, j, m, a1, s1) => ((2 ≤ ns.length ∧ ns.length ≤ 6) ∧ (j + m = W.length ∧ W.length ≤ 12) ∧ idSz W) ∧ (a ≤ a1 ∧ a1 ≤ a + 300)) (fun (ns, W, j, m, a1, s1) => [(1000000, .box 154 (src cs a1 s1)), (900001, .row 2 1 (ns.map ci)), (900002, .row 59 6 (W.map piA))]) (fun (ns, W, j, m, a1, s1) => .agg [.own 900001 ns.length, .osl 900002 j m]) := by
  refine denXR_of_good Try.func142 (by decide) rfl (Nat.le_of_ble_eq_true rfl) (Nat.le_of_ble_eq_true rfl) rfl ?_
  refine good_seq fun K1 hK1 => ?_
  refine gr rfl ?_
  refine ev_k rfl (k_alloc zA31 rfl ?_)
  refine ev_nil (hK1 _ ?_); clear hK1
  refine good_seq fun K2 hK2 => ?_
  refine gr rfl ?_
  refine em rfl (by conv=>lhs;whnf) ?_
  refine ev_k rfl (k_callR [(1000000, 1000000), (900001, 900001), (900002, 900002)] (D_spec_l04DrawTree cs _ _ hc hb (by omega)) rfl (rfl) (rfl) ⟨rfl, trivial⟩ rfl (by rintro ⟨n3, p3, a3, s3⟩ ⟨hx3_0, hx3_1⟩; exact ⟨⟨rfl, rfl, ⟨⟨rfl, show (900001 : Nat) < 1000000 by decide⟩, ⟨⟨rfl, show (900002 : Nat) < 1000000 by decide⟩, trivial⟩⟩⟩, rfl⟩) rfl rfl ?_)
  rintro ⟨n3, p3, a3, s3⟩ ⟨hx3_0, hx3_1⟩
  have hT := hx3_0
  have hT2 := hT.n2
  have hT6 := hT.n6
  have hTp := hT.pl
  have hTz := hT.idz
  refine ev_k rfl (k_alloc zA31 rfl ?_)
  refine ev_k rfl (k_store sz31 rfl (by conv=>lhs;whnf) rfl rfl rfl (Nat.le_of_ble_eq_true rfl) rfl ?_)
  refine ev_nil (hK2 _ ?_); clear hK2
  refine good_seq fun K4 hK4 => ?_
  refine gr rfl ?_
  refine ev_k rfl (k_callX [(900001, 900010)] D_spec_l04Ids rfl (rfl) (rfl) trivial ⟨⟨rfl, show (900010 : Nat) < 1000000 by decide⟩, trivial⟩ rfl rfl rfl ?_)
  refine ea rfl (by conv=>lhs;whnf) ?_
  refine ev_nil (hK4 _ ?_); clear hK4
  refine good_seq fun K5 hK5 => ?_
  refine good_seq fun K6 hK6 => ?_
  refine gr rfl ?_
  refine em rfl (by conv=>lhs;whnf) ?_
  refine ev_k rfl (k_callR [(1000000, 1000000)] (D_spec_l00Src_pick cs _ _ _ hc hb (by omega) (by omega)) rfl (rfl) (rfl) ⟨rfl, trivial⟩ rfl (by rintro ⟨v7, a7, s7⟩ ⟨hx7_0, hx7_1⟩; exact ⟨⟨rfl, rfl, trivial⟩, rfl⟩) rfl rfl ?_)
  rintro ⟨v7, a7, s7⟩ ⟨hx7_0, hx7_1⟩
  refine ea rfl (by conv=>lhs;whnf) ?_
  refine ev_nil (hK6 _ ?_); clear hK6
  refine good_block ?_
  refine good_loop (α := List Pi × Int × Int × Int) (fun (qs, k, a1, s1) => { env := upd (upd (upd (upd (upd ((fun _ => .junk)) 0 (.ptr 1000000 0)) 2 (.ptr 2 0)) 3 (.ptr 3 0)) 4 (.own 900010 12)) 5 (.s (.int .i64 k)), H := upd (upd (upd (upd (upd (upd ((fun _ => none)) 900010 (some (.row 9 1 (idL.map sAV)))) 900002 (some (.row 59 6 (qs.map piA)))) 900001 (some (.row 2 1 (n3.map ci)))) 3 (some (.box 31 [.own 900001 n3.length, .own 900002 qs.length]))) 2 (some (.box 31 [.nil, .nil]))) 1000000 (some (.box 154 (src cs a1 s1))) }) (fun (qs, k, a1, s1) => (qs.length ≤ 12 ∧ idSz qs) ∧ (0 ≤ k ∧ k ≤ 4) ∧ (a ≤ a1 ∧ a1 ≤ a + 250 - 10 * k)) (fun (qs, k, a1, s1) => k.toNat) (p3, v7, a7, s7) ?_ ?_ ?_
  · exact ⟨⟨by omega, hTz⟩, by omega, by omega⟩
  · refine sub_weak ?_ ?_
    · exact weakH_box (boxEq (rfl)) rfl (weakH_box (boxEq (rfl)) rfl (weakH_boxR (boxEq (rfl)) rfl (weakH_row (rowEq (rfl)) (weakH_row (rowEq (rfl)) (weakH_row (rowEq (rfl)) (weakH_none _))))))
    · refine weakE_upd ?e5 ?r5 (weakE_upd ?e4 ?r4 (weakE_upd ?e3 ?r3 (weakE_upd ?e2 ?r2 (weakE_upd ?e0 ?r0 (weakE_junk _ _)))))
      case e0 => first | rfl | exact fI (by omega) | (simp_all)
      case r0 => intro h hh; simp [refs] at hh; subst hh; rfl
      case e2 => first | rfl | exact fI (by omega) | (simp_all)
      case r2 => intro h hh; simp [refs] at hh; subst hh; rfl
      case e3 => first | rfl | exact fI (by omega) | (simp_all)
      case r3 => intro h hh; simp [refs] at hh; subst hh; rfl
      case e4 => first | rfl | exact fI (by omega) | (simp_all)
      case r4 => intro h hh; simp [refs] at hh; subst hh; rfl
      case e5 => first | rfl | exact fI (by omega) | (simp_all)
      case r5 => intro h hh; cases hh
  · rintro ⟨qs, k, a1, s1⟩ ⟨⟨hql, hqz⟩, hk, hqa⟩
    refine good_seq fun K8 hK8 => ?_
    refine good_seq fun K9 hK9 => ?_
    refine gr rfl ?_
    refine em rfl (by conv=>lhs;whnf) ?_
    refine ei rfl rfl rfl ?_
    intro b10 hb10; cases b10
    · replace hb10 := dF hb10
      refine ev_nil (hK9 _ ?_); clear hK9
      refine good_condF rfl ?_
      refine good_exit ?_
      repeat first|refine thenQ_exit ?_|refine blockQ_pass rfl ?_
      refine blockQ_exit (hK5 _ ?_); clear hK5
      refine good_seq fun K11 hK11 => ?_
      refine good_seq fun K12 hK12 => ?_
      refine gr rfl ?_
      refine em rfl (by conv=>lhs;whnf) ?_
      refine ev_k rfl (k_callR [(1000000, 1000000)] (D_spec_l00Src_one cs _ _ _ hc hb (by omega) (by omega)) rfl (rfl) (rfl) ⟨rfl, trivial⟩ rfl (by rintro ⟨v13, a13, s13⟩ ⟨hx13_0, hx13_1⟩; exact ⟨⟨rfl, rfl, trivial⟩, rfl⟩) rfl rfl ?_)
      rintro ⟨v13, a13, s13⟩ ⟨hx13_0, hx13_1⟩
      cases v13
      · refine em rfl (by conv=>lhs;whnf) ?_
        refine ev_skip rfl ?_
        refine ev_skip rfl ?_
        refine ev_skip rfl ?_
        refine ev_skip rfl ?_
        refine ev_q rfl (q_pickF rfl (by conv=>lhs;whnf) ?_)
        refine ev_nil (hK12 _ ?_); clear hK12
        refine good_condF rfl ?_
        refine good_skip (hK11 _ ?_); clear hK11
        refine good_seq fun K14 hK14 => ?_
        refine gr rfl ?_
        refine ev_q rfl (q_loadA tA31 rfl rfl rfl ?_)
        refine ev_k rfl (k_store sz31 rfl (by conv=>lhs;whnf) rfl rfl rfl (Nat.le_of_ble_eq_true rfl) rfl ?_)
        refine ev_nil (hK14 _ ?_); clear hK14
        try refine good_weak (sub_oslB 2 1 rfl rfl rfl) ?_
        refine good_ret ?_
        repeat first|refine thenQ_ret ?_|refine blockQ_ret ?_
        clear hK8
        refine ex_6 (v := n3) (a := qs) (b := 0) (c := qs.length) (d := a13) (e := s13) ?hF ?hR
        case hF =>
          refine fx_cell rfl tA31 rfl rfl rfl ?_
          exact ⟨_, conv_eq (by first | rfl | exact fAgg1 (by first | rfl | exact ownEq (by first | done | omega | (simp; done)) | (simp_all; done)) (fAgg1 (by first | rfl | exact ownEq (by first | done | omega | (simp; done)) | (simp_all; done)) (rfl))), weakH_box (boxEq (by first | rfl | (rw [e]; done) | (rw [e]; rfl) | (simp_all; done))) rfl (weakH_row (rowEq (by first | rfl | (rw [e]; done) | (rw [e]; rfl) | (simp_all; done))) (weakH_row (rowEq (by first | rfl | (rw [e]; done) | (rw [e]; rfl) | (simp_all; done))) (weakH_none _))), refsIn_ok rfl⟩
        case hR =>
          exact ⟨⟨⟨hT.n2, hT.n6⟩, by omega, hqz⟩, by omega⟩
      · refine em rfl (by conv=>lhs;whnf) ?_
        refine ev_q rfl (q_fieldAddrP fO31_1 rfl rfl ?_)
        refine ev_q rfl (q_load tA29 rfl ?_)
        refine ev_q rfl (q_len tEs29 rfl ?_)
        intro n15 hn15
        try simp only [List.length_map] at hn15
        refine ei rfl rfl rfl ?_
        intro b16 hb16; cases b16
        · replace hb16 := dF hb16
          refine ev_q rfl (q_pickT rfl (by conv=>lhs;whnf) ?_)
          refine ev_nil (hK12 _ ?_); clear hK12
          refine good_condF rfl ?_
          refine good_skip (hK11 _ ?_); clear hK11
          refine good_seq fun K17 hK17 => ?_
          refine gr rfl ?_
          refine ev_q rfl (q_loadA tA31 rfl rfl rfl ?_)
          refine ev_k rfl (k_store sz31 rfl (by conv=>lhs;whnf) rfl rfl rfl (Nat.le_of_ble_eq_true rfl) rfl ?_)
          refine ev_nil (hK17 _ ?_); clear hK17
          try refine good_weak (sub_oslB 2 1 rfl rfl rfl) ?_
          refine good_ret ?_
          repeat first|refine thenQ_ret ?_|refine blockQ_ret ?_
          clear hK8
          refine ex_6 (v := n3) (a := qs) (b := 0) (c := qs.length) (d := a13) (e := s13) ?hF ?hR
          case hF =>
            refine fx_cell rfl tA31 rfl rfl rfl ?_
            exact ⟨_, conv_eq (by first | rfl | exact fAgg1 (by first | rfl | exact ownEq (by first | done | omega | (simp; done)) | (simp_all; done)) (fAgg1 (by first | rfl | exact ownEq (by first | done | omega | (simp; done)) | (simp_all; done)) (rfl))), weakH_box (boxEq (by first | rfl | (rw [e]; done) | (rw [e]; rfl) | (simp_all; done))) rfl (weakH_row (rowEq (by first | rfl | (rw [e]; done) | (rw [e]; rfl) | (simp_all; done))) (weakH_row (rowEq (by first | rfl | (rw [e]; done) | (rw [e]; rfl) | (simp_all; done))) (weakH_none _))), refsIn_ok rfl⟩
          case hR =>
            exact ⟨⟨⟨hT.n2, hT.n6⟩, by omega, hqz⟩, by omega⟩
        · replace hb16 := dT hb16
          refine ev_q rfl (q_pickT rfl (by conv=>lhs;whnf) ?_)
          refine ev_nil (hK12 _ ?_); clear hK12
          refine good_condT rfl ?_
          refine gr rfl ?_
          refine ev_q rfl (q_fieldAddrP fO31_1 rfl rfl ?_)
          refine ev_q rfl (q_load tA29 rfl ?_)
          refine ev_q rfl (q_sliceO (j := 1) (m := qs.length - 1) tE29 rfl rfl rfl rfl (by omega) (by omega) (by omega) (by first | rfl | omega) (by first | rfl | omega) ?_)
          refine ev_q rfl (q_fieldAddrP fO31_1 rfl rfl ?_)
          refine ev_k rfl (k_store sz29 rfl (by conv=>lhs;whnf) rfl rfl rfl (Nat.le_of_ble_eq_true rfl) rfl ?_)
          refine ev_nil (hK11 _ ?_); clear hK11
          refine good_seq fun K18 hK18 => ?_
          refine gr rfl ?_
          refine ev_q rfl (q_loadA tA31 rfl rfl rfl ?_)
          refine ev_k rfl (k_store sz31 rfl (by conv=>lhs;whnf) rfl rfl rfl (Nat.le_of_ble_eq_true rfl) rfl ?_)
          refine ev_nil (hK18 _ ?_); clear hK18
          try refine good_weak (sub_oslB 2 1 rfl rfl rfl) ?_
          refine good_ret ?_
          repeat first|refine thenQ_ret ?_|refine blockQ_ret ?_
          clear hK8
          refine ex_6 (v := n3) (a := qs) (b := 1) (c := qs.length - 1) (d := a13) (e := s13) ?hF ?hR
          case hF =>
            refine fx_cell rfl tA31 rfl rfl rfl ?_
            exact ⟨_, conv_eq (by first | rfl | exact fAgg1 (by first | rfl | exact ownEq (by first | done | omega | (simp; done)) | (simp_all; done)) (fAgg1 (by first | rfl | exact ownEq (by first | done | omega | (simp; done)) | (simp_all; done)) (rfl))), weakH_box (boxEq (by first | rfl | (rw [e]; done) | (rw [e]; rfl) | (simp_all; done))) rfl (weakH_row (rowEq (by first | rfl | (rw [e]; done) | (rw [e]; rfl) | (simp_all; done))) (weakH_row (rowEq (by first | rfl | (rw [e]; done) | (rw [e]; rfl) | (simp_all; done))) (weakH_none _))), refsIn_ok rfl⟩
          case hR =>
            exact ⟨⟨⟨hT.n2, hT.n6⟩, by omega, hqz⟩, by omega⟩
    · replace hb10 := dT hb10
      refine ev_nil (hK9 _ ?_); clear hK9
      refine good_condT rfl ?_
      refine good_skip (hK8 _ ?_); clear hK8
      refine good_seq fun K19 hK19 => ?_
      refine good_block ?_
      refine good_seq fun K20 hK20 => ?_
      refine gr rfl ?_
      refine em rfl (by conv=>lhs;whnf) ?_
      refine ev_q rfl (q_fieldAddrP fO31_0 rfl rfl ?_)
      refine ev_q rfl (q_load tA22 rfl ?_)
      refine ev_q rfl (q_len tEs22 rfl ?_)
      intro n21 hn21
      try simp only [List.length_map] at hn21
      refine ev_k rfl (k_callR [(1000000, 1000000)] (D_spec_l00Src_pick cs _ _ _ hc hb (by omega) (by omega)) rfl (rfl) (rfl) ⟨rfl, trivial⟩ rfl (by rintro ⟨v22, a22, s22⟩ ⟨hx22_0, hx22_1⟩; exact ⟨⟨rfl, rfl, trivial⟩, rfl⟩) rfl rfl ?_)
      rintro ⟨v22, a22, s22⟩ ⟨hx22_0, hx22_1⟩
      refine ea rfl (by conv=>lhs;whnf) ?_
      refine ev_nil (hK20 _ ?_); clear hK20
      refine good_seq fun K23 hK23 => ?_
      refine gr rfl ?_
      refine em rfl (by conv=>lhs;whnf) ?_
      refine ev_q rfl (q_fieldAddrP fO31_0 rfl rfl ?_)
      refine ev_q rfl (q_load tA22 rfl ?_)
      refine ev_q rfl (q_len tEs22 rfl ?_)
      intro n24 hn24
      try simp only [List.length_map] at hn24
      refine ev_k rfl (k_callR [(1000000, 1000000)] (D_spec_l00Src_pick cs _ _ _ hc hb (by omega) (by omega)) rfl (rfl) (rfl) ⟨rfl, trivial⟩ rfl (by rintro ⟨v25, a25, s25⟩ ⟨hx25_0, hx25_1⟩; exact ⟨⟨rfl, rfl, trivial⟩, rfl⟩) rfl rfl ?_)
      rintro ⟨v25, a25, s25⟩ ⟨hx25_0, hx25_1⟩
      refine ea rfl (by conv=>lhs;whnf) ?_
      refine ev_nil (hK23 _ ?_); clear hK23
      refine good_seq fun K26 hK26 => ?_
      refine gr rfl ?_
      refine em rfl (by conv=>lhs;whnf) ?_
      refine em rfl (by conv=>lhs;whnf) ?_
      refine ei rfl rfl rfl ?_
      intro b27 hb27; cases b27
      · replace hb27 := neF hb27
        refine em rfl (by conv=>lhs;whnf) ?_
        refine ev_skip rfl ?_
        refine ev_skip rfl ?_
        refine ev_skip rfl ?_
        refine ev_skip rfl ?_
        refine ev_skip rfl ?_
        refine ev_skip rfl ?_
        refine ev_q rfl (q_pickF rfl (by conv=>lhs;whnf) ?_)
        refine ev_nil (hK26 _ ?_); clear hK26
        refine good_condF rfl ?_
        refine good_skip (hK19 _ ?_); clear hK19
        refine gr rfl ?_
        refine em rfl (by conv=>lhs;whnf) ?_
        refine ei rfl rfl rfl ?_
        intro n28 hn28
        replace hn28 := in64 hn28 (by omega) (by omega)
        refine ea rfl (by conv=>lhs;whnf) ?_
        refine ev_nil ?_
        clear hK5
        refine ⟨(qs, k - 1, a25, s25), ?_, ?_, ?_⟩
        · exact ⟨⟨hql, hqz⟩, by omega, by omega⟩
        · first | (simp; omega) | omega
        · first | refine Sub.trans (sub_ren 51 900002 (by decide) rfl (by decide) rfl) ?_ | skip
          refine sub_weak ?_ ?_
          · exact weakH_box (boxEq (rfl)) rfl (weakH_box (boxEq (rfl)) rfl (weakH_boxR (boxEq (by first | rfl | (simp only [List.length_append, List.length_map, List.length_cons, List.length_nil]; rfl))) rfl (weakH_row (rowEq (rfl)) (weakH_row (rowEq (by first | rfl | (rw [List.map_append]; rfl))) (weakH_row (rowEq (rfl)) (weakH_none _))))))
          · refine weakE_upd ?e5 ?r5 (weakE_upd ?e4 ?r4 (weakE_upd ?e3 ?r3 (weakE_upd ?e2 ?r2 (weakE_upd ?e0 ?r0 (weakE_junk _ _)))))
            case e0 => first | rfl | exact fI (by omega) | (simp_all)
            case r0 => intro h hh; simp [refs] at hh; subst hh; rfl
            case e2 => first | rfl | exact fI (by omega) | (simp_all)
            case r2 => intro h hh; simp [refs] at hh; subst hh; rfl
            case e3 => first | rfl | exact fI (by omega) | (simp_all)
            case r3 => intro h hh; simp [refs] at hh; subst hh; rfl
            case e4 => first | rfl | exact fI (by omega) | (simp_all)
            case r4 => intro h hh; simp [refs] at hh; subst hh; rfl
            case e5 => first | rfl | exact fI (by omega) | (simp_all)
            case r5 => intro h hh; cases hh
      · replace hb27 := neT hb27
        refine em rfl (by conv=>lhs;whnf) ?_
        refine ev_q rfl (q_fieldAddrP fO31_1 rfl rfl ?_)
        refine ev_q rfl (q_load tA29 rfl ?_)
        refine ev_q rfl (q_len tEs29 rfl ?_)
        intro n29 hn29
        try simp only [List.length_map] at hn29
        refine em rfl (by conv=>lhs;whnf) ?_
        refine ev_q rfl (q_len tEs155 rfl ?_)
        intro n30 hn30
        try simp only [List.length_map] at hn30
        refine ei rfl rfl rfl ?_
        intro b31 hb31; cases b31
        · replace hb31 := dF hb31
          refine ev_q rfl (q_pickT rfl (by conv=>lhs;whnf) ?_)
          refine ev_nil (hK26 _ ?_); clear hK26
          refine good_condF rfl ?_
          refine good_skip (hK19 _ ?_); clear hK19
          refine gr rfl ?_
          refine em rfl (by conv=>lhs;whnf) ?_
          refine ei rfl rfl rfl ?_
          intro n32 hn32
          replace hn32 := in64 hn32 (by omega) (by omega)
          refine ea rfl (by conv=>lhs;whnf) ?_
          refine ev_nil ?_
          clear hK5
          refine ⟨(qs, k - 1, a25, s25), ?_, ?_, ?_⟩
          · exact ⟨⟨hql, hqz⟩, by omega, by omega⟩
          · first | (simp; omega) | omega
          · first | refine Sub.trans (sub_ren 51 900002 (by decide) rfl (by decide) rfl) ?_ | skip
            refine sub_weak ?_ ?_
            · exact weakH_box (boxEq (rfl)) rfl (weakH_box (boxEq (rfl)) rfl (weakH_boxR (boxEq (by first | rfl | (simp only [List.length_append, List.length_map, List.length_cons, List.length_nil]; rfl))) rfl (weakH_row (rowEq (rfl)) (weakH_row (rowEq (by first | rfl | (rw [List.map_append]; rfl))) (weakH_row (rowEq (rfl)) (weakH_none _))))))
            · refine weakE_upd ?e5 ?r5 (weakE_upd ?e4 ?r4 (weakE_upd ?e3 ?r3 (weakE_upd ?e2 ?r2 (weakE_upd ?e0 ?r0 (weakE_junk _ _)))))
              case e0 => first | rfl | exact fI (by omega) | (simp_all)
              case r0 => intro h hh; simp [refs] at hh; subst hh; rfl
              case e2 => first | rfl | exact fI (by omega) | (simp_all)
              case r2 => intro h hh; simp [refs] at hh; subst hh; rfl
              case e3 => first | rfl | exact fI (by omega) | (simp_all)
              case r3 => intro h hh; simp [refs] at hh; subst hh; rfl
              case e4 => first | rfl | exact fI (by omega) | (simp_all)
              case r4 => intro h hh; simp [refs] at hh; subst hh; rfl
              case e5 => first | rfl | exact fI (by omega) | (simp_all)
              case r5 => intro h hh; cases hh
        · replace hb31 := dT hb31
          refine ev_q rfl (q_pickT rfl (by conv=>lhs;whnf) ?_)
          refine ev_nil (hK26 _ ?_); clear hK26
          refine good_condT rfl ?_
          refine good_any 16 (listed := #[false, false, false, false, false, false, false, false, false, false, false, false, false, false, false, false]) rfl rfl hmix rfl ?_
          refine tn_first_q (i := 0) (listed' := #[true, false, false, false, false, false, false, false, false, false, false, false, false, false, false, false]) rfl rfl (by kernel_rfl) rfl (q_fieldAddrP fO31_1 rfl rfl ?_)
          refine tn_first_q (i := 2) (listed' := #[true, false, true, false, false, false, false, false, false, false, false, false, false, false, false, false]) rfl rfl (by kernel_rfl) rfl (q_move (by conv=>lhs;whnf) ?_)
          refine tn_first_q (i := 3) (listed' := #[true, false, true, true, false, false, false, false, false, false, false, false, false, false, false, false]) rfl rfl (by kernel_rfl) rfl (q_move (by conv=>lhs;whnf) ?_)
          refine tn_first_q (i := 4) (listed' := #[true, false, true, true, true, false, false, false, false, false, false, false, false, false, false, false]) rfl rfl (by kernel_rfl) rfl (q_fieldAddrP fO31_1 rfl rfl ?_)
          refine tn_first_q (i := 5) (listed' := #[true, false, true, true, true, true, false, false, false, false, false, false, false, false, false, false]) rfl rfl (by kernel_rfl) rfl (q_load tA29 rfl ?_)
          refine tn_first_q (i := 6) (listed' := #[true, false, true, true, true, true, true, false, false, false, false, false, false, false, false, false]) rfl rfl (by kernel_rfl) rfl (q_len tEs29 rfl ?_)
          intro n33 hn33
          try simp only [List.length_map] at hn33
          obtain ⟨nm, hnm⟩ : ∃ nm, idL[qs.length]? = some nm := ⟨_, List.getElem?_eq_getElem (by show _ < 12; omega)⟩
          refine tn_first_q (i := 7) (listed' := #[true, false, true, true, true, true, true, true, false, false, false, false, false, false, false, false]) rfl rfl (by kernel_rfl) rfl (q_idxO tE155 rfl rfl rfl (by omega) (by first | omega | (simp; omega)) rfl ?_)
          refine tn_first_q (i := 8) (listed' := #[true, false, true, true, true, true, true, true, true, false, false, false, false, false, false, false]) rfl rfl (by kernel_rfl) rfl (q_loadE tA9 rfl rfl (by exact idG hnm (by omega)) rfl ?_)
          refine tn_first_q (i := 9) (listed' := #[true, false, true, true, true, true, true, true, true, true, false, false, false, false, false, false]) rfl rfl (by kernel_rfl) rfl (q_move (by conv=>lhs;whnf) ?_)
          refine tn_first_q (i := 10) (listed' := #[true, false, true, true, true, true, true, true, true, true, true, false, false, false, false, false]) rfl rfl (by kernel_rfl) rfl (q_move (by conv=>lhs;whnf) ?_)
          refine tn_step [1, 11] (by kernel_rfl) rfl ?_
          refine ⟨?_, ?_, trivial⟩
          · refine tn_q (listed' := #[true, true, true, true, true, true, true, true, true, true, true, false, false, false, false, false]) rfl rfl rfl (q_load tA29 rfl ?_)
            refine tn_step [11] (by kernel_rfl) rfl ?_
            refine ⟨?_, trivial⟩
            refine tn_k (listed' := #[true, true, true, true, true, true, true, true, true, true, true, true, false, false, false, false]) rfl rfl rfl rfl (k_callR [(1000000, 1000000)] (D_spec_l03DrawOk cs _ _ _ _ _ hc hb (by omega)) rfl (rfl) (rfl) ⟨rfl, trivial⟩ rfl (by rintro ⟨v34, a34, s34⟩ ⟨hx34_0, hx34_1⟩; exact ⟨⟨rfl, rfl, trivial⟩, rfl⟩) rfl rfl ?_)
            rintro ⟨v34, a34, s34⟩ ⟨hx34_0, hx34_1⟩
            have hy := hx34_0
            have hyz : v34.id.size ≤ 100 := by have e := hy.1; have e2 := idL_sz hnm; rw [e]; omega
            refine tn_step [12] (by kernel_rfl) rfl ?_
            refine ⟨?_, trivial⟩
            refine tn_k (listed' := #[true, true, true, true, true, true, true, true, true, true, true, true, true, false, false, false]) rfl rfl rfl rfl (k_lit tE29 zA59 rfl rfl (by decide) (by decide) rfl rfl rfl ?_)
            refine tn_step [13] (by kernel_rfl) rfl ?_
            refine ⟨?_, trivial⟩
            refine tn_k (listed' := #[true, true, true, true, true, true, true, true, true, true, true, true, true, true, false, false]) rfl rfl rfl rfl (k_app tApp29 rfl rfl (by simp) rfl (.inl rfl) (by first | (simp [maxLen]; omega)) (by first | (simp; omega)) ?_)
            refine tn_first_q (i := 14) (listed' := #[true, true, true, true, true, true, true, true, true, true, true, true, true, true, true, false]) rfl rfl (by kernel_rfl) rfl (q_fieldAddrP fO31_1 rfl rfl ?_)
            refine tn_step [15] (by kernel_rfl) rfl ?_
            refine ⟨?_, trivial⟩
            refine tn_k (listed' := #[true, true, true, true, true, true, true, true, true, true, true, true, true, true, true, true]) rfl rfl rfl rfl (k_store sz29 rfl (by conv=>lhs;whnf) rfl rfl rfl (Nat.le_of_ble_eq_true rfl) rfl ?_)
            refine tn_end (by kernel_rfl) (hK19 _ ?_); clear hK19
            refine gr rfl ?_
            refine em rfl (by conv=>lhs;whnf) ?_
            refine ei rfl rfl rfl ?_
            intro n35 hn35
            replace hn35 := in64 hn35 (by omega) (by omega)
            refine ea rfl (by conv=>lhs;whnf) ?_
            refine ev_nil ?_
            clear hK5
            refine ⟨(qs ++ [v34], k - 1, a34, s34), ?_, ?_, ?_⟩
            · exact ⟨⟨by simp; omega, idZ_app hqz hyz⟩, by omega, by omega⟩
            · first | (simp; omega) | omega
            · first | refine Sub.trans (sub_ren 51 900002 (by decide) rfl (by decide) rfl) ?_ | skip
              refine sub_weak ?_ ?_
              · exact weakH_box (boxEq (rfl)) rfl (weakH_box (boxEq (rfl)) rfl (weakH_boxR (boxEq (by first | rfl | (simp only [List.length_append, List.length_map, List.length_cons, List.length_nil]; rfl))) rfl (weakH_row (rowEq (rfl)) (weakH_row (rowEq (by first | rfl | (rw [List.map_append]; rfl))) (weakH_row (rowEq (rfl)) (weakH_none _))))))
              · refine weakE_upd ?e5 ?r5 (weakE_upd ?e4 ?r4 (weakE_upd ?e3 ?r3 (weakE_upd ?e2 ?r2 (weakE_upd ?e0 ?r0 (weakE_junk _ _)))))
                case e0 => first | rfl | exact fI (by omega) | (simp_all)
                case r0 => intro h hh; simp [refs] at hh; subst hh; rfl
                case e2 => first | rfl | exact fI (by omega) | (simp_all)
                case r2 => intro h hh; simp [refs] at hh; subst hh; rfl
                case e3 => first | rfl | exact fI (by omega) | (simp_all)
                case r3 => intro h hh; simp [refs] at hh; subst hh; rfl
                case e4 => first | rfl | exact fI (by omega) | (simp_all)
                case r4 => intro h hh; simp [refs] at hh; subst hh; rfl
                case e5 => first | rfl | exact fI (by omega) | (simp_all)
                case r5 => intro h hh; cases hh
          · refine tn_k (listed' := #[true, false, true, true, true, true, true, true, true, true, true, true, false, false, false, false]) rfl rfl rfl rfl (k_callR [(1000000, 1000000)] (D_spec_l03DrawOk cs _ _ _ _ _ hc hb (by omega)) rfl (rfl) (rfl) ⟨rfl, trivial⟩ rfl (by rintro ⟨v36, a36, s36⟩ ⟨hx36_0, hx36_1⟩; exact ⟨⟨rfl, rfl, trivial⟩, rfl⟩) rfl rfl ?_)
            rintro ⟨v36, a36, s36⟩ ⟨hx36_0, hx36_1⟩
            have hy := hx36_0
            have hyz : v36.id.size ≤ 100 := by have e := hy.1; have e2 := idL_sz hnm; rw [e]; omega
            refine tn_step [1, 12] (by kernel_rfl) rfl ?_
            refine ⟨?_, ?_, trivial⟩
            · refine tn_q (listed' := #[true, true, true, true, true, true, true, true, true, true, true, true, false, false, false, false]) rfl rfl rfl (q_load tA29 rfl ?_)
              refine tn_step [12] (by kernel_rfl) rfl ?_
              refine ⟨?_, trivial⟩
              refine tn_k (listed' := #[true, true, true, true, true, true, true, true, true, true, true, true, true, false, false, false]) rfl rfl rfl rfl (k_lit tE29 zA59 rfl rfl (by decide) (by decide) rfl rfl rfl ?_)
              refine tn_step [13] (by kernel_rfl) rfl ?_
              refine ⟨?_, trivial⟩
              refine tn_k (listed' := #[true, true, true, true, true, true, true, true, true, true, true, true, true, true, false, false]) rfl rfl rfl rfl (k_app tApp29 rfl rfl (by simp) rfl (.inl rfl) (by first | (simp [maxLen]; omega)) (by first | (simp; omega)) ?_)
              refine tn_first_q (i := 14) (listed' := #[true, true, true, true, true, true, true, true, true, true, true, true, true, true, true, false]) rfl rfl (by kernel_rfl) rfl (q_fieldAddrP fO31_1 rfl rfl ?_)
              refine tn_step [15] (by kernel_rfl) rfl ?_
              refine ⟨?_, trivial⟩
              refine tn_k (listed' := #[true, true, true, true, true, true, true, true, true, true, true, true, true, true, true, true]) rfl rfl rfl rfl (k_store sz29 rfl (by conv=>lhs;whnf) rfl rfl rfl (Nat.le_of_ble_eq_true rfl) rfl ?_)
              refine tn_end (by kernel_rfl) (hK19 _ ?_); clear hK19
              refine gr rfl ?_
              refine em rfl (by conv=>lhs;whnf) ?_
              refine ei rfl rfl rfl ?_
              intro n37 hn37
              replace hn37 := in64 hn37 (by omega) (by omega)
              refine ea rfl (by conv=>lhs;whnf) ?_
              refine ev_nil ?_
              clear hK5
              refine ⟨(qs ++ [v36], k - 1, a36, s36), ?_, ?_, ?_⟩
              · exact ⟨⟨by simp; omega, idZ_app hqz hyz⟩, by omega, by omega⟩
              · first | (simp; omega) | omega
              · first | refine Sub.trans (sub_ren 51 900002 (by decide) rfl (by decide) rfl) ?_ | skip
                refine sub_weak ?_ ?_
                · exact weakH_box (boxEq (rfl)) rfl (weakH_box (boxEq (rfl)) rfl (weakH_boxR (boxEq (by first | rfl | (simp only [List.length_append, List.length_map, List.length_cons, List.length_nil]; rfl))) rfl (weakH_row (rowEq (rfl)) (weakH_row (rowEq (by first | rfl | (rw [List.map_append]; rfl))) (weakH_row (rowEq (rfl)) (weakH_none _))))))
                · refine weakE_upd ?e5 ?r5 (weakE_upd ?e4 ?r4 (weakE_upd ?e3 ?r3 (weakE_upd ?e2 ?r2 (weakE_upd ?e0 ?r0 (weakE_junk _ _)))))
                  case e0 => first | rfl | exact fI (by omega) | (simp_all)
                  case r0 => intro h hh; simp [refs] at hh; subst hh; rfl
                  case e2 => first | rfl | exact fI (by omega) | (simp_all)
                  case r2 => intro h hh; simp [refs] at hh; subst hh; rfl
                  case e3 => first | rfl | exact fI (by omega) | (simp_all)
                  case r3 => intro h hh; simp [refs] at hh; subst hh; rfl
                  case e4 => first | rfl | exact fI (by omega) | (simp_all)
                  case r4 => intro h hh; simp [refs] at hh; subst hh; rfl
                  case e5 => first | rfl | exact fI (by omega) | (simp_all)
                  case r5 => intro h hh; cases hh
            · refine tn_k (listed' := #[true, false, true, true, true, true, true, true, true, true, true, true, true, false, false, false]) rfl rfl rfl rfl (k_lit tE29 zA59 rfl rfl (by decide) (by decide) rfl rfl rfl ?_)
              refine tn_first_q (i := 1) (listed' := #[true, true, true, true, true, true, true, true, true, true, true, true, true, false, false, false]) rfl rfl (by kernel_rfl) rfl (q_load tA29 rfl ?_)
              refine tn_step [13] (by kernel_rfl) rfl ?_
              refine ⟨?_, trivial⟩
              refine tn_k (listed' := #[true, true, true, true, true, true, true, true, true, true, true, true, true, true, false, false]) rfl rfl rfl rfl (k_app tApp29 rfl rfl (by simp) rfl (.inl rfl) (by first | (simp [maxLen]; omega)) (by first | (simp; omega)) ?_)
              refine tn_first_q (i := 14) (listed' := #[true, true, true, true, true, true, true, true, true, true, true, true, true, true, true, false]) rfl rfl (by kernel_rfl) rfl (q_fieldAddrP fO31_1 rfl rfl ?_)
              refine tn_step [15] (by kernel_rfl) rfl ?_
              refine ⟨?_, trivial⟩
              refine tn_k (listed' := #[true, true, true, true, true, true, true, true, true, true, true, true, true, true, true, true]) rfl rfl rfl rfl (k_store sz29 rfl (by conv=>lhs;whnf) rfl rfl rfl (Nat.le_of_ble_eq_true rfl) rfl ?_)
              refine tn_end (by kernel_rfl) (hK19 _ ?_); clear hK19
              refine gr rfl ?_
              refine em rfl (by conv=>lhs;whnf) ?_
              refine ei rfl rfl rfl ?_
              intro n38 hn38
              replace hn38 := in64 hn38 (by omega) (by omega)
              refine ea rfl (by conv=>lhs;whnf) ?_
              refine ev_nil ?_
              clear hK5
              refine ⟨(qs ++ [v36], k - 1, a36, s36), ?_, ?_, ?_⟩
              · exact ⟨⟨by simp; omega, idZ_app hqz hyz⟩, by omega, by omega⟩
              · first | (simp; omega) | omega
              · first | refine Sub.trans (sub_ren 51 900002 (by decide) rfl (by decide) rfl) ?_ | skip
                refine sub_weak ?_ ?_
                · exact weakH_box (boxEq (rfl)) rfl (weakH_box (boxEq (rfl)) rfl (weakH_boxR (boxEq (by first | rfl | (simp only [List.length_append, List.length_map, List.length_cons, List.length_nil]; rfl))) rfl (weakH_row (rowEq (rfl)) (weakH_row (rowEq (by first | rfl | (rw [List.map_append]; rfl))) (weakH_row (rowEq (rfl)) (weakH_none _))))))
                · refine weakE_upd ?e5 ?r5 (weakE_upd ?e4 ?r4 (weakE_upd ?e3 ?r3 (weakE_upd ?e2 ?r2 (weakE_upd ?e0 ?r0 (weakE_junk _ _)))))
                  case e0 => first | rfl | exact fI (by omega) | (simp_all)
                  case r0 => intro h hh; simp [refs] at hh; subst hh; rfl
                  case e2 => first | rfl | exact fI (by omega) | (simp_all)
                  case r2 => intro h hh; simp [refs] at hh; subst hh; rfl
                  case e3 => first | rfl | exact fI (by omega) | (simp_all)
                  case r3 => intro h hh; simp [refs] at hh; subst hh; rfl
                  case e4 => first | rfl | exact fI (by omega) | (simp_all)
                  case r4 => intro h hh; simp [refs] at hh; subst hh; rfl
                  case e5 => first | rfl | exact fI (by omega) | (simp_all)
                  case r5 => intro h hh; cases hh

-- spec.l04Draw
theorem D_spec_l04Draw (cs : List Int) (a s : Int) (hc : cs.length ≤ 17592186044416) (hb : byteL cs) (ha : 0 ≤ a ∧ a ≤ 1000000000000) : DenXR Try.prog 76 [(1000000, .box 154 (src cs a s))] [.ptr 1000000 0] (τ := List Int × List Pi × Nat × Nat × Int × Int) (fun (ns, W, j, m, a1, s1) => (ns.length ≤ 20 ∧ (j + m = W.length ∧ W.length ≤ 30) ∧ idSz W) ∧ (a ≤ a1 ∧ a1 ≤ a + 600)) (fun (ns, W, j, m, a1, s1) => [(1000000, .box 154 (src cs a1 s1)), (900001, .row 2 1 (ns.map ci)), (900002, .row 59 6 (W.map piA))]) (fun (ns, W, j, m, a1, s1) => .agg [.own 900001 ns.length, .osl 900002 j m]) := by
  refine denXR_of_good Try.func76 (by decide) rfl (Nat.le_of_ble_eq_true rfl) (Nat.le_of_ble_eq_true rfl) rfl ?_
  refine good_seq fun K1 hK1 => ?_
  refine gr rfl ?_
  refine ev_k rfl (k_alloc zA31 rfl ?_)
  refine ev_nil (hK1 _ ?_); clear hK1
  refine good_seq fun K2 hK2 => ?_
  refine gr rfl ?_
  refine em rfl (by conv=>lhs;whnf) ?_
  refine ev_k rfl (k_callR [(1000000, 1000000), (900001, 900011), (900002, 900012)] (D_spec_l04DrawOk cs _ _ hc hb (by omega)) rfl (rfl) (rfl) ⟨rfl, trivial⟩ rfl (by rintro ⟨n3, W3, j3, m3, a3, s3⟩ ⟨hx3_0, hx3_1⟩; exact ⟨⟨rfl, rfl, ⟨⟨rfl, show (900011 : Nat) < 1000000 by decide⟩, ⟨⟨rfl, show (900012 : Nat) < 1000000 by decide⟩, trivial⟩⟩⟩, rfl⟩) rfl rfl ?_)
  rintro ⟨n3, W3, j3, m3, a3, s3⟩ ⟨hx3_0, hx3_1⟩
  obtain ⟨⟨hn2, hn6⟩, hjm, hWz⟩ := hx3_0
  have hjl := hjm.1
  have hWl := hjm.2
  refine ev_k rfl (k_alloc zA31 rfl ?_)
  refine ev_k rfl (k_store sz31 rfl (by conv=>lhs;whnf) rfl rfl rfl (Nat.le_of_ble_eq_true rfl) rfl ?_)
  refine ev_nil (hK2 _ ?_); clear hK2
  refine good_seq fun K4 hK4 => ?_
  refine good_seq fun K5 hK5 => ?_
  refine gr rfl ?_
  refine em rfl (by conv=>lhs;whnf) ?_
  refine ev_k rfl (k_callR [(1000000, 1000000)] (D_spec_l00Src_pick cs _ _ _ hc hb (by omega) (by omega)) rfl (rfl) (rfl) ⟨rfl, trivial⟩ rfl (by rintro ⟨v6, a6, s6⟩ ⟨hx6_0, hx6_1⟩; exact ⟨⟨rfl, rfl, trivial⟩, rfl⟩) rfl rfl ?_)
  rintro ⟨v6, a6, s6⟩ ⟨hx6_0, hx6_1⟩
  refine ev_nil (hK5 _ ?_); clear hK5
  refine good_block ?_
  refine good_seq fun K7 hK7 => ?_
  refine gr rfl ?_
  refine ei rfl rfl rfl ?_
  intro b8 hb8; cases b8
  · replace hb8 := eqF hb8
    refine ea rfl (by conv=>lhs;whnf) ?_
    refine ev_nil (hK7 _ ?_); clear hK7
    refine good_condF rfl ?_
    refine good_seq fun K9 hK9 => ?_
    refine gr rfl ?_
    refine ei rfl rfl rfl ?_
    intro b10 hb10; cases b10
    · replace hb10 := eqF hb10
      refine ea rfl (by conv=>lhs;whnf) ?_
      refine ev_nil (hK9 _ ?_); clear hK9
      refine good_condF rfl ?_
      refine good_seq fun K11 hK11 => ?_
      refine gr rfl ?_
      refine ei rfl rfl rfl ?_
      intro b12 hb12; cases b12
      · replace hb12 := eqF hb12
        refine ea rfl (by conv=>lhs;whnf) ?_
        refine ev_nil (hK11 _ ?_); clear hK11
        refine good_condF rfl ?_
        refine good_seq fun K13 hK13 => ?_
        refine gr rfl ?_
        refine ei rfl rfl rfl ?_
        intro b14 hb14; cases b14
        · replace hb14 := eqF hb14
          refine ea rfl (by conv=>lhs;whnf) ?_
          refine ev_nil (hK13 _ ?_); clear hK13
          refine good_condF rfl ?_
          refine good_seq fun K15 hK15 => ?_
          refine gr rfl ?_
          refine ei rfl rfl rfl ?_
          intro b16 hb16; cases b16
          · replace hb16 := eqF hb16
            refine ea rfl (by conv=>lhs;whnf) ?_
            refine ev_nil (hK15 _ ?_); clear hK15
            refine good_condF rfl ?_
            refine good_skip (hK4 _ ?_); clear hK4
            refine good_seq fun K17 hK17 => ?_
            refine gr rfl ?_
            refine ev_q rfl (q_loadA tA31 rfl rfl rfl ?_)
            refine ev_k rfl (k_store sz31 rfl (by conv=>lhs;whnf) rfl rfl rfl (Nat.le_of_ble_eq_true rfl) rfl ?_)
            refine ev_nil (hK17 _ ?_); clear hK17
            refine good_weak (sub_ren 900011 900001 (by decide) rfl (by decide) rfl) ?_
            refine good_weak (sub_ren 900012 900002 (by decide) rfl (by decide) rfl) ?_
            refine good_ret ?_
            repeat first|refine thenQ_ret ?_|refine blockQ_ret ?_
            refine ex_6 (v := n3) (a := W3) (b := j3) (c := m3) (d := a6) (e := s6) ?hF ?hR
            case hF =>
              refine fx_cell rfl tA31 rfl rfl rfl ?_
              exact ⟨_, conv_eq (by first | rfl | exact fAgg1 (by first | rfl | exact ownEq (by first | done | omega | (simp; done)) | (simp_all; done)) (fAgg1 (by first | rfl | exact ownEq (by first | done | omega | (simp; done)) | (simp_all; done)) (rfl))), weakH_box (boxEq (by first | rfl | (rw [e]; done) | (rw [e]; rfl) | (simp_all; done))) rfl (weakH_row (rowEq (by first | rfl | exact repC | (rw [List.map_set]; rfl))) (weakH_row (rowEq (by rfl)) (weakH_none _))), refsIn_ok rfl⟩
            case hR =>
              exact ⟨⟨by first | omega | (simp; done) | (simp; omega), by first | omega | (simp; omega), by first | assumption⟩, by omega⟩
          · replace hb16 := eqT hb16
            refine ea rfl (by conv=>lhs;whnf) ?_
            refine ev_nil (hK15 _ ?_); clear hK15
            refine good_condT rfl ?_
            refine gr rfl ?_
            refine ev_k rfl (k_lit tE22 zA2 rfl rfl (by decide) (by decide) rfl rfl rfl ?_)
            refine ev_q rfl (q_fieldAddrP fO31_0 rfl rfl ?_)
            refine ev_k rfl (k_store sz22 rfl (by conv=>lhs;whnf) rfl rfl rfl (Nat.le_of_ble_eq_true rfl) rfl ?_)
            refine ev_nil (hK4 _ ?_); clear hK4
            refine good_seq fun K18 hK18 => ?_
            refine gr rfl ?_
            refine ev_q rfl (q_loadA tA31 rfl rfl rfl ?_)
            refine ev_k rfl (k_store sz31 rfl (by conv=>lhs;whnf) rfl rfl rfl (Nat.le_of_ble_eq_true rfl) rfl ?_)
            refine ev_nil (hK18 _ ?_); clear hK18
            refine good_weak (sub_ren 68 900001 (by decide) rfl (by decide) rfl) ?_
            refine good_weak (sub_ren 900012 900002 (by decide) rfl (by decide) rfl) ?_
            refine good_ret ?_
            repeat first|refine thenQ_ret ?_|refine blockQ_ret ?_
            refine ex_6 (v := []) (a := W3) (b := j3) (c := m3) (d := a6) (e := s6) ?hF ?hR
            case hF =>
              refine fx_cell rfl tA31 rfl rfl rfl ?_
              exact ⟨_, conv_eq (by first | rfl | exact fAgg1 (by first | rfl | exact ownEq (by first | done | omega | (simp; done)) | (simp_all; done)) (fAgg1 (by first | rfl | exact ownEq (by first | done | omega | (simp; done)) | (simp_all; done)) (rfl))), weakH_box (boxEq (by first | rfl | (rw [e]; done) | (rw [e]; rfl) | (simp_all; done))) rfl (weakH_row (rowEq (by first | rfl | exact repC | (rw [List.map_set]; rfl))) (weakH_row (rowEq (by rfl)) (weakH_none _))), refsIn_ok rfl⟩
            case hR =>
              exact ⟨⟨by first | omega | (simp; done) | (simp; omega), by first | omega | (simp; omega), by first | assumption⟩, by omega⟩
        · replace hb14 := eqT hb14
          refine ea rfl (by conv=>lhs;whnf) ?_
          refine ev_nil (hK13 _ ?_); clear hK13
          refine good_condT rfl ?_
          refine good_seq fun K19 hK19 => ?_
          refine gr rfl ?_
          refine em rfl (by conv=>lhs;whnf) ?_
          refine ev_k rfl (k_lit tE22 zA2 rfl rfl (by decide) (by decide) rfl rfl rfl ?_)
          refine ev_k rfl (k_callR [(1000000, 1000000), (1000001, 39)] (D_spec_l00Src_among cs _ _ [20, 21] hc hb (by omega) (by decide)) rfl (rfl) (rfl) ⟨rfl, ⟨rfl, trivial⟩⟩ rfl (by rintro ⟨v20, a20, s20⟩ ⟨hx20_0, hx20_1⟩; exact ⟨⟨rfl, rfl, ⟨rfl, ⟨rfl, rfl, by first | exact Nat.le_refl _ | (simp; done) | (simp; omega)⟩, trivial⟩⟩, rfl⟩) rfl rfl ?_)
          rintro ⟨v20, a20, s20⟩ ⟨hx20_0, hx20_1⟩
          simp only [List.mem_cons, List.not_mem_nil, or_false] at hx20_0
          refine ea rfl (by conv=>lhs;whnf) ?_
          refine ev_nil (hK19 _ ?_); clear hK19
          refine good_seq fun K21 hK21 => ?_
          refine gr rfl ?_
          refine ev_k rfl (k_lit tE29 zA59 rfl rfl (by decide) (by decide) rfl rfl rfl ?_)
          refine ev_q rfl (q_fieldAddrP fO31_1 rfl rfl ?_)
          refine ev_k rfl (k_store sz29 rfl (by conv=>lhs;whnf) rfl rfl rfl (Nat.le_of_ble_eq_true rfl) rfl ?_)
          refine ev_nil (hK21 _ ?_); clear hK21
          refine good_seq fun K22 hK22 => ?_
          refine gr rfl ?_
          refine ea rfl (by conv=>lhs;whnf) ?_
          refine ev_nil (hK22 _ ?_); clear hK22
          refine good_block ?_
          refine good_loop (α := List Pi × Int × Int) (fun (u, a1, s1) => { env := upd (upd (upd (upd (upd ((fun _ => .junk)) 0 (.ptr 1000000 0)) 2 (.ptr 2 0)) 3 (.ptr 3 0)) 5 (.s (.int .i64 (v20)))) 6 (.s (.int .i64 ((u.length : Int)))), H := upd (upd (upd (upd (upd ((fun _ => none)) 900013 (some (.row 59 6 (u.map piA)))) 900011 (some (.row 2 1 (n3.map ci)))) 3 (some (.box 31 [.own 900011 n3.length, .own 900013 u.length]))) 2 (some (.box 31 [.nil, .nil]))) 1000000 (some (.box 154 (src cs a1 s1))) }) (fun (u, a1, s1) => (u.length ≤ 21 ∧ idSz u) ∧ (a ≤ a1 ∧ a1 ≤ a + 310 + 8 * u.length)) (fun (u, a1, s1) => 21 - u.length) ([], a20, s20) ?_ ?_ ?_
          · exact ⟨⟨by simp, fun j x h => by simp at h⟩, by simp; omega⟩
          · refine Sub.trans (sub_ren 41 900013 (by decide) rfl (by decide) rfl) ?_
            refine sub_weak ?_ ?_
            · exact weakH_box (boxEq (rfl)) rfl (weakH_box (boxEq (rfl)) rfl (weakH_boxR (boxEq (rfl)) rfl (weakH_row (rowEq (rfl)) (weakH_row (rowEq (rfl)) (weakH_none _)))))
            · refine weakE_upd ?e6 ?r6 (weakE_upd ?e5 ?r5 (weakE_upd ?e3 ?r3 (weakE_upd ?e2 ?r2 (weakE_upd ?e0 ?r0 (weakE_junk _ _)))))
              case e0 => first | rfl | exact fI (by omega) | (simp_all)
              case r0 => intro h hh; simp [refs] at hh; subst hh; rfl
              case e2 => first | rfl | exact fI (by omega) | (simp_all)
              case r2 => intro h hh; simp [refs] at hh; subst hh; rfl
              case e3 => first | rfl | exact fI (by omega) | (simp_all)
              case r3 => intro h hh; simp [refs] at hh; subst hh; rfl
              case e5 => first | rfl | exact fI (by omega) | (simp_all)
              case r5 => intro h hh; cases hh
              case e6 => first | rfl | exact fI (by omega) | (first | rfl | exact fI (by simp; omega))
              case r6 => intro h hh; cases hh
          · rintro ⟨u, a1, s1⟩ ⟨⟨hul, huz⟩, hJ⟩
            refine good_seq fun K23 hK23 => ?_
            refine good_seq fun K24 hK24 => ?_
            refine gr rfl ?_
            refine em rfl (by conv=>lhs;whnf) ?_
            refine em rfl (by conv=>lhs;whnf) ?_
            refine ei rfl rfl rfl ?_
            intro b25 hb25; cases b25
            · replace hb25 := dF hb25
              refine ev_nil (hK24 _ ?_); clear hK24
              refine good_condF rfl ?_
              refine good_exit ?_
              repeat first|refine thenQ_exit ?_|refine blockQ_pass rfl ?_
              refine blockQ_exit (hK4 _ ?_); clear hK4
              refine good_seq fun K26 hK26 => ?_
              refine gr rfl ?_
              refine ev_q rfl (q_loadA tA31 rfl rfl rfl ?_)
              refine ev_k rfl (k_store sz31 rfl (by conv=>lhs;whnf) rfl rfl rfl (Nat.le_of_ble_eq_true rfl) rfl ?_)
              refine ev_nil (hK26 _ ?_); clear hK26
              refine good_weak (sub_oslB 2 1 rfl rfl rfl) ?_
              refine good_weak (sub_ren 900011 900001 (by decide) rfl (by decide) rfl) ?_
              refine good_weak (sub_ren 900013 900002 (by decide) rfl (by decide) rfl) ?_
              refine good_ret ?_
              repeat first|refine thenQ_ret ?_|refine blockQ_ret ?_
              clear hK23
              refine ex_6 (v := n3) (a := u) (b := 0) (c := u.length) (d := a1) (e := s1) ?hF ?hR
              case hF =>
                refine fx_cell rfl tA31 rfl rfl rfl ?_
                exact ⟨_, conv_eq (by first | rfl | exact fAgg1 (by first | rfl | exact ownEq (by first | done | omega | (simp; done)) | (simp_all; done)) (fAgg1 (by first | rfl | exact ownEq (by first | done | omega | (simp; done)) | (simp_all; done)) (rfl))), weakH_box (boxEq (by first | rfl | (rw [e]; done) | (rw [e]; rfl) | (simp_all; done))) rfl (weakH_row (rowEq (by first | rfl | exact repC | (rw [List.map_set]; rfl))) (weakH_row (rowEq (by rfl)) (weakH_none _))), refsIn_ok rfl⟩
              case hR =>
                exact ⟨⟨by first | omega | (simp; done) | (simp; omega), by first | omega | (simp; omega), by first | assumption⟩, by omega⟩
            · replace hb25 := dT hb25
              refine ev_nil (hK24 _ ?_); clear hK24
              refine good_condT rfl ?_
              refine good_skip (hK23 _ ?_); clear hK23
              refine good_seq fun K27 hK27 => ?_
              refine good_block ?_
              refine good_any 19 (listed := #[false, false, false, false, false, false, false, false, false, false, false, false, false, false, false, false, false, false, false]) rfl rfl hmix rfl ?_
              refine tn_first_q (i := 0) (listed' := #[true, false, false, false, false, false, false, false, false, false, false, false, false, false, false, false, false, false, false]) rfl rfl (by kernel_rfl) rfl (q_fieldAddrP fO31_1 rfl rfl ?_)
              refine tn_first_q (i := 2) (listed' := #[true, false, true, false, false, false, false, false, false, false, false, false, false, false, false, false, false, false, false]) rfl rfl (by kernel_rfl) rfl (q_move (by conv=>lhs;whnf) ?_)
              refine tn_first_q (i := 3) (listed' := #[true, false, true, true, false, false, false, false, false, false, false, false, false, false, false, false, false, false, false]) rfl rfl (by kernel_rfl) rfl (q_move (by conv=>lhs;whnf) ?_)
              refine tn_first_q (i := 4) (listed' := #[true, false, true, true, true, false, false, false, false, false, false, false, false, false, false, false, false, false, false]) rfl rfl (by kernel_rfl) rfl (q_int rfl rfl ?_)
              intro n28 hn28
              replace hn28 := in64 hn28 (by omega) (by omega)
              refine tn_first_q (i := 5) (listed' := #[true, false, true, true, true, true, false, false, false, false, false, false, false, false, false, false, false, false, false]) rfl rfl (by kernel_rfl) rfl (q_conv tK2 tK5 rfl ?_)
              intro n29 hn29
              refine tn_first_q (i := 9) (listed' := #[true, false, true, true, true, true, false, false, false, true, false, false, false, false, false, false, false, false, false]) rfl rfl (by kernel_rfl) rfl (q_move (by conv=>lhs;whnf) ?_)
              refine tn_first_q (i := 10) (listed' := #[true, false, true, true, true, true, false, false, false, true, true, false, false, false, false, false, false, false, false]) rfl rfl (by kernel_rfl) rfl (q_int rfl rfl ⟨by omega, ?_⟩)
              intro n30 hn30
              first | replace hn30 := remE hn30 (by omega) | skip
              refine tn_first_q (i := 11) (listed' := #[true, false, true, true, true, true, false, false, false, true, true, true, false, false, false, false, false, false, false]) rfl rfl (by kernel_rfl) rfl (q_move (by conv=>lhs;whnf) ?_)
              refine tn_first_q (i := 12) (listed' := #[true, false, true, true, true, true, false, false, false, true, true, true, true, false, false, false, false, false, false]) rfl rfl (by kernel_rfl) rfl (q_int rfl rfl ⟨by omega, ?_⟩)
              intro n31 hn31
              first | replace hn31 := remE hn31 (by omega) | skip
              refine tn_first_q (i := 13) (listed' := #[true, false, true, true, true, true, false, false, false, true, true, true, true, true, false, false, false, false, false]) rfl rfl (by kernel_rfl) rfl (q_int rfl rfl ?_)
              intro n32 hn32
              replace hn32 := in64 hn32 (by omega) (by omega)
              refine tn_step [1, 6] (by kernel_rfl) rfl ?_
              refine ⟨?_, ?_, trivial⟩
              · refine tn_q (listed' := #[true, true, true, true, true, true, false, false, false, true, true, true, true, true, false, false, false, false, false]) rfl rfl rfl (q_load tA29 rfl ?_)
                refine tn_step [6] (by kernel_rfl) rfl ?_
                refine ⟨?_, trivial⟩
                refine tn_k (listed' := #[true, true, true, true, true, true, true, false, false, true, true, true, true, true, false, false, false, false, false]) rfl rfl rfl rfl (k_lit tE39 zA5 rfl rfl (by decide) (by decide) rfl rfl rfl ?_)
                refine tn_first_q (i := 7) (listed' := #[true, true, true, true, true, true, true, true, false, true, true, true, true, true, false, false, false, false, false]) rfl rfl (by kernel_rfl) rfl (q_txtO tByS39 tStr9 rfl rfl (by rfl) ?_)
                intro s33 hs33
                refine tn_first_q (i := 8) (listed' := #[true, true, true, true, true, true, true, true, true, true, true, true, true, true, false, false, false, false, false]) rfl rfl (by kernel_rfl) rfl (q_str rfl rfl ⟨by have := congrArg ByteArray.size hs33; rw [strOfNums_size] at this; simp at this; rw [l1_size]; omega, ?_⟩)
                intro s34 hs34
                have hz57 := sz_app hs34
                have hz56 := congrArg ByteArray.size hs33
                rw [strOfNums_size] at hz56
                simp at hz56
                rw [l1_size] at hz57
                refine tn_step [14] (by kernel_rfl) rfl ?_
                refine ⟨?_, trivial⟩
                refine tn_k (listed' := #[true, true, true, true, true, true, true, true, true, true, true, true, true, true, true, false, false, false, false]) rfl rfl rfl rfl (k_callR [(1000000, 1000000)] (D_spec_l03DrawOk cs _ _ _ _ _ hc hb (by omega)) rfl (rfl) (rfl) ⟨rfl, trivial⟩ rfl (by rintro ⟨v35, a35, s35⟩ ⟨hx35_0, hx35_1⟩; exact ⟨⟨rfl, rfl, trivial⟩, rfl⟩) rfl rfl ?_)
                rintro ⟨v35, a35, s35⟩ ⟨hx35_0, hx35_1⟩
                have hyz : v35.id.size ≤ 100 := by rw [hx35_0.1]; omega
                refine tn_step [15] (by kernel_rfl) rfl ?_
                refine ⟨?_, trivial⟩
                refine tn_k (listed' := #[true, true, true, true, true, true, true, true, true, true, true, true, true, true, true, true, false, false, false]) rfl rfl rfl rfl (k_lit tE29 zA59 rfl rfl (by decide) (by decide) rfl rfl rfl ?_)
                refine tn_step [16] (by kernel_rfl) rfl ?_
                refine ⟨?_, trivial⟩
                refine tn_k (listed' := #[true, true, true, true, true, true, true, true, true, true, true, true, true, true, true, true, true, false, false]) rfl rfl rfl rfl (k_app tApp29 rfl rfl (by simp) rfl (.inl rfl) (by first | (simp [maxLen]; omega)) (by first | (simp; omega)) ?_)
                refine tn_first_q (i := 17) (listed' := #[true, true, true, true, true, true, true, true, true, true, true, true, true, true, true, true, true, true, false]) rfl rfl (by kernel_rfl) rfl (q_fieldAddrP fO31_1 rfl rfl ?_)
                refine tn_step [18] (by kernel_rfl) rfl ?_
                refine ⟨?_, trivial⟩
                refine tn_k (listed' := #[true, true, true, true, true, true, true, true, true, true, true, true, true, true, true, true, true, true, true]) rfl rfl rfl rfl (k_store sz29 rfl (by conv=>lhs;whnf) rfl rfl rfl (Nat.le_of_ble_eq_true rfl) rfl ?_)
                refine tn_end (by kernel_rfl) (hK27 _ ?_); clear hK27
                refine gr rfl ?_
                refine em rfl (by conv=>lhs;whnf) ?_
                refine ei rfl rfl rfl ?_
                intro n36 hn36
                replace hn36 := in64 hn36 (by omega) (by omega)
                refine ea rfl (by conv=>lhs;whnf) ?_
                refine ev_nil ?_
                clear hK4
                refine ⟨(u ++ [v35], a35, s35), ?_, ?_, ?_⟩
                · exact ⟨⟨by simp; omega, idZ_app huz hyz⟩, by simp; omega⟩
                · first | (simp; omega) | omega
                · first | refine Sub.trans (sub_ren 64 900013 (by decide) rfl (by decide) rfl) ?_ | skip
                  refine sub_weak ?_ ?_
                  · exact weakH_box (boxEq (rfl)) rfl (weakH_box (boxEq (rfl)) rfl (weakH_boxR (boxEq (by first | rfl | (simp only [List.length_append, List.length_map, List.length_cons, List.length_nil]; rfl))) rfl (weakH_row (rowEq (rfl)) (weakH_row (rowEq (by first | rfl | (rw [List.map_append]; rfl))) (weakH_none _)))))
                  · refine weakE_upd ?e6 ?r6 (weakE_upd ?e5 ?r5 (weakE_upd ?e3 ?r3 (weakE_upd ?e2 ?r2 (weakE_upd ?e0 ?r0 (weakE_junk _ _)))))
                    case e0 => first | rfl | exact fI (by omega) | (simp_all)
                    case r0 => intro h hh; simp [refs] at hh; subst hh; rfl
                    case e2 => first | rfl | exact fI (by omega) | (simp_all)
                    case r2 => intro h hh; simp [refs] at hh; subst hh; rfl
                    case e3 => first | rfl | exact fI (by omega) | (simp_all)
                    case r3 => intro h hh; simp [refs] at hh; subst hh; rfl
                    case e5 => first | rfl | exact fI (by omega) | (simp_all)
                    case r5 => intro h hh; cases hh
                    case e6 => first | rfl | exact fI (by omega) | (first | rfl | exact fI (by simp; omega))
                    case r6 => intro h hh; cases hh
              · refine tn_k (listed' := #[true, false, true, true, true, true, true, false, false, true, true, true, true, true, false, false, false, false, false]) rfl rfl rfl rfl (k_lit tE39 zA5 rfl rfl (by decide) (by decide) rfl rfl rfl ?_)
                refine tn_first_q (i := 7) (listed' := #[true, false, true, true, true, true, true, true, false, true, true, true, true, true, false, false, false, false, false]) rfl rfl (by kernel_rfl) rfl (q_txtO tByS39 tStr9 rfl rfl (by rfl) ?_)
                intro s37 hs37
                refine tn_first_q (i := 8) (listed' := #[true, false, true, true, true, true, true, true, true, true, true, true, true, true, false, false, false, false, false]) rfl rfl (by kernel_rfl) rfl (q_str rfl rfl ⟨by have := congrArg ByteArray.size hs37; rw [strOfNums_size] at this; simp at this; rw [l1_size]; omega, ?_⟩)
                intro s38 hs38
                have hz57 := sz_app hs38
                have hz56 := congrArg ByteArray.size hs37
                rw [strOfNums_size] at hz56
                simp at hz56
                rw [l1_size] at hz57
                refine tn_step [1, 14] (by kernel_rfl) rfl ?_
                refine ⟨?_, ?_, trivial⟩
                · refine tn_q (listed' := #[true, true, true, true, true, true, true, true, true, true, true, true, true, true, false, false, false, false, false]) rfl rfl rfl (q_load tA29 rfl ?_)
                  refine tn_step [14] (by kernel_rfl) rfl ?_
                  refine ⟨?_, trivial⟩
                  refine tn_k (listed' := #[true, true, true, true, true, true, true, true, true, true, true, true, true, true, true, false, false, false, false]) rfl rfl rfl rfl (k_callR [(1000000, 1000000)] (D_spec_l03DrawOk cs _ _ _ _ _ hc hb (by omega)) rfl (rfl) (rfl) ⟨rfl, trivial⟩ rfl (by rintro ⟨v39, a39, s39⟩ ⟨hx39_0, hx39_1⟩; exact ⟨⟨rfl, rfl, trivial⟩, rfl⟩) rfl rfl ?_)
                  rintro ⟨v39, a39, s39⟩ ⟨hx39_0, hx39_1⟩
                  have hyz : v39.id.size ≤ 100 := by rw [hx39_0.1]; omega
                  refine tn_step [15] (by kernel_rfl) rfl ?_
                  refine ⟨?_, trivial⟩
                  refine tn_k (listed' := #[true, true, true, true, true, true, true, true, true, true, true, true, true, true, true, true, false, false, false]) rfl rfl rfl rfl (k_lit tE29 zA59 rfl rfl (by decide) (by decide) rfl rfl rfl ?_)
                  refine tn_step [16] (by kernel_rfl) rfl ?_
                  refine ⟨?_, trivial⟩
                  refine tn_k (listed' := #[true, true, true, true, true, true, true, true, true, true, true, true, true, true, true, true, true, false, false]) rfl rfl rfl rfl (k_app tApp29 rfl rfl (by simp) rfl (.inl rfl) (by first | (simp [maxLen]; omega)) (by first | (simp; omega)) ?_)
                  refine tn_first_q (i := 17) (listed' := #[true, true, true, true, true, true, true, true, true, true, true, true, true, true, true, true, true, true, false]) rfl rfl (by kernel_rfl) rfl (q_fieldAddrP fO31_1 rfl rfl ?_)
                  refine tn_step [18] (by kernel_rfl) rfl ?_
                  refine ⟨?_, trivial⟩
                  refine tn_k (listed' := #[true, true, true, true, true, true, true, true, true, true, true, true, true, true, true, true, true, true, true]) rfl rfl rfl rfl (k_store sz29 rfl (by conv=>lhs;whnf) rfl rfl rfl (Nat.le_of_ble_eq_true rfl) rfl ?_)
                  refine tn_end (by kernel_rfl) (hK27 _ ?_); clear hK27
                  refine gr rfl ?_
                  refine em rfl (by conv=>lhs;whnf) ?_
                  refine ei rfl rfl rfl ?_
                  intro n40 hn40
                  replace hn40 := in64 hn40 (by omega) (by omega)
                  refine ea rfl (by conv=>lhs;whnf) ?_
                  refine ev_nil ?_
                  clear hK4
                  refine ⟨(u ++ [v39], a39, s39), ?_, ?_, ?_⟩
                  · exact ⟨⟨by simp; omega, idZ_app huz hyz⟩, by simp; omega⟩
                  · first | (simp; omega) | omega
                  · first | refine Sub.trans (sub_ren 64 900013 (by decide) rfl (by decide) rfl) ?_ | skip
                    refine sub_weak ?_ ?_
                    · exact weakH_box (boxEq (rfl)) rfl (weakH_box (boxEq (rfl)) rfl (weakH_boxR (boxEq (by first | rfl | (simp only [List.length_append, List.length_map, List.length_cons, List.length_nil]; rfl))) rfl (weakH_row (rowEq (rfl)) (weakH_row (rowEq (by first | rfl | (rw [List.map_append]; rfl))) (weakH_none _)))))
                    · refine weakE_upd ?e6 ?r6 (weakE_upd ?e5 ?r5 (weakE_upd ?e3 ?r3 (weakE_upd ?e2 ?r2 (weakE_upd ?e0 ?r0 (weakE_junk _ _)))))
                      case e0 => first | rfl | exact fI (by omega) | (simp_all)
                      case r0 => intro h hh; simp [refs] at hh; subst hh; rfl
                      case e2 => first | rfl | exact fI (by omega) | (simp_all)
                      case r2 => intro h hh; simp [refs] at hh; subst hh; rfl
                      case e3 => first | rfl | exact fI (by omega) | (simp_all)
                      case r3 => intro h hh; simp [refs] at hh; subst hh; rfl
                      case e5 => first | rfl | exact fI (by omega) | (simp_all)
                      case r5 => intro h hh; cases hh
                      case e6 => first | rfl | exact fI (by omega) | (first | rfl | exact fI (by simp; omega))
                      case r6 => intro h hh; cases hh
                · refine tn_k (listed' := #[true, false, true, true, true, true, true, true, true, true, true, true, true, true, true, false, false, false, false]) rfl rfl rfl rfl (k_callR [(1000000, 1000000)] (D_spec_l03DrawOk cs _ _ _ _ _ hc hb (by omega)) rfl (rfl) (rfl) ⟨rfl, trivial⟩ rfl (by rintro ⟨v41, a41, s41⟩ ⟨hx41_0, hx41_1⟩; exact ⟨⟨rfl, rfl, trivial⟩, rfl⟩) rfl rfl ?_)
                  rintro ⟨v41, a41, s41⟩ ⟨hx41_0, hx41_1⟩
                  have hyz : v41.id.size ≤ 100 := by rw [hx41_0.1]; omega
                  refine tn_step [1, 15] (by kernel_rfl) rfl ?_
                  refine ⟨?_, ?_, trivial⟩
                  · refine tn_q (listed' := #[true, true, true, true, true, true, true, true, true, true, true, true, true, true, true, false, false, false, false]) rfl rfl rfl (q_load tA29 rfl ?_)
                    refine tn_step [15] (by kernel_rfl) rfl ?_
                    refine ⟨?_, trivial⟩
                    refine tn_k (listed' := #[true, true, true, true, true, true, true, true, true, true, true, true, true, true, true, true, false, false, false]) rfl rfl rfl rfl (k_lit tE29 zA59 rfl rfl (by decide) (by decide) rfl rfl rfl ?_)
                    refine tn_step [16] (by kernel_rfl) rfl ?_
                    refine ⟨?_, trivial⟩
                    refine tn_k (listed' := #[true, true, true, true, true, true, true, true, true, true, true, true, true, true, true, true, true, false, false]) rfl rfl rfl rfl (k_app tApp29 rfl rfl (by simp) rfl (.inl rfl) (by first | (simp [maxLen]; omega)) (by first | (simp; omega)) ?_)
                    refine tn_first_q (i := 17) (listed' := #[true, true, true, true, true, true, true, true, true, true, true, true, true, true, true, true, true, true, false]) rfl rfl (by kernel_rfl) rfl (q_fieldAddrP fO31_1 rfl rfl ?_)
                    refine tn_step [18] (by kernel_rfl) rfl ?_
                    refine ⟨?_, trivial⟩
                    refine tn_k (listed' := #[true, true, true, true, true, true, true, true, true, true, true, true, true, true, true, true, true, true, true]) rfl rfl rfl rfl (k_store sz29 rfl (by conv=>lhs;whnf) rfl rfl rfl (Nat.le_of_ble_eq_true rfl) rfl ?_)
                    refine tn_end (by kernel_rfl) (hK27 _ ?_); clear hK27
                    refine gr rfl ?_
                    refine em rfl (by conv=>lhs;whnf) ?_
                    refine ei rfl rfl rfl ?_
                    intro n42 hn42
                    replace hn42 := in64 hn42 (by omega) (by omega)
                    refine ea rfl (by conv=>lhs;whnf) ?_
                    refine ev_nil ?_
                    clear hK4
                    refine ⟨(u ++ [v41], a41, s41), ?_, ?_, ?_⟩
                    · exact ⟨⟨by simp; omega, idZ_app huz hyz⟩, by simp; omega⟩
                    · first | (simp; omega) | omega
                    · first | refine Sub.trans (sub_ren 64 900013 (by decide) rfl (by decide) rfl) ?_ | skip
                      refine sub_weak ?_ ?_
                      · exact weakH_box (boxEq (rfl)) rfl (weakH_box (boxEq (rfl)) rfl (weakH_boxR (boxEq (by first | rfl | (simp only [List.length_append, List.length_map, List.length_cons, List.length_nil]; rfl))) rfl (weakH_row (rowEq (rfl)) (weakH_row (rowEq (by first | rfl | (rw [List.map_append]; rfl))) (weakH_none _)))))
                      · refine weakE_upd ?e6 ?r6 (weakE_upd ?e5 ?r5 (weakE_upd ?e3 ?r3 (weakE_upd ?e2 ?r2 (weakE_upd ?e0 ?r0 (weakE_junk _ _)))))
                        case e0 => first | rfl | exact fI (by omega) | (simp_all)
                        case r0 => intro h hh; simp [refs] at hh; subst hh; rfl
                        case e2 => first | rfl | exact fI (by omega) | (simp_all)
                        case r2 => intro h hh; simp [refs] at hh; subst hh; rfl
                        case e3 => first | rfl | exact fI (by omega) | (simp_all)
                        case r3 => intro h hh; simp [refs] at hh; subst hh; rfl
                        case e5 => first | rfl | exact fI (by omega) | (simp_all)
                        case r5 => intro h hh; cases hh
                        case e6 => first | rfl | exact fI (by omega) | (first | rfl | exact fI (by simp; omega))
                        case r6 => intro h hh; cases hh
                  · refine tn_k (listed' := #[true, false, true, true, true, true, true, true, true, true, true, true, true, true, true, true, false, false, false]) rfl rfl rfl rfl (k_lit tE29 zA59 rfl rfl (by decide) (by decide) rfl rfl rfl ?_)
                    refine tn_first_q (i := 1) (listed' := #[true, true, true, true, true, true, true, true, true, true, true, true, true, true, true, true, false, false, false]) rfl rfl (by kernel_rfl) rfl (q_load tA29 rfl ?_)
                    refine tn_step [16] (by kernel_rfl) rfl ?_
                    refine ⟨?_, trivial⟩
                    refine tn_k (listed' := #[true, true, true, true, true, true, true, true, true, true, true, true, true, true, true, true, true, false, false]) rfl rfl rfl rfl (k_app tApp29 rfl rfl (by simp) rfl (.inl rfl) (by first | (simp [maxLen]; omega)) (by first | (simp; omega)) ?_)
                    refine tn_first_q (i := 17) (listed' := #[true, true, true, true, true, true, true, true, true, true, true, true, true, true, true, true, true, true, false]) rfl rfl (by kernel_rfl) rfl (q_fieldAddrP fO31_1 rfl rfl ?_)
                    refine tn_step [18] (by kernel_rfl) rfl ?_
                    refine ⟨?_, trivial⟩
                    refine tn_k (listed' := #[true, true, true, true, true, true, true, true, true, true, true, true, true, true, true, true, true, true, true]) rfl rfl rfl rfl (k_store sz29 rfl (by conv=>lhs;whnf) rfl rfl rfl (Nat.le_of_ble_eq_true rfl) rfl ?_)
                    refine tn_end (by kernel_rfl) (hK27 _ ?_); clear hK27
                    refine gr rfl ?_
                    refine em rfl (by conv=>lhs;whnf) ?_
                    refine ei rfl rfl rfl ?_
                    intro n43 hn43
                    replace hn43 := in64 hn43 (by omega) (by omega)
                    refine ea rfl (by conv=>lhs;whnf) ?_
                    refine ev_nil ?_
                    clear hK4
                    refine ⟨(u ++ [v41], a41, s41), ?_, ?_, ?_⟩
                    · exact ⟨⟨by simp; omega, idZ_app huz hyz⟩, by simp; omega⟩
                    · first | (simp; omega) | omega
                    · first | refine Sub.trans (sub_ren 64 900013 (by decide) rfl (by decide) rfl) ?_ | skip
                      refine sub_weak ?_ ?_
                      · exact weakH_box (boxEq (rfl)) rfl (weakH_box (boxEq (rfl)) rfl (weakH_boxR (boxEq (by first | rfl | (simp only [List.length_append, List.length_map, List.length_cons, List.length_nil]; rfl))) rfl (weakH_row (rowEq (rfl)) (weakH_row (rowEq (by first | rfl | (rw [List.map_append]; rfl))) (weakH_none _)))))
                      · refine weakE_upd ?e6 ?r6 (weakE_upd ?e5 ?r5 (weakE_upd ?e3 ?r3 (weakE_upd ?e2 ?r2 (weakE_upd ?e0 ?r0 (weakE_junk _ _)))))
                        case e0 => first | rfl | exact fI (by omega) | (simp_all)
                        case r0 => intro h hh; simp [refs] at hh; subst hh; rfl
                        case e2 => first | rfl | exact fI (by omega) | (simp_all)
                        case r2 => intro h hh; simp [refs] at hh; subst hh; rfl
                        case e3 => first | rfl | exact fI (by omega) | (simp_all)
                        case r3 => intro h hh; simp [refs] at hh; subst hh; rfl
                        case e5 => first | rfl | exact fI (by omega) | (simp_all)
                        case r5 => intro h hh; cases hh
                        case e6 => first | rfl | exact fI (by omega) | (first | rfl | exact fI (by simp; omega))
                        case r6 => intro h hh; cases hh
      · replace hb12 := eqT hb12
        refine ea rfl (by conv=>lhs;whnf) ?_
        refine ev_nil (hK11 _ ?_); clear hK11
        refine good_condT rfl ?_
        refine good_seq fun K44 hK44 => ?_
        refine gr rfl ?_
        refine em rfl (by conv=>lhs;whnf) ?_
        refine ev_k rfl (k_lit tE22 zA2 rfl rfl (by decide) (by decide) rfl rfl rfl ?_)
        refine ev_k rfl (k_callR [(1000000, 1000000), (1000001, 31)] (D_spec_l00Src_among cs _ _ [16, 17] hc hb (by omega) (by decide)) rfl (rfl) (rfl) ⟨rfl, ⟨rfl, trivial⟩⟩ rfl (by rintro ⟨v45, a45, s45⟩ ⟨hx45_0, hx45_1⟩; exact ⟨⟨rfl, rfl, ⟨rfl, ⟨rfl, rfl, by first | exact Nat.le_refl _ | (simp; done) | (simp; omega)⟩, trivial⟩⟩, rfl⟩) rfl rfl ?_)
        rintro ⟨v45, a45, s45⟩ ⟨hx45_0, hx45_1⟩
        simp only [List.mem_cons, List.not_mem_nil, or_false] at hx45_0
        refine ea rfl (by conv=>lhs;whnf) ?_
        refine ev_nil (hK44 _ ?_); clear hK44
        refine gr rfl ?_
        refine em rfl (by conv=>lhs;whnf) ?_
        refine ev_k rfl (k_make tE22 rfl rfl zA2 tBy2 rfl (by omega) (by omega) (by omega) rfl (by rfl) ?_)
        refine ev_q rfl (q_fieldAddrP fO31_0 rfl rfl ?_)
        refine ev_k rfl (k_store sz22 rfl (by conv=>lhs;whnf) rfl rfl rfl (Nat.le_of_ble_eq_true rfl) rfl ?_)
        refine ev_nil (hK4 _ ?_); clear hK4
        refine good_seq fun K46 hK46 => ?_
        refine gr rfl ?_
        refine ev_q rfl (q_loadA tA31 rfl rfl rfl ?_)
        refine ev_k rfl (k_store sz31 rfl (by conv=>lhs;whnf) rfl rfl rfl (Nat.le_of_ble_eq_true rfl) rfl ?_)
        refine ev_nil (hK46 _ ?_); clear hK46
        refine good_weak (sub_ren 34 900001 (by decide) rfl (by decide) rfl) ?_
        refine good_weak (sub_ren 900012 900002 (by decide) rfl (by decide) rfl) ?_
        refine good_ret ?_
        repeat first|refine thenQ_ret ?_|refine blockQ_ret ?_
        refine ex_6 (v := List.replicate v45.toNat 0) (a := W3) (b := j3) (c := m3) (d := a45) (e := s45) ?hF ?hR
        case hF =>
          refine fx_cell rfl tA31 rfl rfl rfl ?_
          exact ⟨_, conv_eq (by first | rfl | exact fAgg1 (by first | rfl | exact ownEq (by first | done | omega | (simp; done)) | (simp_all; done)) (fAgg1 (by first | rfl | exact ownEq (by first | done | omega | (simp; done)) | (simp_all; done)) (rfl))), weakH_box (boxEq (by first | rfl | (rw [e]; done) | (rw [e]; rfl) | (simp_all; done))) rfl (weakH_row (rowEq (by first | rfl | exact repC | (rw [List.map_set]; rfl))) (weakH_row (rowEq (by rfl)) (weakH_none _))), refsIn_ok rfl⟩
        case hR =>
          exact ⟨⟨by first | omega | (simp; done) | (simp; omega), by first | omega | (simp; omega), by first | assumption⟩, by omega⟩
    · replace hb10 := eqT hb10
      refine ea rfl (by conv=>lhs;whnf) ?_
      refine ev_nil (hK9 _ ?_); clear hK9
      refine good_condT rfl ?_
      refine good_any 8 (listed := #[false, false, false, false, false, false, false, false]) rfl rfl hmix rfl ?_
      refine tn_first_q (i := 0) (listed' := #[true, false, false, false, false, false, false, false]) rfl rfl (by kernel_rfl) rfl (q_fieldAddrP fO31_1 rfl rfl ?_)
      refine tn_first_q (i := 2) (listed' := #[true, false, true, false, false, false, false, false]) rfl rfl (by kernel_rfl) rfl (q_move (by conv=>lhs;whnf) ?_)
      refine tn_step [1, 3] (by kernel_rfl) rfl ?_
      refine ⟨?_, ?_, trivial⟩
      · refine tn_q (listed' := #[true, true, true, false, false, false, false, false]) rfl rfl rfl (q_load tA29 rfl ?_)
        refine tn_step [3] (by kernel_rfl) rfl ?_
        refine ⟨?_, trivial⟩
        refine tn_k (listed' := #[true, true, true, true, false, false, false, false]) rfl rfl rfl rfl (k_callR [(1000000, 1000000)] (D_spec_l03Bent cs _ _ hc hb (by omega)) rfl (rfl) (rfl) ⟨rfl, trivial⟩ rfl (by rintro ⟨v47, a47, s47⟩ ⟨hx47_0, hx47_1⟩; exact ⟨⟨rfl, rfl, trivial⟩, rfl⟩) rfl rfl ?_)
        rintro ⟨v47, a47, s47⟩ ⟨hx47_0, hx47_1⟩
        have hz24 := hx47_0
        refine tn_step [4] (by kernel_rfl) rfl ?_
        refine ⟨?_, trivial⟩
        refine tn_k (listed' := #[true, true, true, true, true, false, false, false]) rfl rfl rfl rfl (k_lit tE29 zA59 rfl rfl (by decide) (by decide) rfl rfl rfl ?_)
        refine tn_step [5] (by kernel_rfl) rfl ?_
        refine ⟨?_, trivial⟩
        refine tn_k (listed' := #[true, true, true, true, true, true, false, false]) rfl rfl rfl rfl (k_appL tApp29 rfl rfl (by rw [List.length_map]; exact hjl) rfl (.inl rfl) (by first | (simp [maxLen]; omega)) (by first | (simp; omega)) ?_)
        rintro W48 j48 hW48
        obtain ⟨Q, hQe, hQl, hQ12, hQz⟩ := app_Q hjm hWz hz24 hW48
        subst hQe
        refine tn_first_q (i := 6) (listed' := #[true, true, true, true, true, true, true, false]) rfl rfl (by kernel_rfl) rfl (q_fieldAddrP fO31_1 rfl rfl ?_)
        refine tn_step [7] (by kernel_rfl) rfl ?_
        refine ⟨?_, trivial⟩
        refine tn_k (listed' := #[true, true, true, true, true, true, true, true]) rfl rfl rfl rfl (k_store sz29 rfl (by conv=>lhs;whnf) rfl rfl rfl (Nat.le_of_ble_eq_true rfl) rfl ?_)
        refine tn_end (by kernel_rfl) (hK4 _ ?_); clear hK4
        refine good_seq fun K49 hK49 => ?_
        refine gr rfl ?_
        refine ev_q rfl (q_loadA tA31 rfl rfl rfl ?_)
        refine ev_k rfl (k_store sz31 rfl (by conv=>lhs;whnf) rfl rfl rfl (Nat.le_of_ble_eq_true rfl) rfl ?_)
        refine ev_nil (hK49 _ ?_); clear hK49
        refine good_weak (sub_ren 900011 900001 (by decide) rfl (by decide) rfl) ?_
        refine good_weak (sub_ren 26 900002 (by decide) rfl (by decide) rfl) ?_
        refine good_ret ?_
        repeat first|refine thenQ_ret ?_|refine blockQ_ret ?_
        refine ex_6 (v := n3) (a := Q) (b := j48) (c := m3 + 1) (d := a47) (e := s47) ?hF ?hR
        case hF =>
          refine fx_cell rfl tA31 rfl rfl rfl ?_
          exact ⟨_, conv_eq (by first | rfl | exact fAgg1 (by first | rfl | exact ownEq (by first | done | omega | (simp; done)) | (simp_all; done)) (fAgg1 (by first | rfl | exact ownEq (by first | done | omega | (simp; done)) | (simp_all; done)) (rfl))), weakH_box (boxEq (by first | rfl | (rw [e]; done) | (rw [e]; rfl) | (simp_all; done))) rfl (weakH_row (rowEq (by first | rfl | exact repC | (rw [List.map_set]; rfl))) (weakH_row (rowEq (by rfl)) (weakH_none _))), refsIn_ok rfl⟩
        case hR =>
          exact ⟨⟨by first | omega | (simp; done) | (simp; omega), by first | omega | (simp; omega), by first | assumption⟩, by omega⟩
      · refine tn_k (listed' := #[true, false, true, true, false, false, false, false]) rfl rfl rfl rfl (k_callR [(1000000, 1000000)] (D_spec_l03Bent cs _ _ hc hb (by omega)) rfl (rfl) (rfl) ⟨rfl, trivial⟩ rfl (by rintro ⟨v50, a50, s50⟩ ⟨hx50_0, hx50_1⟩; exact ⟨⟨rfl, rfl, trivial⟩, rfl⟩) rfl rfl ?_)
        rintro ⟨v50, a50, s50⟩ ⟨hx50_0, hx50_1⟩
        have hz24 := hx50_0
        refine tn_step [1, 4] (by kernel_rfl) rfl ?_
        refine ⟨?_, ?_, trivial⟩
        · refine tn_q (listed' := #[true, true, true, true, false, false, false, false]) rfl rfl rfl (q_load tA29 rfl ?_)
          refine tn_step [4] (by kernel_rfl) rfl ?_
          refine ⟨?_, trivial⟩
          refine tn_k (listed' := #[true, true, true, true, true, false, false, false]) rfl rfl rfl rfl (k_lit tE29 zA59 rfl rfl (by decide) (by decide) rfl rfl rfl ?_)
          refine tn_step [5] (by kernel_rfl) rfl ?_
          refine ⟨?_, trivial⟩
          refine tn_k (listed' := #[true, true, true, true, true, true, false, false]) rfl rfl rfl rfl (k_appL tApp29 rfl rfl (by rw [List.length_map]; exact hjl) rfl (.inl rfl) (by first | (simp [maxLen]; omega)) (by first | (simp; omega)) ?_)
          rintro W51 j51 hW51
          obtain ⟨Q, hQe, hQl, hQ12, hQz⟩ := app_Q hjm hWz hz24 hW51
          subst hQe
          refine tn_first_q (i := 6) (listed' := #[true, true, true, true, true, true, true, false]) rfl rfl (by kernel_rfl) rfl (q_fieldAddrP fO31_1 rfl rfl ?_)
          refine tn_step [7] (by kernel_rfl) rfl ?_
          refine ⟨?_, trivial⟩
          refine tn_k (listed' := #[true, true, true, true, true, true, true, true]) rfl rfl rfl rfl (k_store sz29 rfl (by conv=>lhs;whnf) rfl rfl rfl (Nat.le_of_ble_eq_true rfl) rfl ?_)
          refine tn_end (by kernel_rfl) (hK4 _ ?_); clear hK4
          refine good_seq fun K52 hK52 => ?_
          refine gr rfl ?_
          refine ev_q rfl (q_loadA tA31 rfl rfl rfl ?_)
          refine ev_k rfl (k_store sz31 rfl (by conv=>lhs;whnf) rfl rfl rfl (Nat.le_of_ble_eq_true rfl) rfl ?_)
          refine ev_nil (hK52 _ ?_); clear hK52
          refine good_weak (sub_ren 900011 900001 (by decide) rfl (by decide) rfl) ?_
          refine good_weak (sub_ren 26 900002 (by decide) rfl (by decide) rfl) ?_
          refine good_ret ?_
          repeat first|refine thenQ_ret ?_|refine blockQ_ret ?_
          refine ex_6 (v := n3) (a := Q) (b := j51) (c := m3 + 1) (d := a50) (e := s50) ?hF ?hR
          case hF =>
            refine fx_cell rfl tA31 rfl rfl rfl ?_
            exact ⟨_, conv_eq (by first | rfl | exact fAgg1 (by first | rfl | exact ownEq (by first | done | omega | (simp; done)) | (simp_all; done)) (fAgg1 (by first | rfl | exact ownEq (by first | done | omega | (simp; done)) | (simp_all; done)) (rfl))), weakH_box (boxEq (by first | rfl | (rw [e]; done) | (rw [e]; rfl) | (simp_all; done))) rfl (weakH_row (rowEq (by first | rfl | exact repC | (rw [List.map_set]; rfl))) (weakH_row (rowEq (by rfl)) (weakH_none _))), refsIn_ok rfl⟩
          case hR =>
            exact ⟨⟨by first | omega | (simp; done) | (simp; omega), by first | omega | (simp; omega), by first | assumption⟩, by omega⟩
        · refine tn_k (listed' := #[true, false, true, true, true, false, false, false]) rfl rfl rfl rfl (k_lit tE29 zA59 rfl rfl (by decide) (by decide) rfl rfl rfl ?_)
          refine tn_first_q (i := 1) (listed' := #[true, true, true, true, true, false, false, false]) rfl rfl (by kernel_rfl) rfl (q_load tA29 rfl ?_)
          refine tn_step [5] (by kernel_rfl) rfl ?_
          refine ⟨?_, trivial⟩
          refine tn_k (listed' := #[true, true, true, true, true, true, false, false]) rfl rfl rfl rfl (k_appL tApp29 rfl rfl (by rw [List.length_map]; exact hjl) rfl (.inl rfl) (by first | (simp [maxLen]; omega)) (by first | (simp; omega)) ?_)
          rintro W53 j53 hW53
          obtain ⟨Q, hQe, hQl, hQ12, hQz⟩ := app_Q hjm hWz hz24 hW53
          subst hQe
          refine tn_first_q (i := 6) (listed' := #[true, true, true, true, true, true, true, false]) rfl rfl (by kernel_rfl) rfl (q_fieldAddrP fO31_1 rfl rfl ?_)
          refine tn_step [7] (by kernel_rfl) rfl ?_
          refine ⟨?_, trivial⟩
          refine tn_k (listed' := #[true, true, true, true, true, true, true, true]) rfl rfl rfl rfl (k_store sz29 rfl (by conv=>lhs;whnf) rfl rfl rfl (Nat.le_of_ble_eq_true rfl) rfl ?_)
          refine tn_end (by kernel_rfl) (hK4 _ ?_); clear hK4
          refine good_seq fun K54 hK54 => ?_
          refine gr rfl ?_
          refine ev_q rfl (q_loadA tA31 rfl rfl rfl ?_)
          refine ev_k rfl (k_store sz31 rfl (by conv=>lhs;whnf) rfl rfl rfl (Nat.le_of_ble_eq_true rfl) rfl ?_)
          refine ev_nil (hK54 _ ?_); clear hK54
          refine good_weak (sub_ren 900011 900001 (by decide) rfl (by decide) rfl) ?_
          refine good_weak (sub_ren 26 900002 (by decide) rfl (by decide) rfl) ?_
          refine good_ret ?_
          repeat first|refine thenQ_ret ?_|refine blockQ_ret ?_
          refine ex_6 (v := n3) (a := Q) (b := j53) (c := m3 + 1) (d := a50) (e := s50) ?hF ?hR
          case hF =>
            refine fx_cell rfl tA31 rfl rfl rfl ?_
            exact ⟨_, conv_eq (by first | rfl | exact fAgg1 (by first | rfl | exact ownEq (by first | done | omega | (simp; done)) | (simp_all; done)) (fAgg1 (by first | rfl | exact ownEq (by first | done | omega | (simp; done)) | (simp_all; done)) (rfl))), weakH_box (boxEq (by first | rfl | (rw [e]; done) | (rw [e]; rfl) | (simp_all; done))) rfl (weakH_row (rowEq (by first | rfl | exact repC | (rw [List.map_set]; rfl))) (weakH_row (rowEq (by rfl)) (weakH_none _))), refsIn_ok rfl⟩
          case hR =>
            exact ⟨⟨by first | omega | (simp; done) | (simp; omega), by first | omega | (simp; omega), by first | assumption⟩, by omega⟩
  · replace hb8 := eqT hb8
    refine ea rfl (by conv=>lhs;whnf) ?_
    refine ev_nil (hK7 _ ?_); clear hK7
    refine good_condT rfl ?_
    refine good_any 7 (listed := #[false, false, false, false, false, false, false]) rfl rfl hmix rfl ?_
    refine tn_first_q (i := 0) (listed' := #[true, false, false, false, false, false, false]) rfl rfl (by kernel_rfl) rfl (q_fieldAddrP fO31_0 rfl rfl ?_)
    refine tn_first_q (i := 2) (listed' := #[true, false, true, false, false, false, false]) rfl rfl (by kernel_rfl) rfl (q_move (by conv=>lhs;whnf) ?_)
    refine tn_step [1, 3] (by kernel_rfl) rfl ?_
    refine ⟨?_, ?_, trivial⟩
    · refine tn_q (listed' := #[true, true, true, false, false, false, false]) rfl rfl rfl (q_load tA22 rfl ?_)
      refine tn_step [3] (by kernel_rfl) rfl ?_
      refine ⟨?_, trivial⟩
      refine tn_k (listed' := #[true, true, true, true, false, false, false]) rfl rfl rfl rfl (k_lit tE22 zA2 rfl rfl (by decide) (by decide) rfl rfl rfl ?_)
      refine tn_step [4] (by kernel_rfl) rfl ?_
      refine ⟨?_, trivial⟩
      refine tn_k (listed' := #[true, true, true, true, true, false, false]) rfl rfl rfl rfl (k_callR [(1000000, 1000000), (1000001, 16)] (D_spec_l00Src_among cs _ _ [(-100001), (-100000), 100000, 100001] hc hb (by omega) (by decide)) rfl (rfl) (rfl) ⟨rfl, ⟨rfl, trivial⟩⟩ rfl (by rintro ⟨v55, a55, s55⟩ ⟨hx55_0, hx55_1⟩; exact ⟨⟨rfl, rfl, ⟨rfl, ⟨rfl, rfl, by first | exact Nat.le_refl _ | (simp; done) | (simp; omega)⟩, trivial⟩⟩, rfl⟩) rfl rfl ?_)
      rintro ⟨v55, a55, s55⟩ ⟨hx55_0, hx55_1⟩
      simp only [List.mem_cons, List.not_mem_nil, or_false] at hx55_0
      refine tn_first_q (i := 5) (listed' := #[true, true, true, true, true, true, false]) rfl rfl (by kernel_rfl) rfl (q_idxO tE22 rfl rfl rfl (by omega) (by omega) rfl ?_)
      refine tn_step [6] (by kernel_rfl) rfl ?_
      refine ⟨?_, trivial⟩
      refine tn_k (listed' := #[true, true, true, true, true, true, true]) rfl rfl rfl rfl (k_storeE sz2 rfl (by conv=>lhs;whnf) rfl rfl rfl (Nat.le_of_ble_eq_true rfl) rfl (by exact map_get (show n3[(0 : Int).toNat]? = some _ from List.getElem?_eq_getElem (by show 0 < _; omega))) (Nat.le_of_ble_eq_true rfl) rfl ?_)
      refine tn_end (by kernel_rfl) (hK4 _ ?_); clear hK4
      refine good_seq fun K56 hK56 => ?_
      refine gr rfl ?_
      refine ev_q rfl (q_loadA tA31 rfl rfl rfl ?_)
      refine ev_k rfl (k_store sz31 rfl (by conv=>lhs;whnf) rfl rfl rfl (Nat.le_of_ble_eq_true rfl) rfl ?_)
      refine ev_nil (hK56 _ ?_); clear hK56
      refine good_weak (sub_ren 900011 900001 (by decide) rfl (by decide) rfl) ?_
      refine good_weak (sub_ren 900012 900002 (by decide) rfl (by decide) rfl) ?_
      refine good_ret ?_
      repeat first|refine thenQ_ret ?_|refine blockQ_ret ?_
      refine ex_6 (v := n3.set 0 v55) (a := W3) (b := j3) (c := m3) (d := a55) (e := s55) ?hF ?hR
      case hF =>
        refine fx_cell rfl tA31 rfl rfl rfl ?_
        exact ⟨_, conv_eq (by first | rfl | exact fAgg1 (by first | rfl | exact ownEq (by first | done | omega | (simp; done)) | (simp_all; done)) (fAgg1 (by first | rfl | exact ownEq (by first | done | omega | (simp; done)) | (simp_all; done)) (rfl))), weakH_box (boxEq (by first | rfl | (rw [e]; done) | (rw [e]; rfl) | (simp_all; done))) rfl (weakH_row (rowEq (by first | rfl | exact repC | (rw [List.map_set]; rfl))) (weakH_row (rowEq (by rfl)) (weakH_none _))), refsIn_ok rfl⟩
      case hR =>
        exact ⟨⟨by first | omega | (simp; done) | (simp; omega), by first | omega | (simp; omega), by first | assumption⟩, by omega⟩
    · refine tn_k (listed' := #[true, false, true, true, false, false, false]) rfl rfl rfl rfl (k_lit tE22 zA2 rfl rfl (by decide) (by decide) rfl rfl rfl ?_)
      refine tn_step [1, 4] (by kernel_rfl) rfl ?_
      refine ⟨?_, ?_, trivial⟩
      · refine tn_q (listed' := #[true, true, true, true, false, false, false]) rfl rfl rfl (q_load tA22 rfl ?_)
        refine tn_step [4] (by kernel_rfl) rfl ?_
        refine ⟨?_, trivial⟩
        refine tn_k (listed' := #[true, true, true, true, true, false, false]) rfl rfl rfl rfl (k_callR [(1000000, 1000000), (1000001, 16)] (D_spec_l00Src_among cs _ _ [(-100001), (-100000), 100000, 100001] hc hb (by omega) (by decide)) rfl (rfl) (rfl) ⟨rfl, ⟨rfl, trivial⟩⟩ rfl (by rintro ⟨v57, a57, s57⟩ ⟨hx57_0, hx57_1⟩; exact ⟨⟨rfl, rfl, ⟨rfl, ⟨rfl, rfl, by first | exact Nat.le_refl _ | (simp; done) | (simp; omega)⟩, trivial⟩⟩, rfl⟩) rfl rfl ?_)
        rintro ⟨v57, a57, s57⟩ ⟨hx57_0, hx57_1⟩
        simp only [List.mem_cons, List.not_mem_nil, or_false] at hx57_0
        refine tn_first_q (i := 5) (listed' := #[true, true, true, true, true, true, false]) rfl rfl (by kernel_rfl) rfl (q_idxO tE22 rfl rfl rfl (by omega) (by omega) rfl ?_)
        refine tn_step [6] (by kernel_rfl) rfl ?_
        refine ⟨?_, trivial⟩
        refine tn_k (listed' := #[true, true, true, true, true, true, true]) rfl rfl rfl rfl (k_storeE sz2 rfl (by conv=>lhs;whnf) rfl rfl rfl (Nat.le_of_ble_eq_true rfl) rfl (by exact map_get (show n3[(0 : Int).toNat]? = some _ from List.getElem?_eq_getElem (by show 0 < _; omega))) (Nat.le_of_ble_eq_true rfl) rfl ?_)
        refine tn_end (by kernel_rfl) (hK4 _ ?_); clear hK4
        refine good_seq fun K58 hK58 => ?_
        refine gr rfl ?_
        refine ev_q rfl (q_loadA tA31 rfl rfl rfl ?_)
        refine ev_k rfl (k_store sz31 rfl (by conv=>lhs;whnf) rfl rfl rfl (Nat.le_of_ble_eq_true rfl) rfl ?_)
        refine ev_nil (hK58 _ ?_); clear hK58
        refine good_weak (sub_ren 900011 900001 (by decide) rfl (by decide) rfl) ?_
        refine good_weak (sub_ren 900012 900002 (by decide) rfl (by decide) rfl) ?_
        refine good_ret ?_
        repeat first|refine thenQ_ret ?_|refine blockQ_ret ?_
        refine ex_6 (v := n3.set 0 v57) (a := W3) (b := j3) (c := m3) (d := a57) (e := s57) ?hF ?hR
        case hF =>
          refine fx_cell rfl tA31 rfl rfl rfl ?_
          exact ⟨_, conv_eq (by first | rfl | exact fAgg1 (by first | rfl | exact ownEq (by first | done | omega | (simp; done)) | (simp_all; done)) (fAgg1 (by first | rfl | exact ownEq (by first | done | omega | (simp; done)) | (simp_all; done)) (rfl))), weakH_box (boxEq (by first | rfl | (rw [e]; done) | (rw [e]; rfl) | (simp_all; done))) rfl (weakH_row (rowEq (by first | rfl | exact repC | (rw [List.map_set]; rfl))) (weakH_row (rowEq (by rfl)) (weakH_none _))), refsIn_ok rfl⟩
        case hR =>
          exact ⟨⟨by first | omega | (simp; done) | (simp; omega), by first | omega | (simp; omega), by first | assumption⟩, by omega⟩
      · refine tn_k (listed' := #[true, false, true, true, true, false, false]) rfl rfl rfl rfl (k_callR [(1000000, 1000000), (1000001, 16)] (D_spec_l00Src_among cs _ _ [(-100001), (-100000), 100000, 100001] hc hb (by omega) (by decide)) rfl (rfl) (rfl) ⟨rfl, ⟨rfl, trivial⟩⟩ rfl (by rintro ⟨v59, a59, s59⟩ ⟨hx59_0, hx59_1⟩; exact ⟨⟨rfl, rfl, ⟨rfl, ⟨rfl, rfl, by first | exact Nat.le_refl _ | (simp; done) | (simp; omega)⟩, trivial⟩⟩, rfl⟩) rfl rfl ?_)
        rintro ⟨v59, a59, s59⟩ ⟨hx59_0, hx59_1⟩
        simp only [List.mem_cons, List.not_mem_nil, or_false] at hx59_0
        refine tn_first_q (i := 1) (listed' := #[true, true, true, true, true, false, false]) rfl rfl (by kernel_rfl) rfl (q_load tA22 rfl ?_)
        refine tn_first_q (i := 5) (listed' := #[true, true, true, true, true, true, false]) rfl rfl (by kernel_rfl) rfl (q_idxO tE22 rfl rfl rfl (by omega) (by omega) rfl ?_)
        refine tn_step [6] (by kernel_rfl) rfl ?_
        refine ⟨?_, trivial⟩
        refine tn_k (listed' := #[true, true, true, true, true, true, true]) rfl rfl rfl rfl (k_storeE sz2 rfl (by conv=>lhs;whnf) rfl rfl rfl (Nat.le_of_ble_eq_true rfl) rfl (by exact map_get (show n3[(0 : Int).toNat]? = some _ from List.getElem?_eq_getElem (by show 0 < _; omega))) (Nat.le_of_ble_eq_true rfl) rfl ?_)
        refine tn_end (by kernel_rfl) (hK4 _ ?_); clear hK4
        refine good_seq fun K60 hK60 => ?_
        refine gr rfl ?_
        refine ev_q rfl (q_loadA tA31 rfl rfl rfl ?_)
        refine ev_k rfl (k_store sz31 rfl (by conv=>lhs;whnf) rfl rfl rfl (Nat.le_of_ble_eq_true rfl) rfl ?_)
        refine ev_nil (hK60 _ ?_); clear hK60
        refine good_weak (sub_ren 900011 900001 (by decide) rfl (by decide) rfl) ?_
        refine good_weak (sub_ren 900012 900002 (by decide) rfl (by decide) rfl) ?_
        refine good_ret ?_
        repeat first|refine thenQ_ret ?_|refine blockQ_ret ?_
        refine ex_6 (v := n3.set 0 v59) (a := W3) (b := j3) (c := m3) (d := a59) (e := s59) ?hF ?hR
        case hF =>
          refine fx_cell rfl tA31 rfl rfl rfl ?_
          exact ⟨_, conv_eq (by first | rfl | exact fAgg1 (by first | rfl | exact ownEq (by first | done | omega | (simp; done)) | (simp_all; done)) (fAgg1 (by first | rfl | exact ownEq (by first | done | omega | (simp; done)) | (simp_all; done)) (rfl))), weakH_box (boxEq (by first | rfl | (rw [e]; done) | (rw [e]; rfl) | (simp_all; done))) rfl (weakH_row (rowEq (by first | rfl | exact repC | (rw [List.map_set]; rfl))) (weakH_row (rowEq (by rfl)) (weakH_none _))), refsIn_ok rfl⟩
        case hR =>
          exact ⟨⟨by first | omega | (simp; done) | (simp; omega), by first | omega | (simp; omega), by first | assumption⟩, by omega⟩

-- spec.l00Max
theorem D_spec_l00Max (a b : Int)  : Den Try.prog 144 [.s (.int .i64 a), .s (.int .i64 b)] (.s (.int .i64 (if a > b then a else b))) := by
  refine den_of_good Try.func144 (by decide) rfl (Nat.le_of_ble_eq_true rfl) (Nat.le_of_ble_eq_true rfl) ?_
  refine good_seq fun K1 hK1 => ?_
  refine gr rfl ?_
  refine ea rfl (by conv=>lhs;whnf) ?_
  refine ev_nil (hK1 _ ?_); clear hK1
  refine good_seq fun K2 hK2 => ?_
  refine good_seq fun K3 hK3 => ?_
  refine gr rfl ?_
  refine em rfl (by conv=>lhs;whnf) ?_
  refine em rfl (by conv=>lhs;whnf) ?_
  refine ei rfl rfl rfl ?_
  intro b4 hb4; cases b4
  · replace hb4 := dF hb4
    refine ev_nil (hK3 _ ?_); clear hK3
    refine good_condF rfl ?_
    refine good_skip (hK2 _ ?_); clear hK2
    refine good_seq fun K5 hK5 => ?_
    refine gr rfl ?_
    refine em rfl (by conv=>lhs;whnf) ?_
    refine ea rfl (by conv=>lhs;whnf) ?_
    refine ev_nil (hK5 _ ?_); clear hK5
    refine good_ret ?_
    repeat first|refine thenQ_ret ?_|refine blockQ_ret ?_
    refine ret_tmp (st := _) rfl (by conv=>lhs;whnf) rfl ?_
    first | rfl | exact fI (by first | omega | grind) | (exfalso; first | omega | grind)
  · replace hb4 := dT hb4
    refine ev_nil (hK3 _ ?_); clear hK3
    refine good_condT rfl ?_
    refine good_seq fun K6 hK6 => ?_
    refine gr rfl ?_
    refine em rfl (by conv=>lhs;whnf) ?_
    refine ea rfl (by conv=>lhs;whnf) ?_
    refine ev_nil (hK6 _ ?_); clear hK6
    refine good_ret ?_
    repeat first|refine thenQ_ret ?_|refine blockQ_ret ?_
    refine ret_tmp (st := _) rfl (by conv=>lhs;whnf) rfl ?_
    clear hK2
    first | rfl | exact fI (by first | omega | grind) | (exfalso; first | omega | grind)

-- spec.l04DrawNode
theorem D_spec_l04DrawNode (cs : List Int) (a s : Int) (ns : List Int) (W : List Pi) (j m : Nat) (hc : cs.length ≤ 17592186044416) (hb : byteL cs) (ha : 0 ≤ a ∧ a ≤ 2000000000000) (hnl : ns.length ≤ 1000) : DenXR Try.prog 77 [(1000000, .box 154 (src cs a s)), (1000001, .box 31 [.own 1000002 ns.length, .osl 1000003 j m]), (1000002, .row 2 1 (ns.map ci)), (1000003, .row 59 6 (W.map piA))] [.ptr 1000000 0, .ptr 1000001 0] (τ := Int × Int × Int) (fun (v, a1, s1) => True ∧ (a ≤ a1 ∧ a1 ≤ a + 6)) (fun (v, a1, s1) => [(1000000, .box 154 (src cs a1 s1)), (1000001, .box 31 [.own 1000002 ns.length, .osl 1000003 j m]), (1000002, .row 2 1 (ns.map ci)), (1000003, .row 59 6 (W.map piA))]) (fun (v, a1, s1) => .s (.int .i64 v)) := by
  refine denXR_of_good Try.func77 (by decide) rfl (Nat.le_of_ble_eq_true rfl) (Nat.le_of_ble_eq_true rfl) rfl ?_
  refine good_seq fun K1 hK1 => ?_
  refine gr rfl ?_
  refine ea rfl (by conv=>lhs;whnf) ?_
  refine ev_nil (hK1 _ ?_); clear hK1
  refine good_seq fun K2 hK2 => ?_
  refine good_seq fun K3 hK3 => ?_
  refine gr rfl ?_
  refine em rfl (by conv=>lhs;whnf) ?_
  refine ev_k rfl (k_callR [(1000000, 1000000)] (D_spec_l00Src_one cs _ _ _ hc hb (by omega) (by omega)) rfl (rfl) (rfl) ⟨rfl, trivial⟩ rfl (by rintro ⟨v4, a4, s4⟩ ⟨hx4_0, hx4_1⟩; exact ⟨⟨rfl, rfl, trivial⟩, rfl⟩) rfl rfl ?_)
  rintro ⟨v4, a4, s4⟩ ⟨hx4_0, hx4_1⟩
  cases v4
  · refine ev_nil (hK3 _ ?_); clear hK3
    refine good_condF rfl ?_
    refine good_skip (hK2 _ ?_); clear hK2
    refine good_seq fun K5 hK5 => ?_
    refine gr rfl ?_
    refine em rfl (by conv=>lhs;whnf) ?_
    refine em rfl (by conv=>lhs;whnf) ?_
    refine ev_q rfl (q_nilCheck (by conv=>lhs;whnf) rfl ?_)
    refine ev_q rfl (q_fieldAddrP fO31_0 rfl rfl ?_)
    refine ev_q rfl (q_load tA22 rfl ?_)
    refine ev_q rfl (q_len tEs22 rfl ?_)
    intro n6 hn6
    try simp only [List.length_map] at hn6
    refine ev_q rfl (q_callI rfl rfl (rfl) (D_spec_l00Max ..) ?_)
    intro n7 hn7
    refine ev_k rfl (k_callR [(1000000, 1000000)] (D_spec_l00Src_pick cs _ _ _ hc hb (by omega) (by omega)) rfl (rfl) (rfl) ⟨rfl, trivial⟩ rfl (by rintro ⟨v8, a8, s8⟩ ⟨hx8_0, hx8_1⟩; exact ⟨⟨rfl, rfl, trivial⟩, rfl⟩) rfl rfl ?_)
    rintro ⟨v8, a8, s8⟩ ⟨hx8_0, hx8_1⟩
    refine ea rfl (by conv=>lhs;whnf) ?_
    refine ev_nil (hK5 _ ?_); clear hK5
    refine good_ret ?_
    repeat first|refine thenQ_ret ?_|refine blockQ_ret ?_
    refine ex_3 (v := v8) (a := a8) (b := s8) ?hF ?hR
    case hF =>
      refine fx_tmp rfl (by conv=>lhs;whnf) ?_
      exact ⟨_, conv_eq (by first | rfl | exact fI (by first | omega | grind) | (exfalso; first | omega | grind)), weakH_box (boxEq (by first | rfl | (rw [e]; done) | (rw [e]; rfl) | (simp_all; done))) rfl (weakH_boxR (boxEq (by first | rfl | (rw [e]; done) | (rw [e]; rfl) | (simp_all; done))) rfl (weakH_row (rowEq (by first | rfl | (rw [e]; done) | (rw [e]; rfl) | (simp_all; done))) (weakH_row (rowEq (by first | rfl | (rw [e]; done) | (rw [e]; rfl) | (simp_all; done))) (weakH_none _)))), refsIn_ok rfl⟩
    case hR =>
      exact ⟨trivial, by omega⟩
  · refine ev_nil (hK3 _ ?_); clear hK3
    refine good_condT rfl ?_
    refine good_seq fun K9 hK9 => ?_
    refine gr rfl ?_
    refine em rfl (by conv=>lhs;whnf) ?_
    refine em rfl (by conv=>lhs;whnf) ?_
    refine ev_q rfl (q_nilCheck (by conv=>lhs;whnf) rfl ?_)
    refine ev_q rfl (q_fieldAddrP fO31_0 rfl rfl ?_)
    refine ev_q rfl (q_load tA22 rfl ?_)
    refine ev_q rfl (q_len tEs22 rfl ?_)
    intro n10 hn10
    try simp only [List.length_map] at hn10
    refine ev_k rfl (k_lit tE22 zA2 rfl rfl (by decide) (by decide) rfl rfl rfl ?_)
    refine ev_k rfl (k_callR [(1000000, 1000000), (1000001, 13)] (D_spec_l00Src_among cs _ _ [-1, n10, 0] hc hb (by omega) (by simp)) rfl (rfl) (rfl) ⟨rfl, ⟨rfl, trivial⟩⟩ rfl (by rintro ⟨v11, a11, s11⟩ ⟨hx11_0, hx11_1⟩; exact ⟨⟨rfl, rfl, ⟨rfl, ⟨rfl, rfl, by first | exact Nat.le_refl _ | (simp; done) | (simp; omega)⟩, trivial⟩⟩, rfl⟩) rfl rfl ?_)
    rintro ⟨v11, a11, s11⟩ ⟨hx11_0, hx11_1⟩
    refine ea rfl (by conv=>lhs;whnf) ?_
    refine ev_nil (hK9 _ ?_); clear hK9
    refine good_ret ?_
    repeat first|refine thenQ_ret ?_|refine blockQ_ret ?_
    clear hK2
    refine ex_3 (v := v11) (a := a11) (b := s11) ?hF ?hR
    case hF =>
      refine fx_tmp rfl (by conv=>lhs;whnf) ?_
      exact ⟨_, conv_eq (by first | rfl | exact fI (by first | omega | grind) | (exfalso; first | omega | grind)), weakH_box (boxEq (by first | rfl | (rw [e]; done) | (rw [e]; rfl) | (simp_all; done))) rfl (weakH_boxR (boxEq (by first | rfl | (rw [e]; done) | (rw [e]; rfl) | (simp_all; done))) rfl (weakH_row (rowEq (by first | rfl | (rw [e]; done) | (rw [e]; rfl) | (simp_all; done))) (weakH_row (rowEq (by first | rfl | (rw [e]; done) | (rw [e]; rfl) | (simp_all; done))) (weakH_none _)))), refsIn_ok rfl⟩
    case hR =>
      exact ⟨trivial, by omega⟩

-- spec.l04DrawClosed
theorem D_spec_l04DrawClosed (cs : List Int) (a s : Int) (ns : List Int) (W : List Pi) (j m : Nat) (hc : cs.length ≤ 17592186044416) (hb : byteL cs) (ha : 0 ≤ a ∧ a ≤ 2000000000000) (hnl : ns.length ≤ 1000) (hm : m ≤ 1000) : DenXR Try.prog 80 [(1000000, .box 154 (src cs a s)), (1000001, .box 31 [.own 1000002 ns.length, .osl 1000003 j m]), (1000002, .row 2 1 (ns.map ci)), (1000003, .row 59 6 (W.map piA))] [.ptr 1000000 0, .ptr 1000001 0] (τ := List Int × Int × Int) (fun (v, a1, s1) => v.length ≤ 1001 ∧ (a ≤ a1 ∧ a1 ≤ a + 3000)) (fun (v, a1, s1) => [(1000000, .box 154 (src cs a1 s1)), (1000001, .box 31 [.own 1000002 ns.length, .osl 1000003 j m]), (1000002, .row 2 1 (ns.map ci)), (1000003, .row 59 6 (W.map piA)), (900001, .row 2 1 (v.map ci))]) (fun (v, a1, s1) => .own 900001 v.length) := by
  refine denXR_of_good Try.func80 (by decide) rfl (Nat.le_of_ble_eq_true rfl) (Nat.le_of_ble_eq_true rfl) rfl ?_
  refine good_seq fun K1 hK1 => ?_
  refine gr rfl ?_
  refine ea rfl (by conv=>lhs;whnf) ?_
  refine ev_nil (hK1 _ ?_); clear hK1
  refine good_seq fun K2 hK2 => ?_
  refine gr rfl ?_
  refine ev_k rfl (k_lit tE22 zA2 rfl rfl (by decide) (by decide) rfl rfl rfl ?_)
  refine ea rfl (by conv=>lhs;whnf) ?_
  refine ev_nil (hK2 _ ?_); clear hK2
  refine good_seq fun K3 hK3 => ?_
  refine good_seq fun K4 hK4 => ?_
  refine gr rfl ?_
  refine ea rfl (by conv=>lhs;whnf) ?_
  refine ev_nil (hK4 _ ?_); clear hK4
  refine good_block ?_
  refine good_loop (α := List Int × Nat × Int × Int) (fun (u, k, a1, s1) => { env := upd (upd (upd (upd ((fun _ => .junk)) 0 (.ptr 1000000 0)) 1 (.ptr 1000001 0)) 5 (.own 20 u.length)) 6 (.s (.int .i64 ((k : Int)))), H := upd (upd (upd (upd (upd ((fun _ => none)) 20 (some (.row 2 1 (u.map ci)))) 1000003 (some (.row 59 6 (W.map piA)))) 1000002 (some (.row 2 1 (ns.map ci)))) 1000001 (some (.box 31 [.own 1000002 ns.length, .osl 1000003 j m]))) 1000000 (some (.box 154 (src cs a1 s1))) }) (fun (u, k, a1, s1) => (u.length ≤ k ∧ k ≤ m) ∧ (a ≤ a1 ∧ a1 ≤ a + 2 * k)) (fun (u, k, a1, s1) => m - k) ([], 0, a, s) ?_ ?_ ?_
  · exact ⟨⟨by simp, by omega⟩, by omega⟩
  · refine Sub.trans (sub_move 5 7 20 rfl rfl rfl (by decide)) ?_
    refine sub_weak ?_ ?_
    · exact weakH_box (boxEq (rfl)) rfl (weakH_boxR (boxEq (rfl)) rfl (weakH_row (rowEq (rfl)) (weakH_row (rowEq (rfl)) (weakH_row (rowEq (rfl)) (weakH_none _)))))
    · refine weakE_upd ?e6 ?r6 (weakE_upd ?e5 ?r5 (weakE_upd ?e1 ?r1 (weakE_upd ?e0 ?r0 (weakE_junk _ _))))
      case e0 => first | rfl | exact fI (by omega) | (simp_all)
      case r0 => intro h hh; simp [refs] at hh; subst hh; rfl
      case e1 => first | rfl | exact fI (by omega) | (simp_all)
      case r1 => intro h hh; simp [refs] at hh; subst hh; rfl
      case e5 => first | rfl | exact fI (by omega) | (first | rfl | exact ownEq (by simp))
      case r5 => intro h hh; simp [refs] at hh; subst hh; rfl
      case e6 => first | rfl | exact fI (by omega) | (simp_all)
      case r6 => intro h hh; cases hh
  · rintro ⟨u, k, a1, s1⟩ ⟨⟨hul, hk⟩, hJ⟩
    refine good_seq fun K5 hK5 => ?_
    refine good_seq fun K6 hK6 => ?_
    refine gr rfl ?_
    refine em rfl (by conv=>lhs;whnf) ?_
    refine em rfl (by conv=>lhs;whnf) ?_
    refine ev_q rfl (q_nilCheck (by conv=>lhs;whnf) rfl ?_)
    refine ev_q rfl (q_fieldAddrP fO31_1 rfl rfl ?_)
    refine ev_q rfl (q_load tA29 rfl ?_)
    refine ev_q rfl (q_len tEs29 rfl ?_)
    intro n7 hn7
    try simp only [List.length_map] at hn7
    refine ei rfl rfl rfl ?_
    intro b8 hb8; cases b8
    · replace hb8 := dF hb8
      refine ev_nil (hK6 _ ?_); clear hK6
      refine good_condF rfl ?_
      refine good_exit ?_
      repeat first|refine thenQ_exit ?_|refine blockQ_pass rfl ?_
      refine blockQ_exit (hK3 _ ?_); clear hK3
      refine good_seq fun K9 hK9 => ?_
      refine good_seq fun K10 hK10 => ?_
      refine gr rfl ?_
      refine em rfl (by conv=>lhs;whnf) ?_
      refine ev_k rfl (k_callR [(1000000, 1000000)] (D_spec_l00Src_one cs _ _ _ hc hb (by omega) (by omega)) rfl (rfl) (rfl) ⟨rfl, trivial⟩ rfl (by rintro ⟨v11, a11, s11⟩ ⟨hx11_0, hx11_1⟩; exact ⟨⟨rfl, rfl, trivial⟩, rfl⟩) rfl rfl ?_)
      rintro ⟨v11, a11, s11⟩ ⟨hx11_0, hx11_1⟩
      cases v11
      · refine ev_nil (hK10 _ ?_); clear hK10
        refine good_condF rfl ?_
        refine good_skip (hK9 _ ?_); clear hK9
        refine good_seq fun K12 hK12 => ?_
        refine gr rfl ?_
        refine em rfl (by conv=>lhs;whnf) ?_
        refine ea rfl (by conv=>lhs;whnf) ?_
        refine ev_nil (hK12 _ ?_); clear hK12
        refine good_weak (sub_move 4 20 900001 rfl rfl rfl (by decide)) ?_
        refine good_ret ?_
        repeat first|refine thenQ_ret ?_|refine blockQ_ret ?_
        clear hK5
        refine ex_3 (v := u) (a := a11) (b := s11) ?hF ?hR
        case hF =>
          refine fx_tmp rfl (by conv=>lhs;whnf) ?_
          exact ⟨_, conv_eq (by first | rfl | (rw [e]; done) | (rw [e]; rfl) | exact ownEq (by first | omega | simp_all)), weakH_box (boxEq (by first | rfl | (rw [e]; done) | (rw [e]; rfl) | (simp_all; done))) rfl (weakH_boxR (boxEq (by first | rfl | (rw [e]; done) | (rw [e]; rfl) | (simp_all; done))) rfl (weakH_row (rowEq (by first | rfl | (rw [e]; done) | (rw [e]; rfl) | (simp_all; done))) (weakH_row (rowEq (by first | rfl | (rw [e]; done) | (rw [e]; rfl) | (simp_all; done))) (weakH_row (rowEq (by first | rfl | (rw [List.map_append]; rfl))) (weakH_none _))))), refsIn_ok rfl⟩
        case hR =>
          exact ⟨by first | omega | (simp; omega), by omega⟩
      · refine ev_nil (hK10 _ ?_); clear hK10
        refine good_condT rfl ?_
        refine gr rfl ?_
        refine em rfl (by conv=>lhs;whnf) ?_
        refine em rfl (by conv=>lhs;whnf) ?_
        refine ev_k rfl (k_lit tE22 zA2 rfl rfl (by decide) (by decide) rfl rfl rfl ?_)
        refine ev_k rfl (k_callR [(1000000, 1000000), (1000001, 27)] (D_spec_l00Src_among cs _ _ [(-1), 0, 40] hc hb (by omega) (by decide)) rfl (rfl) (rfl) ⟨rfl, ⟨rfl, trivial⟩⟩ rfl (by rintro ⟨v13, a13, s13⟩ ⟨hx13_0, hx13_1⟩; exact ⟨⟨rfl, rfl, ⟨rfl, ⟨rfl, rfl, by first | exact Nat.le_refl _ | (simp; done) | (simp; omega)⟩, trivial⟩⟩, rfl⟩) rfl rfl ?_)
        rintro ⟨v13, a13, s13⟩ ⟨hx13_0, hx13_1⟩
        simp only [List.mem_cons, List.not_mem_nil, or_false] at hx13_0
        refine ev_k rfl (k_lit tE22 zA2 rfl rfl (by decide) (by decide) rfl rfl rfl ?_)
        refine ev_k rfl (k_app tApp22 rfl rfl (by simp) rfl (.inl rfl) (by first | (simp [maxLen]; omega)) (by first | (simp; omega)) ?_)
        refine ea rfl (by conv=>lhs;whnf) ?_
        refine ev_nil (hK9 _ ?_); clear hK9
        refine good_seq fun K14 hK14 => ?_
        refine gr rfl ?_
        refine em rfl (by conv=>lhs;whnf) ?_
        refine ea rfl (by conv=>lhs;whnf) ?_
        refine ev_nil (hK14 _ ?_); clear hK14
        refine good_weak (sub_move 4 30 900001 rfl rfl rfl (by decide)) ?_
        refine good_ret ?_
        repeat first|refine thenQ_ret ?_|refine blockQ_ret ?_
        clear hK5
        refine ex_3 (v := u ++ [v13]) (a := a13) (b := s13) ?hF ?hR
        case hF =>
          refine fx_tmp rfl (by conv=>lhs;whnf) ?_
          exact ⟨_, conv_eq (by first | rfl | (rw [e]; done) | (rw [e]; rfl) | exact ownEq (by first | omega | simp_all)), weakH_box (boxEq (by first | rfl | (rw [e]; done) | (rw [e]; rfl) | (simp_all; done))) rfl (weakH_boxR (boxEq (by first | rfl | (rw [e]; done) | (rw [e]; rfl) | (simp_all; done))) rfl (weakH_row (rowEq (by first | rfl | (rw [e]; done) | (rw [e]; rfl) | (simp_all; done))) (weakH_row (rowEq (by first | rfl | (rw [e]; done) | (rw [e]; rfl) | (simp_all; done))) (weakH_row (rowEq (by first | rfl | (rw [List.map_append]; rfl))) (weakH_none _))))), refsIn_ok rfl⟩
        case hR =>
          exact ⟨by first | omega | (simp; omega), by omega⟩
    · replace hb8 := dT hb8
      refine ev_nil (hK6 _ ?_); clear hK6
      refine good_condT rfl ?_
      refine good_skip (hK5 _ ?_); clear hK5
      refine good_seq fun K15 hK15 => ?_
      refine good_block ?_
      refine good_seq fun K16 hK16 => ?_
      refine gr rfl ?_
      refine em rfl (by conv=>lhs;whnf) ?_
      refine ev_k rfl (k_callR [(1000000, 1000000)] (D_spec_l00Src_one cs _ _ _ hc hb (by omega) (by omega)) rfl (rfl) (rfl) ⟨rfl, trivial⟩ rfl (by rintro ⟨v17, a17, s17⟩ ⟨hx17_0, hx17_1⟩; exact ⟨⟨rfl, rfl, trivial⟩, rfl⟩) rfl rfl ?_)
      rintro ⟨v17, a17, s17⟩ ⟨hx17_0, hx17_1⟩
      cases v17
      · refine ev_nil (hK16 _ ?_); clear hK16
        refine good_condF rfl ?_
        refine good_skip (hK15 _ ?_); clear hK15
        refine gr rfl ?_
        refine em rfl (by conv=>lhs;whnf) ?_
        refine ei rfl rfl rfl ?_
        intro n18 hn18
        replace hn18 := in64 hn18 (by omega) (by omega)
        refine ea rfl (by conv=>lhs;whnf) ?_
        refine ev_nil ?_
        clear hK3
        refine ⟨(u, k + 1, a17, s17), ?_, ?_, ?_⟩
        · exact ⟨⟨by omega, by omega⟩, by omega⟩
        · show m - (k + 1) < m - k; omega
        · first | refine Sub.trans (sub_move 5 22 20 rfl rfl rfl (by decide)) ?_ | skip
          refine sub_weak ?_ ?_
          · exact weakH_box (boxEq (rfl)) rfl (weakH_boxR (boxEq (rfl)) rfl (weakH_row (rowEq (rfl)) (weakH_row (rowEq (rfl)) (weakH_row (rowEq (by first | rfl | (rw [List.map_append]; rfl))) (weakH_none _)))))
          · refine weakE_upd ?e6 ?r6 (weakE_upd ?e5 ?r5 (weakE_upd ?e1 ?r1 (weakE_upd ?e0 ?r0 (weakE_junk _ _))))
            case e0 => first | rfl | exact fI (by omega) | (simp_all)
            case r0 => intro h hh; simp [refs] at hh; subst hh; rfl
            case e1 => first | rfl | exact fI (by omega) | (simp_all)
            case r1 => intro h hh; simp [refs] at hh; subst hh; rfl
            case e5 => first | rfl | exact fI (by omega) | (first | rfl | exact ownEq (by simp))
            case r5 => intro h hh; simp [refs] at hh; subst hh; rfl
            case e6 => first | rfl | exact fI (by omega) | (simp_all)
            case r6 => intro h hh; cases hh
      · refine ev_nil (hK16 _ ?_); clear hK16
        refine good_condT rfl ?_
        refine gr rfl ?_
        refine em rfl (by conv=>lhs;whnf) ?_
        refine em rfl (by conv=>lhs;whnf) ?_
        refine ev_k rfl (k_lit tE22 zA2 rfl rfl (by decide) (by decide) rfl rfl rfl ?_)
        refine ev_k rfl (k_app tApp22 rfl rfl (by simp) rfl (.inl rfl) (by first | (simp [maxLen]; omega)) (by first | (simp; omega)) ?_)
        refine ea rfl (by conv=>lhs;whnf) ?_
        refine ev_nil (hK15 _ ?_); clear hK15
        refine gr rfl ?_
        refine em rfl (by conv=>lhs;whnf) ?_
        refine ei rfl rfl rfl ?_
        intro n19 hn19
        replace hn19 := in64 hn19 (by omega) (by omega)
        refine ea rfl (by conv=>lhs;whnf) ?_
        refine ev_nil ?_
        clear hK3
        refine ⟨(u ++ [(k : Int)], k + 1, a17, s17), ?_, ?_, ?_⟩
        · exact ⟨⟨by simp; omega, by omega⟩, by omega⟩
        · show m - (k + 1) < m - k; omega
        · first | refine Sub.trans (sub_move 5 22 20 rfl rfl rfl (by decide)) ?_ | skip
          refine sub_weak ?_ ?_
          · exact weakH_box (boxEq (rfl)) rfl (weakH_boxR (boxEq (rfl)) rfl (weakH_row (rowEq (rfl)) (weakH_row (rowEq (rfl)) (weakH_row (rowEq (by first | rfl | (rw [List.map_append]; rfl))) (weakH_none _)))))
          · refine weakE_upd ?e6 ?r6 (weakE_upd ?e5 ?r5 (weakE_upd ?e1 ?r1 (weakE_upd ?e0 ?r0 (weakE_junk _ _))))
            case e0 => first | rfl | exact fI (by omega) | (simp_all)
            case r0 => intro h hh; simp [refs] at hh; subst hh; rfl
            case e1 => first | rfl | exact fI (by omega) | (simp_all)
            case r1 => intro h hh; simp [refs] at hh; subst hh; rfl
            case e5 => first | rfl | exact fI (by omega) | (first | rfl | exact ownEq (by simp))
            case r5 => intro h hh; simp [refs] at hh; subst hh; rfl
            case e6 => first | rfl | exact fI (by omega) | (simp_all)
            case r6 => intro h hh; cases hh

-- spec.DrawPathOf
theorem D_spec_DrawPathOf_X (cs : List Int) (hc : cs.length ≤ 17592186044416) (hb : byteL cs) : DenXR Try.prog 27 [] [.lst 1 (cs.map cb)] (τ := List Int × List Pi × Nat × Nat × Int × Int) (fun (ns, W, j, m, p, q) => ns.length ≤ 20 ∧ (j + m = W.length ∧ W.length ≤ 30) ∧ idSz W) (fun (ns, W, j, m, p, q) => [(900001, .row 2 1 (ns.map ci)), (900002, .row 59 6 (W.map piA))]) (fun (ns, W, j, m, p, q) => .tup [.agg [.own 900001 ns.length, .osl 900002 j m], .s (.int .i64 p), .s (.int .i64 q)]) := by
  refine denXR_of_good Try.func27 (by decide) rfl (Nat.le_of_ble_eq_true rfl) (Nat.le_of_ble_eq_true rfl) rfl ?_
  refine good_seq fun K1 hK1 => ?_
  refine gr rfl ?_
  refine ev_k rfl (k_alloc zA31 rfl ?_)
  refine ea rfl (by conv=>lhs;whnf) ?_
  refine ea rfl (by conv=>lhs;whnf) ?_
  refine ev_nil (hK1 _ ?_); clear hK1
  refine good_seq fun K2 hK2 => ?_
  refine gr rfl ?_
  refine em rfl (by conv=>lhs;whnf) ?_
  refine ev_k rfl (k_callX [(5, 900000)] (D_spec_l00From cs) rfl (rfl) (rfl) trivial ⟨⟨rfl, show (900000 : Nat) < 1000000 by decide⟩, trivial⟩ rfl rfl rfl ?_)
  refine ea rfl (by conv=>lhs;whnf) ?_
  refine ev_nil (hK2 _ ?_); clear hK2
  refine good_seq fun K3 hK3 => ?_
  refine gr rfl ?_
  refine em rfl (by conv=>lhs;whnf) ?_
  refine ev_k rfl (k_callR [(1000000, 900000), (900001, 900001), (900002, 900002)] (D_spec_l04Draw cs _ _ hc hb (by omega)) rfl (rfl) (rfl) ⟨rfl, trivial⟩ rfl (by rintro ⟨n4, W4, j4, m4, a4, s4⟩ ⟨hx4_0, hx4_1⟩; exact ⟨⟨rfl, rfl, ⟨⟨rfl, show (900001 : Nat) < 1000000 by decide⟩, ⟨⟨rfl, show (900002 : Nat) < 1000000 by decide⟩, trivial⟩⟩⟩, rfl⟩) rfl rfl ?_)
  rintro ⟨n4, W4, j4, m4, a4, s4⟩ ⟨hx4_0, hx4_1⟩
  obtain ⟨hn20, hjm, hWz⟩ := hx4_0
  have hjl := hjm.1
  have hWl := hjm.2
  refine ev_k rfl (k_alloc zA31 rfl ?_)
  refine ev_k rfl (k_store sz31 rfl (by conv=>lhs;whnf) rfl rfl rfl (Nat.le_of_ble_eq_true rfl) rfl ?_)
  refine ev_nil (hK3 _ ?_); clear hK3
  refine good_seq fun K5 hK5 => ?_
  refine gr rfl ?_
  refine em rfl (by conv=>lhs;whnf) ?_
  refine ev_k rfl (k_callR [(1000000, 900000), (1000001, 6), (1000002, 900001), (1000003, 900002)] (D_spec_l04DrawNode cs _ _ n4 W4 j4 m4 hc hb (by omega) (by omega)) rfl (rfl) (rfl) ⟨rfl, ⟨rfl, ⟨rfl, ⟨rfl, trivial⟩⟩⟩⟩ rfl (by rintro ⟨v6, a6, s6⟩ ⟨hx6_0, hx6_1⟩; exact ⟨⟨rfl, rfl, ⟨rfl, rfl, ⟨rfl, ⟨rfl, rfl, by first | exact Nat.le_refl _ | (simp; done) | (simp; omega)⟩, ⟨rfl, ⟨rfl, rfl, by first | exact Nat.le_refl _ | (simp; done) | (simp; omega)⟩, trivial⟩⟩⟩⟩, rfl⟩) rfl rfl ?_)
  rintro ⟨v6, a6, s6⟩ ⟨hx6_0, hx6_1⟩
  refine ea rfl (by conv=>lhs;whnf) ?_
  refine ev_nil (hK5 _ ?_); clear hK5
  refine good_seq fun K7 hK7 => ?_
  refine good_any 7 (listed := #[false, false, false, false, false, false, false]) rfl rfl hmix rfl ?_
  refine tn_first_q (i := 2) (listed' := #[false, false, true, false, false, false, false]) rfl rfl (by kernel_rfl) rfl (q_move (by conv=>lhs;whnf) ?_)
  refine tn_step [0, 1, 3] (by kernel_rfl) rfl ?_
  refine ⟨?_, ?_, ?_, trivial⟩
  · refine tn_q (listed' := #[true, false, true, false, false, false, false]) rfl rfl rfl (q_loadA tA31 rfl rfl rfl ?_)
    refine tn_step [1, 3] (by kernel_rfl) rfl ?_
    refine ⟨?_, ?_, trivial⟩
    · refine tn_q (listed' := #[true, true, true, false, false, false, false]) rfl rfl rfl (q_move (by conv=>lhs;whnf) ?_)
      refine tn_step [3] (by kernel_rfl) rfl ?_
      refine ⟨?_, trivial⟩
      refine tn_k (listed' := #[true, true, true, true, false, false, false]) rfl rfl rfl rfl (k_callR [(1000000, 900000), (1000001, 6), (1000002, 900001), (1000003, 900002)] (D_spec_l04DrawNode cs _ _ n4 W4 j4 m4 hc hb (by omega) (by omega)) rfl (rfl) (rfl) ⟨rfl, ⟨rfl, ⟨rfl, ⟨rfl, trivial⟩⟩⟩⟩ rfl (by rintro ⟨v8, a8, s8⟩ ⟨hx8_0, hx8_1⟩; exact ⟨⟨rfl, rfl, ⟨rfl, rfl, ⟨rfl, ⟨rfl, rfl, by first | exact Nat.le_refl _ | (simp; done) | (simp; omega)⟩, ⟨rfl, ⟨rfl, rfl, by first | exact Nat.le_refl _ | (simp; done) | (simp; omega)⟩, trivial⟩⟩⟩⟩, rfl⟩) rfl rfl ?_)
      rintro ⟨v8, a8, s8⟩ ⟨hx8_0, hx8_1⟩
      refine tn_step [4] (by kernel_rfl) rfl ?_
      refine ⟨?_, trivial⟩
      refine tn_k (listed' := #[true, true, true, true, true, false, false]) rfl rfl rfl rfl (k_store sz31 rfl (by conv=>lhs;whnf) rfl rfl rfl (Nat.le_of_ble_eq_true rfl) rfl ?_)
      refine tn_first_q (i := 5) (listed' := #[true, true, true, true, true, true, false]) rfl rfl (by kernel_rfl) rfl (q_assign (by conv=>lhs;whnf) ?_)
      refine tn_first_q (i := 6) (listed' := #[true, true, true, true, true, true, true]) rfl rfl (by kernel_rfl) rfl (q_assign (by conv=>lhs;whnf) ?_)
      refine tn_end (by kernel_rfl) (hK7 _ ?_); clear hK7
      refine good_ret ?_
      repeat first|refine thenQ_ret ?_|refine blockQ_ret ?_
      refine ex_6 (v := n4) (a := W4) (b := j4) (c := m4) (d := v6) (e := v8) ?hF ?hR
      case hF =>
        refine fx_many rfl ?_
        refine fxs_cell tA31 rfl rfl rfl ?_
        refine fxs_tmp (by conv=>lhs;whnf) ?_
        refine fxs_tmp (by conv=>lhs;whnf) ?_
        refine fx_nil ?_
        exact ⟨_, .tup (.cons (conv_eq (by first | rfl | exact fAgg1 (by first | rfl | exact ownEq (by first | done | omega | (simp; done)) | (simp_all; done)) (fAgg1 (by first | rfl | exact ownEq (by first | done | omega | (simp; done)) | (simp_all; done)) (rfl)))) (.cons (conv_eq (by first | rfl | exact fI (by first | omega | grind) | (exfalso; first | omega | grind))) (.cons (conv_eq (by first | rfl | exact fI (by first | omega | grind) | (exfalso; first | omega | grind))) (.nil)))), weakH_row (rowEq (by first | rfl | (rw [e]; done) | (rw [e]; rfl) | (simp_all; done))) (weakH_row (rowEq (by first | rfl | (rw [e]; done) | (rw [e]; rfl) | (simp_all; done))) (weakH_none _)), refsIn_ok rfl⟩
      case hR =>
        exact ⟨hn20, hjm, hWz⟩
    · refine tn_k (listed' := #[true, false, true, true, false, false, false]) rfl rfl rfl rfl (k_callR [(1000000, 900000), (1000001, 6), (1000002, 900001), (1000003, 900002)] (D_spec_l04DrawNode cs _ _ n4 W4 j4 m4 hc hb (by omega) (by omega)) rfl (rfl) (rfl) ⟨rfl, ⟨rfl, ⟨rfl, ⟨rfl, trivial⟩⟩⟩⟩ rfl (by rintro ⟨v9, a9, s9⟩ ⟨hx9_0, hx9_1⟩; exact ⟨⟨rfl, rfl, ⟨rfl, rfl, ⟨rfl, ⟨rfl, rfl, by first | exact Nat.le_refl _ | (simp; done) | (simp; omega)⟩, ⟨rfl, ⟨rfl, rfl, by first | exact Nat.le_refl _ | (simp; done) | (simp; omega)⟩, trivial⟩⟩⟩⟩, rfl⟩) rfl rfl ?_)
      rintro ⟨v9, a9, s9⟩ ⟨hx9_0, hx9_1⟩
      refine tn_step [1, 4] (by kernel_rfl) rfl ?_
      refine ⟨?_, ?_, trivial⟩
      · refine tn_q (listed' := #[true, true, true, true, false, false, false]) rfl rfl rfl (q_move (by conv=>lhs;whnf) ?_)
        refine tn_step [4] (by kernel_rfl) rfl ?_
        refine ⟨?_, trivial⟩
        refine tn_k (listed' := #[true, true, true, true, true, false, false]) rfl rfl rfl rfl (k_store sz31 rfl (by conv=>lhs;whnf) rfl rfl rfl (Nat.le_of_ble_eq_true rfl) rfl ?_)
        refine tn_first_q (i := 5) (listed' := #[true, true, true, true, true, true, false]) rfl rfl (by kernel_rfl) rfl (q_assign (by conv=>lhs;whnf) ?_)
        refine tn_first_q (i := 6) (listed' := #[true, true, true, true, true, true, true]) rfl rfl (by kernel_rfl) rfl (q_assign (by conv=>lhs;whnf) ?_)
        refine tn_end (by kernel_rfl) (hK7 _ ?_); clear hK7
        refine good_ret ?_
        repeat first|refine thenQ_ret ?_|refine blockQ_ret ?_
        refine ex_6 (v := n4) (a := W4) (b := j4) (c := m4) (d := v6) (e := v9) ?hF ?hR
        case hF =>
          refine fx_many rfl ?_
          refine fxs_cell tA31 rfl rfl rfl ?_
          refine fxs_tmp (by conv=>lhs;whnf) ?_
          refine fxs_tmp (by conv=>lhs;whnf) ?_
          refine fx_nil ?_
          exact ⟨_, .tup (.cons (conv_eq (by first | rfl | exact fAgg1 (by first | rfl | exact ownEq (by first | done | omega | (simp; done)) | (simp_all; done)) (fAgg1 (by first | rfl | exact ownEq (by first | done | omega | (simp; done)) | (simp_all; done)) (rfl)))) (.cons (conv_eq (by first | rfl | exact fI (by first | omega | grind) | (exfalso; first | omega | grind))) (.cons (conv_eq (by first | rfl | exact fI (by first | omega | grind) | (exfalso; first | omega | grind))) (.nil)))), weakH_row (rowEq (by first | rfl | (rw [e]; done) | (rw [e]; rfl) | (simp_all; done))) (weakH_row (rowEq (by first | rfl | (rw [e]; done) | (rw [e]; rfl) | (simp_all; done))) (weakH_none _)), refsIn_ok rfl⟩
        case hR =>
          exact ⟨hn20, hjm, hWz⟩
      · refine tn_k (listed' := #[true, false, true, true, true, false, false]) rfl rfl rfl rfl (k_store sz31 rfl (by conv=>lhs;whnf) rfl rfl rfl (Nat.le_of_ble_eq_true rfl) rfl ?_)
        refine tn_first_q (i := 1) (listed' := #[true, true, true, true, true, false, false]) rfl rfl (by kernel_rfl) rfl (q_move (by conv=>lhs;whnf) ?_)
        refine tn_first_q (i := 5) (listed' := #[true, true, true, true, true, true, false]) rfl rfl (by kernel_rfl) rfl (q_assign (by conv=>lhs;whnf) ?_)
        refine tn_first_q (i := 6) (listed' := #[true, true, true, true, true, true, true]) rfl rfl (by kernel_rfl) rfl (q_assign (by conv=>lhs;whnf) ?_)
        refine tn_end (by kernel_rfl) (hK7 _ ?_); clear hK7
        refine good_ret ?_
        repeat first|refine thenQ_ret ?_|refine blockQ_ret ?_
        refine ex_6 (v := n4) (a := W4) (b := j4) (c := m4) (d := v6) (e := v9) ?hF ?hR
        case hF =>
          refine fx_many rfl ?_
          refine fxs_cell tA31 rfl rfl rfl ?_
          refine fxs_tmp (by conv=>lhs;whnf) ?_
          refine fxs_tmp (by conv=>lhs;whnf) ?_
          refine fx_nil ?_
          exact ⟨_, .tup (.cons (conv_eq (by first | rfl | exact fAgg1 (by first | rfl | exact ownEq (by first | done | omega | (simp; done)) | (simp_all; done)) (fAgg1 (by first | rfl | exact ownEq (by first | done | omega | (simp; done)) | (simp_all; done)) (rfl)))) (.cons (conv_eq (by first | rfl | exact fI (by first | omega | grind) | (exfalso; first | omega | grind))) (.cons (conv_eq (by first | rfl | exact fI (by first | omega | grind) | (exfalso; first | omega | grind))) (.nil)))), weakH_row (rowEq (by first | rfl | (rw [e]; done) | (rw [e]; rfl) | (simp_all; done))) (weakH_row (rowEq (by first | rfl | (rw [e]; done) | (rw [e]; rfl) | (simp_all; done))) (weakH_none _)), refsIn_ok rfl⟩
        case hR =>
          exact ⟨hn20, hjm, hWz⟩
  · refine tn_q (listed' := #[false, true, true, false, false, false, false]) rfl rfl rfl (q_move (by conv=>lhs;whnf) ?_)
    refine tn_step [0, 3] (by kernel_rfl) rfl ?_
    refine ⟨?_, ?_, trivial⟩
    · refine tn_q (listed' := #[true, true, true, false, false, false, false]) rfl rfl rfl (q_loadA tA31 rfl rfl rfl ?_)
      refine tn_step [3] (by kernel_rfl) rfl ?_
      refine ⟨?_, trivial⟩
      refine tn_k (listed' := #[true, true, true, true, false, false, false]) rfl rfl rfl rfl (k_callR [(1000000, 900000), (1000001, 6), (1000002, 900001), (1000003, 900002)] (D_spec_l04DrawNode cs _ _ n4 W4 j4 m4 hc hb (by omega) (by omega)) rfl (rfl) (rfl) ⟨rfl, ⟨rfl, ⟨rfl, ⟨rfl, trivial⟩⟩⟩⟩ rfl (by rintro ⟨v10, a10, s10⟩ ⟨hx10_0, hx10_1⟩; exact ⟨⟨rfl, rfl, ⟨rfl, rfl, ⟨rfl, ⟨rfl, rfl, by first | exact Nat.le_refl _ | (simp; done) | (simp; omega)⟩, ⟨rfl, ⟨rfl, rfl, by first | exact Nat.le_refl _ | (simp; done) | (simp; omega)⟩, trivial⟩⟩⟩⟩, rfl⟩) rfl rfl ?_)
      rintro ⟨v10, a10, s10⟩ ⟨hx10_0, hx10_1⟩
      refine tn_step [4] (by kernel_rfl) rfl ?_
      refine ⟨?_, trivial⟩
      refine tn_k (listed' := #[true, true, true, true, true, false, false]) rfl rfl rfl rfl (k_store sz31 rfl (by conv=>lhs;whnf) rfl rfl rfl (Nat.le_of_ble_eq_true rfl) rfl ?_)
      refine tn_first_q (i := 5) (listed' := #[true, true, true, true, true, true, false]) rfl rfl (by kernel_rfl) rfl (q_assign (by conv=>lhs;whnf) ?_)
      refine tn_first_q (i := 6) (listed' := #[true, true, true, true, true, true, true]) rfl rfl (by kernel_rfl) rfl (q_assign (by conv=>lhs;whnf) ?_)
      refine tn_end (by kernel_rfl) (hK7 _ ?_); clear hK7
      refine good_ret ?_
      repeat first|refine thenQ_ret ?_|refine blockQ_ret ?_
      refine ex_6 (v := n4) (a := W4) (b := j4) (c := m4) (d := v6) (e := v10) ?hF ?hR
      case hF =>
        refine fx_many rfl ?_
        refine fxs_cell tA31 rfl rfl rfl ?_
        refine fxs_tmp (by conv=>lhs;whnf) ?_
        refine fxs_tmp (by conv=>lhs;whnf) ?_
        refine fx_nil ?_
        exact ⟨_, .tup (.cons (conv_eq (by first | rfl | exact fAgg1 (by first | rfl | exact ownEq (by first | done | omega | (simp; done)) | (simp_all; done)) (fAgg1 (by first | rfl | exact ownEq (by first | done | omega | (simp; done)) | (simp_all; done)) (rfl)))) (.cons (conv_eq (by first | rfl | exact fI (by first | omega | grind) | (exfalso; first | omega | grind))) (.cons (conv_eq (by first | rfl | exact fI (by first | omega | grind) | (exfalso; first | omega | grind))) (.nil)))), weakH_row (rowEq (by first | rfl | (rw [e]; done) | (rw [e]; rfl) | (simp_all; done))) (weakH_row (rowEq (by first | rfl | (rw [e]; done) | (rw [e]; rfl) | (simp_all; done))) (weakH_none _)), refsIn_ok rfl⟩
      case hR =>
        exact ⟨hn20, hjm, hWz⟩
    · refine tn_k (listed' := #[false, true, true, true, false, false, false]) rfl rfl rfl rfl (k_callR [(1000000, 900000), (1000001, 6), (1000002, 900001), (1000003, 900002)] (D_spec_l04DrawNode cs _ _ n4 W4 j4 m4 hc hb (by omega) (by omega)) rfl (rfl) (rfl) ⟨rfl, ⟨rfl, ⟨rfl, ⟨rfl, trivial⟩⟩⟩⟩ rfl (by rintro ⟨v11, a11, s11⟩ ⟨hx11_0, hx11_1⟩; exact ⟨⟨rfl, rfl, ⟨rfl, rfl, ⟨rfl, ⟨rfl, rfl, by first | exact Nat.le_refl _ | (simp; done) | (simp; omega)⟩, ⟨rfl, ⟨rfl, rfl, by first | exact Nat.le_refl _ | (simp; done) | (simp; omega)⟩, trivial⟩⟩⟩⟩, rfl⟩) rfl rfl ?_)
      rintro ⟨v11, a11, s11⟩ ⟨hx11_0, hx11_1⟩
      refine tn_first_q (i := 0) (listed' := #[true, true, true, true, false, false, false]) rfl rfl (by kernel_rfl) rfl (q_loadA tA31 rfl rfl rfl ?_)
      refine tn_step [4] (by kernel_rfl) rfl ?_
      refine ⟨?_, trivial⟩
      refine tn_k (listed' := #[true, true, true, true, true, false, false]) rfl rfl rfl rfl (k_store sz31 rfl (by conv=>lhs;whnf) rfl rfl rfl (Nat.le_of_ble_eq_true rfl) rfl ?_)
      refine tn_first_q (i := 5) (listed' := #[true, true, true, true, true, true, false]) rfl rfl (by kernel_rfl) rfl (q_assign (by conv=>lhs;whnf) ?_)
      refine tn_first_q (i := 6) (listed' := #[true, true, true, true, true, true, true]) rfl rfl (by kernel_rfl) rfl (q_assign (by conv=>lhs;whnf) ?_)
      refine tn_end (by kernel_rfl) (hK7 _ ?_); clear hK7
      refine good_ret ?_
      repeat first|refine thenQ_ret ?_|refine blockQ_ret ?_
      refine ex_6 (v := n4) (a := W4) (b := j4) (c := m4) (d := v6) (e := v11) ?hF ?hR
      case hF =>
        refine fx_many rfl ?_
        refine fxs_cell tA31 rfl rfl rfl ?_
        refine fxs_tmp (by conv=>lhs;whnf) ?_
        refine fxs_tmp (by conv=>lhs;whnf) ?_
        refine fx_nil ?_
        exact ⟨_, .tup (.cons (conv_eq (by first | rfl | exact fAgg1 (by first | rfl | exact ownEq (by first | done | omega | (simp; done)) | (simp_all; done)) (fAgg1 (by first | rfl | exact ownEq (by first | done | omega | (simp; done)) | (simp_all; done)) (rfl)))) (.cons (conv_eq (by first | rfl | exact fI (by first | omega | grind) | (exfalso; first | omega | grind))) (.cons (conv_eq (by first | rfl | exact fI (by first | omega | grind) | (exfalso; first | omega | grind))) (.nil)))), weakH_row (rowEq (by first | rfl | (rw [e]; done) | (rw [e]; rfl) | (simp_all; done))) (weakH_row (rowEq (by first | rfl | (rw [e]; done) | (rw [e]; rfl) | (simp_all; done))) (weakH_none _)), refsIn_ok rfl⟩
      case hR =>
        exact ⟨hn20, hjm, hWz⟩
  · refine tn_k (listed' := #[false, false, true, true, false, false, false]) rfl rfl rfl rfl (k_callR [(1000000, 900000), (1000001, 6), (1000002, 900001), (1000003, 900002)] (D_spec_l04DrawNode cs _ _ n4 W4 j4 m4 hc hb (by omega) (by omega)) rfl (rfl) (rfl) ⟨rfl, ⟨rfl, ⟨rfl, ⟨rfl, trivial⟩⟩⟩⟩ rfl (by rintro ⟨v12, a12, s12⟩ ⟨hx12_0, hx12_1⟩; exact ⟨⟨rfl, rfl, ⟨rfl, rfl, ⟨rfl, ⟨rfl, rfl, by first | exact Nat.le_refl _ | (simp; done) | (simp; omega)⟩, ⟨rfl, ⟨rfl, rfl, by first | exact Nat.le_refl _ | (simp; done) | (simp; omega)⟩, trivial⟩⟩⟩⟩, rfl⟩) rfl rfl ?_)
    rintro ⟨v12, a12, s12⟩ ⟨hx12_0, hx12_1⟩
    refine tn_first_q (i := 0) (listed' := #[true, false, true, true, false, false, false]) rfl rfl (by kernel_rfl) rfl (q_loadA tA31 rfl rfl rfl ?_)
    refine tn_step [1, 4] (by kernel_rfl) rfl ?_
    refine ⟨?_, ?_, trivial⟩
    · refine tn_q (listed' := #[true, true, true, true, false, false, false]) rfl rfl rfl (q_move (by conv=>lhs;whnf) ?_)
      refine tn_step [4] (by kernel_rfl) rfl ?_
      refine ⟨?_, trivial⟩
      refine tn_k (listed' := #[true, true, true, true, true, false, false]) rfl rfl rfl rfl (k_store sz31 rfl (by conv=>lhs;whnf) rfl rfl rfl (Nat.le_of_ble_eq_true rfl) rfl ?_)
      refine tn_first_q (i := 5) (listed' := #[true, true, true, true, true, true, false]) rfl rfl (by kernel_rfl) rfl (q_assign (by conv=>lhs;whnf) ?_)
      refine tn_first_q (i := 6) (listed' := #[true, true, true, true, true, true, true]) rfl rfl (by kernel_rfl) rfl (q_assign (by conv=>lhs;whnf) ?_)
      refine tn_end (by kernel_rfl) (hK7 _ ?_); clear hK7
      refine good_ret ?_
      repeat first|refine thenQ_ret ?_|refine blockQ_ret ?_
      refine ex_6 (v := n4) (a := W4) (b := j4) (c := m4) (d := v6) (e := v12) ?hF ?hR
      case hF =>
        refine fx_many rfl ?_
        refine fxs_cell tA31 rfl rfl rfl ?_
        refine fxs_tmp (by conv=>lhs;whnf) ?_
        refine fxs_tmp (by conv=>lhs;whnf) ?_
        refine fx_nil ?_
        exact ⟨_, .tup (.cons (conv_eq (by first | rfl | exact fAgg1 (by first | rfl | exact ownEq (by first | done | omega | (simp; done)) | (simp_all; done)) (fAgg1 (by first | rfl | exact ownEq (by first | done | omega | (simp; done)) | (simp_all; done)) (rfl)))) (.cons (conv_eq (by first | rfl | exact fI (by first | omega | grind) | (exfalso; first | omega | grind))) (.cons (conv_eq (by first | rfl | exact fI (by first | omega | grind) | (exfalso; first | omega | grind))) (.nil)))), weakH_row (rowEq (by first | rfl | (rw [e]; done) | (rw [e]; rfl) | (simp_all; done))) (weakH_row (rowEq (by first | rfl | (rw [e]; done) | (rw [e]; rfl) | (simp_all; done))) (weakH_none _)), refsIn_ok rfl⟩
      case hR =>
        exact ⟨hn20, hjm, hWz⟩
    · refine tn_k (listed' := #[true, false, true, true, true, false, false]) rfl rfl rfl rfl (k_store sz31 rfl (by conv=>lhs;whnf) rfl rfl rfl (Nat.le_of_ble_eq_true rfl) rfl ?_)
      refine tn_first_q (i := 1) (listed' := #[true, true, true, true, true, false, false]) rfl rfl (by kernel_rfl) rfl (q_move (by conv=>lhs;whnf) ?_)
      refine tn_first_q (i := 5) (listed' := #[true, true, true, true, true, true, false]) rfl rfl (by kernel_rfl) rfl (q_assign (by conv=>lhs;whnf) ?_)
      refine tn_first_q (i := 6) (listed' := #[true, true, true, true, true, true, true]) rfl rfl (by kernel_rfl) rfl (q_assign (by conv=>lhs;whnf) ?_)
      refine tn_end (by kernel_rfl) (hK7 _ ?_); clear hK7
      refine good_ret ?_
      repeat first|refine thenQ_ret ?_|refine blockQ_ret ?_
      refine ex_6 (v := n4) (a := W4) (b := j4) (c := m4) (d := v6) (e := v12) ?hF ?hR
      case hF =>
        refine fx_many rfl ?_
        refine fxs_cell tA31 rfl rfl rfl ?_
        refine fxs_tmp (by conv=>lhs;whnf) ?_
        refine fxs_tmp (by conv=>lhs;whnf) ?_
        refine fx_nil ?_
        exact ⟨_, .tup (.cons (conv_eq (by first | rfl | exact fAgg1 (by first | rfl | exact ownEq (by first | done | omega | (simp; done)) | (simp_all; done)) (fAgg1 (by first | rfl | exact ownEq (by first | done | omega | (simp; done)) | (simp_all; done)) (rfl)))) (.cons (conv_eq (by first | rfl | exact fI (by first | omega | grind) | (exfalso; first | omega | grind))) (.cons (conv_eq (by first | rfl | exact fI (by first | omega | grind) | (exfalso; first | omega | grind))) (.nil)))), weakH_row (rowEq (by first | rfl | (rw [e]; done) | (rw [e]; rfl) | (simp_all; done))) (weakH_row (rowEq (by first | rfl | (rw [e]; done) | (rw [e]; rfl) | (simp_all; done))) (weakH_none _)), refsIn_ok rfl⟩
      case hR =>
        exact ⟨hn20, hjm, hWz⟩
theorem D_spec_DrawPathOf (cs : List Int) (hc : cs.length ≤ 17592186044416) (hb : byteL cs) : DenR Try.prog 27 [.lst 1 (cs.map cb)] (τ := List Int × List Pi × Nat × Nat × Int × Int) (fun (ns, W, j, m, p, q) => ns.length ≤ 20 ∧ (j + m = W.length ∧ W.length ≤ 30) ∧ idSz W) (fun (ns, W, j, m, p, q) => .tup [.agg [.lst 1 (ns.map ci), .lst 6 (((W.drop j).take m).map piA)], .s (.int .i64 p), .s (.int .i64 q)]) :=
  denR_of_denXR (D_spec_DrawPathOf_X cs hc hb) (by rintro ⟨ns, W, j, m, p, q⟩ _; change (some (.tup [.agg [.lst 1 (List.take ns.length (ns.map ci)), .lst 6 (List.take m (List.drop j (W.map piA)))], .s (.int .i64 p), .s (.int .i64 q)]) : Option AV) = some (.tup [.agg [.lst 1 (ns.map ci), .lst 6 (((W.drop j).take m).map piA)], .s (.int .i64 p), .s (.int .i64 q)]); simp only [takeMap, List.map_take, List.map_drop])

-- spec.DrawReachedWithout
theorem D_spec_DrawReachedWithout_X (cs : List Int) (hc : cs.length ≤ 17592186044416) (hb : byteL cs) : DenXR Try.prog 30 [] [.lst 1 (cs.map cb)] (τ := List Int × List Pi × Nat × Nat × Int × List Int) (fun (ns, W, j, m, p, cl) => ns.length ≤ 20 ∧ ((j + m = W.length ∧ W.length ≤ 30) ∧ idSz W) ∧ cl.length ≤ 1001) (fun (ns, W, j, m, p, cl) => [(900001, .row 2 1 (ns.map ci)), (900002, .row 59 6 (W.map piA)), (900003, .row 2 1 (cl.map ci))]) (fun (ns, W, j, m, p, cl) => .tup [.agg [.own 900001 ns.length, .osl 900002 j m], .s (.int .i64 p), .own 900003 cl.length]) := by
  refine denXR_of_good Try.func30 (by decide) rfl (Nat.le_of_ble_eq_true rfl) (Nat.le_of_ble_eq_true rfl) rfl ?_
  refine good_seq fun K1 hK1 => ?_
  refine gr rfl ?_
  refine ev_k rfl (k_alloc zA31 rfl ?_)
  refine ea rfl (by conv=>lhs;whnf) ?_
  refine ea rfl (by conv=>lhs;whnf) ?_
  refine ev_nil (hK1 _ ?_); clear hK1
  refine good_seq fun K2 hK2 => ?_
  refine gr rfl ?_
  refine em rfl (by conv=>lhs;whnf) ?_
  refine ev_k rfl (k_callX [(5, 900000)] (D_spec_l00From cs) rfl (rfl) (rfl) trivial ⟨⟨rfl, show (900000 : Nat) < 1000000 by decide⟩, trivial⟩ rfl rfl rfl ?_)
  refine ea rfl (by conv=>lhs;whnf) ?_
  refine ev_nil (hK2 _ ?_); clear hK2
  refine good_seq fun K3 hK3 => ?_
  refine gr rfl ?_
  refine em rfl (by conv=>lhs;whnf) ?_
  refine ev_k rfl (k_callR [(1000000, 900000), (900001, 900001), (900002, 900002)] (D_spec_l04Draw cs _ _ hc hb (by omega)) rfl (rfl) (rfl) ⟨rfl, trivial⟩ rfl (by rintro ⟨n4, W4, j4, m4, a4, s4⟩ ⟨hx4_0, hx4_1⟩; exact ⟨⟨rfl, rfl, ⟨⟨rfl, show (900001 : Nat) < 1000000 by decide⟩, ⟨⟨rfl, show (900002 : Nat) < 1000000 by decide⟩, trivial⟩⟩⟩, rfl⟩) rfl rfl ?_)
  rintro ⟨n4, W4, j4, m4, a4, s4⟩ ⟨hx4_0, hx4_1⟩
  obtain ⟨hn20, hjm, hWz⟩ := hx4_0
  have hjl := hjm.1
  have hWl := hjm.2
  refine ev_k rfl (k_alloc zA31 rfl ?_)
  refine ev_k rfl (k_store sz31 rfl (by conv=>lhs;whnf) rfl rfl rfl (Nat.le_of_ble_eq_true rfl) rfl ?_)
  refine ev_nil (hK3 _ ?_); clear hK3
  refine good_seq fun K5 hK5 => ?_
  refine gr rfl ?_
  refine em rfl (by conv=>lhs;whnf) ?_
  refine ev_k rfl (k_callR [(1000000, 900000), (1000001, 6), (1000002, 900001), (1000003, 900002)] (D_spec_l04DrawNode cs _ _ n4 W4 j4 m4 hc hb (by omega) (by omega)) rfl (rfl) (rfl) ⟨rfl, ⟨rfl, ⟨rfl, ⟨rfl, trivial⟩⟩⟩⟩ rfl (by rintro ⟨v6, a6, s6⟩ ⟨hx6_0, hx6_1⟩; exact ⟨⟨rfl, rfl, ⟨rfl, rfl, ⟨rfl, ⟨rfl, rfl, by first | exact Nat.le_refl _ | (simp; done) | (simp; omega)⟩, ⟨rfl, ⟨rfl, rfl, by first | exact Nat.le_refl _ | (simp; done) | (simp; omega)⟩, trivial⟩⟩⟩⟩, rfl⟩) rfl rfl ?_)
  rintro ⟨v6, a6, s6⟩ ⟨hx6_0, hx6_1⟩
  refine ea rfl (by conv=>lhs;whnf) ?_
  refine ev_nil (hK5 _ ?_); clear hK5
  refine good_seq fun K7 hK7 => ?_
  refine good_any 7 (listed := #[false, false, false, false, false, false, false]) rfl rfl hmix rfl ?_
  refine tn_first_q (i := 2) (listed' := #[false, false, true, false, false, false, false]) rfl rfl (by kernel_rfl) rfl (q_move (by conv=>lhs;whnf) ?_)
  refine tn_step [0, 1, 3] (by kernel_rfl) rfl ?_
  refine ⟨?_, ?_, ?_, trivial⟩
  · refine tn_q (listed' := #[true, false, true, false, false, false, false]) rfl rfl rfl (q_loadA tA31 rfl rfl rfl ?_)
    refine tn_step [1, 3] (by kernel_rfl) rfl ?_
    refine ⟨?_, ?_, trivial⟩
    · refine tn_q (listed' := #[true, true, true, false, false, false, false]) rfl rfl rfl (q_move (by conv=>lhs;whnf) ?_)
      refine tn_step [3] (by kernel_rfl) rfl ?_
      refine ⟨?_, trivial⟩
      refine tn_k (listed' := #[true, true, true, true, false, false, false]) rfl rfl rfl rfl (k_callR [(1000000, 900000), (1000001, 6), (1000002, 900001), (1000003, 900002), (900001, 900003)] (D_spec_l04DrawClosed cs _ _ n4 W4 j4 m4 hc hb (by omega) (by omega) (by omega)) rfl (rfl) (rfl) ⟨rfl, ⟨rfl, ⟨rfl, ⟨rfl, trivial⟩⟩⟩⟩ rfl (by rintro ⟨v8, a8, s8⟩ ⟨hx8_0, hx8_1⟩; exact ⟨⟨rfl, rfl, ⟨rfl, rfl, ⟨rfl, ⟨rfl, rfl, by first | exact Nat.le_refl _ | (simp; done) | (simp; omega)⟩, ⟨rfl, ⟨rfl, rfl, by first | exact Nat.le_refl _ | (simp; done) | (simp; omega)⟩, ⟨⟨rfl, show (900003 : Nat) < 1000000 by decide⟩, trivial⟩⟩⟩⟩⟩, rfl⟩) rfl rfl ?_)
      rintro ⟨v8, a8, s8⟩ ⟨hx8_0, hx8_1⟩
      have hclx := hx8_0
      refine tn_step [4] (by kernel_rfl) rfl ?_
      refine ⟨?_, trivial⟩
      refine tn_k (listed' := #[true, true, true, true, true, false, false]) rfl rfl rfl rfl (k_store sz31 rfl (by conv=>lhs;whnf) rfl rfl rfl (Nat.le_of_ble_eq_true rfl) rfl ?_)
      refine tn_first_q (i := 5) (listed' := #[true, true, true, true, true, true, false]) rfl rfl (by kernel_rfl) rfl (q_assign (by conv=>lhs;whnf) ?_)
      refine tn_first_q (i := 6) (listed' := #[true, true, true, true, true, true, true]) rfl rfl (by kernel_rfl) rfl (q_assign (by conv=>lhs;whnf) ?_)
      refine tn_end (by kernel_rfl) (hK7 _ ?_); clear hK7
      refine good_ret ?_
      repeat first|refine thenQ_ret ?_|refine blockQ_ret ?_
      refine ex_6 (v := n4) (a := W4) (b := j4) (c := m4) (d := v6) (e := v8) ?hF ?hR
      case hF =>
        refine fx_many rfl ?_
        refine fxs_cell tA31 rfl rfl rfl ?_
        refine fxs_tmp (by conv=>lhs;whnf) ?_
        refine fxs_tmp (by conv=>lhs;whnf) ?_
        refine fx_nil ?_
        exact ⟨_, .tup (.cons (conv_eq (by first | rfl | exact fAgg1 (by first | rfl | exact ownEq (by first | done | omega | (simp; done)) | (simp_all; done)) (fAgg1 (by first | rfl | exact ownEq (by first | done | omega | (simp; done)) | (simp_all; done)) (rfl)))) (.cons (conv_eq (by first | rfl | exact fI (by first | omega | grind) | (exfalso; first | omega | grind))) (.cons (conv_eq (by first | rfl | (rw [e]; done) | (rw [e]; rfl) | exact ownEq (by first | omega | simp_all))) (.nil)))), weakH_row (rowEq (by first | rfl | (rw [e]; done) | (rw [e]; rfl) | (simp_all; done))) (weakH_row (rowEq (by first | rfl | (rw [e]; done) | (rw [e]; rfl) | (simp_all; done))) (weakH_row (rowEq (by first | rfl | (rw [e]; done) | (rw [e]; rfl) | (simp_all; done))) (weakH_none _))), refsIn_ok rfl⟩
      case hR =>
        exact ⟨hn20, ⟨hjm, hWz⟩, hclx⟩
    · refine tn_k (listed' := #[true, false, true, true, false, false, false]) rfl rfl rfl rfl (k_callR [(1000000, 900000), (1000001, 6), (1000002, 900001), (1000003, 900002), (900001, 900003)] (D_spec_l04DrawClosed cs _ _ n4 W4 j4 m4 hc hb (by omega) (by omega) (by omega)) rfl (rfl) (rfl) ⟨rfl, ⟨rfl, ⟨rfl, ⟨rfl, trivial⟩⟩⟩⟩ rfl (by rintro ⟨v9, a9, s9⟩ ⟨hx9_0, hx9_1⟩; exact ⟨⟨rfl, rfl, ⟨rfl, rfl, ⟨rfl, ⟨rfl, rfl, by first | exact Nat.le_refl _ | (simp; done) | (simp; omega)⟩, ⟨rfl, ⟨rfl, rfl, by first | exact Nat.le_refl _ | (simp; done) | (simp; omega)⟩, ⟨⟨rfl, show (900003 : Nat) < 1000000 by decide⟩, trivial⟩⟩⟩⟩⟩, rfl⟩) rfl rfl ?_)
      rintro ⟨v9, a9, s9⟩ ⟨hx9_0, hx9_1⟩
      have hclx := hx9_0
      refine tn_step [1, 4] (by kernel_rfl) rfl ?_
      refine ⟨?_, ?_, trivial⟩
      · refine tn_q (listed' := #[true, true, true, true, false, false, false]) rfl rfl rfl (q_move (by conv=>lhs;whnf) ?_)
        refine tn_step [4] (by kernel_rfl) rfl ?_
        refine ⟨?_, trivial⟩
        refine tn_k (listed' := #[true, true, true, true, true, false, false]) rfl rfl rfl rfl (k_store sz31 rfl (by conv=>lhs;whnf) rfl rfl rfl (Nat.le_of_ble_eq_true rfl) rfl ?_)
        refine tn_first_q (i := 5) (listed' := #[true, true, true, true, true, true, false]) rfl rfl (by kernel_rfl) rfl (q_assign (by conv=>lhs;whnf) ?_)
        refine tn_first_q (i := 6) (listed' := #[true, true, true, true, true, true, true]) rfl rfl (by kernel_rfl) rfl (q_assign (by conv=>lhs;whnf) ?_)
        refine tn_end (by kernel_rfl) (hK7 _ ?_); clear hK7
        refine good_ret ?_
        repeat first|refine thenQ_ret ?_|refine blockQ_ret ?_
        refine ex_6 (v := n4) (a := W4) (b := j4) (c := m4) (d := v6) (e := v9) ?hF ?hR
        case hF =>
          refine fx_many rfl ?_
          refine fxs_cell tA31 rfl rfl rfl ?_
          refine fxs_tmp (by conv=>lhs;whnf) ?_
          refine fxs_tmp (by conv=>lhs;whnf) ?_
          refine fx_nil ?_
          exact ⟨_, .tup (.cons (conv_eq (by first | rfl | exact fAgg1 (by first | rfl | exact ownEq (by first | done | omega | (simp; done)) | (simp_all; done)) (fAgg1 (by first | rfl | exact ownEq (by first | done | omega | (simp; done)) | (simp_all; done)) (rfl)))) (.cons (conv_eq (by first | rfl | exact fI (by first | omega | grind) | (exfalso; first | omega | grind))) (.cons (conv_eq (by first | rfl | (rw [e]; done) | (rw [e]; rfl) | exact ownEq (by first | omega | simp_all))) (.nil)))), weakH_row (rowEq (by first | rfl | (rw [e]; done) | (rw [e]; rfl) | (simp_all; done))) (weakH_row (rowEq (by first | rfl | (rw [e]; done) | (rw [e]; rfl) | (simp_all; done))) (weakH_row (rowEq (by first | rfl | (rw [e]; done) | (rw [e]; rfl) | (simp_all; done))) (weakH_none _))), refsIn_ok rfl⟩
        case hR =>
          exact ⟨hn20, ⟨hjm, hWz⟩, hclx⟩
      · refine tn_k (listed' := #[true, false, true, true, true, false, false]) rfl rfl rfl rfl (k_store sz31 rfl (by conv=>lhs;whnf) rfl rfl rfl (Nat.le_of_ble_eq_true rfl) rfl ?_)
        refine tn_first_q (i := 1) (listed' := #[true, true, true, true, true, false, false]) rfl rfl (by kernel_rfl) rfl (q_move (by conv=>lhs;whnf) ?_)
        refine tn_first_q (i := 5) (listed' := #[true, true, true, true, true, true, false]) rfl rfl (by kernel_rfl) rfl (q_assign (by conv=>lhs;whnf) ?_)
        refine tn_first_q (i := 6) (listed' := #[true, true, true, true, true, true, true]) rfl rfl (by kernel_rfl) rfl (q_assign (by conv=>lhs;whnf) ?_)
        refine tn_end (by kernel_rfl) (hK7 _ ?_); clear hK7
        refine good_ret ?_
        repeat first|refine thenQ_ret ?_|refine blockQ_ret ?_
        refine ex_6 (v := n4) (a := W4) (b := j4) (c := m4) (d := v6) (e := v9) ?hF ?hR
        case hF =>
          refine fx_many rfl ?_
          refine fxs_cell tA31 rfl rfl rfl ?_
          refine fxs_tmp (by conv=>lhs;whnf) ?_
          refine fxs_tmp (by conv=>lhs;whnf) ?_
          refine fx_nil ?_
          exact ⟨_, .tup (.cons (conv_eq (by first | rfl | exact fAgg1 (by first | rfl | exact ownEq (by first | done | omega | (simp; done)) | (simp_all; done)) (fAgg1 (by first | rfl | exact ownEq (by first | done | omega | (simp; done)) | (simp_all; done)) (rfl)))) (.cons (conv_eq (by first | rfl | exact fI (by first | omega | grind) | (exfalso; first | omega | grind))) (.cons (conv_eq (by first | rfl | (rw [e]; done) | (rw [e]; rfl) | exact ownEq (by first | omega | simp_all))) (.nil)))), weakH_row (rowEq (by first | rfl | (rw [e]; done) | (rw [e]; rfl) | (simp_all; done))) (weakH_row (rowEq (by first | rfl | (rw [e]; done) | (rw [e]; rfl) | (simp_all; done))) (weakH_row (rowEq (by first | rfl | (rw [e]; done) | (rw [e]; rfl) | (simp_all; done))) (weakH_none _))), refsIn_ok rfl⟩
        case hR =>
          exact ⟨hn20, ⟨hjm, hWz⟩, hclx⟩
  · refine tn_q (listed' := #[false, true, true, false, false, false, false]) rfl rfl rfl (q_move (by conv=>lhs;whnf) ?_)
    refine tn_step [0, 3] (by kernel_rfl) rfl ?_
    refine ⟨?_, ?_, trivial⟩
    · refine tn_q (listed' := #[true, true, true, false, false, false, false]) rfl rfl rfl (q_loadA tA31 rfl rfl rfl ?_)
      refine tn_step [3] (by kernel_rfl) rfl ?_
      refine ⟨?_, trivial⟩
      refine tn_k (listed' := #[true, true, true, true, false, false, false]) rfl rfl rfl rfl (k_callR [(1000000, 900000), (1000001, 6), (1000002, 900001), (1000003, 900002), (900001, 900003)] (D_spec_l04DrawClosed cs _ _ n4 W4 j4 m4 hc hb (by omega) (by omega) (by omega)) rfl (rfl) (rfl) ⟨rfl, ⟨rfl, ⟨rfl, ⟨rfl, trivial⟩⟩⟩⟩ rfl (by rintro ⟨v10, a10, s10⟩ ⟨hx10_0, hx10_1⟩; exact ⟨⟨rfl, rfl, ⟨rfl, rfl, ⟨rfl, ⟨rfl, rfl, by first | exact Nat.le_refl _ | (simp; done) | (simp; omega)⟩, ⟨rfl, ⟨rfl, rfl, by first | exact Nat.le_refl _ | (simp; done) | (simp; omega)⟩, ⟨⟨rfl, show (900003 : Nat) < 1000000 by decide⟩, trivial⟩⟩⟩⟩⟩, rfl⟩) rfl rfl ?_)
      rintro ⟨v10, a10, s10⟩ ⟨hx10_0, hx10_1⟩
      have hclx := hx10_0
      refine tn_step [4] (by kernel_rfl) rfl ?_
      refine ⟨?_, trivial⟩
      refine tn_k (listed' := #[true, true, true, true, true, false, false]) rfl rfl rfl rfl (k_store sz31 rfl (by conv=>lhs;whnf) rfl rfl rfl (Nat.le_of_ble_eq_true rfl) rfl ?_)
      refine tn_first_q (i := 5) (listed' := #[true, true, true, true, true, true, false]) rfl rfl (by kernel_rfl) rfl (q_assign (by conv=>lhs;whnf) ?_)
      refine tn_first_q (i := 6) (listed' := #[true, true, true, true, true, true, true]) rfl rfl (by kernel_rfl) rfl (q_assign (by conv=>lhs;whnf) ?_)
      refine tn_end (by kernel_rfl) (hK7 _ ?_); clear hK7
      refine good_ret ?_
      repeat first|refine thenQ_ret ?_|refine blockQ_ret ?_
      refine ex_6 (v := n4) (a := W4) (b := j4) (c := m4) (d := v6) (e := v10) ?hF ?hR
      case hF =>
        refine fx_many rfl ?_
        refine fxs_cell tA31 rfl rfl rfl ?_
        refine fxs_tmp (by conv=>lhs;whnf) ?_
        refine fxs_tmp (by conv=>lhs;whnf) ?_
        refine fx_nil ?_
        exact ⟨_, .tup (.cons (conv_eq (by first | rfl | exact fAgg1 (by first | rfl | exact ownEq (by first | done | omega | (simp; done)) | (simp_all; done)) (fAgg1 (by first | rfl | exact ownEq (by first | done | omega | (simp; done)) | (simp_all; done)) (rfl)))) (.cons (conv_eq (by first | rfl | exact fI (by first | omega | grind) | (exfalso; first | omega | grind))) (.cons (conv_eq (by first | rfl | (rw [e]; done) | (rw [e]; rfl) | exact ownEq (by first | omega | simp_all))) (.nil)))), weakH_row (rowEq (by first | rfl | (rw [e]; done) | (rw [e]; rfl) | (simp_all; done))) (weakH_row (rowEq (by first | rfl | (rw [e]; done) | (rw [e]; rfl) | (simp_all; done))) (weakH_row (rowEq (by first | rfl | (rw [e]; done) | (rw [e]; rfl) | (simp_all; done))) (weakH_none _))), refsIn_ok rfl⟩
      case hR =>
        exact ⟨hn20, ⟨hjm, hWz⟩, hclx⟩
    · refine tn_k (listed' := #[false, true, true, true, false, false, false]) rfl rfl rfl rfl (k_callR [(1000000, 900000), (1000001, 6), (1000002, 900001), (1000003, 900002), (900001, 900003)] (D_spec_l04DrawClosed cs _ _ n4 W4 j4 m4 hc hb (by omega) (by omega) (by omega)) rfl (rfl) (rfl) ⟨rfl, ⟨rfl, ⟨rfl, ⟨rfl, trivial⟩⟩⟩⟩ rfl (by rintro ⟨v11, a11, s11⟩ ⟨hx11_0, hx11_1⟩; exact ⟨⟨rfl, rfl, ⟨rfl, rfl, ⟨rfl, ⟨rfl, rfl, by first | exact Nat.le_refl _ | (simp; done) | (simp; omega)⟩, ⟨rfl, ⟨rfl, rfl, by first | exact Nat.le_refl _ | (simp; done) | (simp; omega)⟩, ⟨⟨rfl, show (900003 : Nat) < 1000000 by decide⟩, trivial⟩⟩⟩⟩⟩, rfl⟩) rfl rfl ?_)
      rintro ⟨v11, a11, s11⟩ ⟨hx11_0, hx11_1⟩
      have hclx := hx11_0
      refine tn_first_q (i := 0) (listed' := #[true, true, true, true, false, false, false]) rfl rfl (by kernel_rfl) rfl (q_loadA tA31 rfl rfl rfl ?_)
      refine tn_step [4] (by kernel_rfl) rfl ?_
      refine ⟨?_, trivial⟩
      refine tn_k (listed' := #[true, true, true, true, true, false, false]) rfl rfl rfl rfl (k_store sz31 rfl (by conv=>lhs;whnf) rfl rfl rfl (Nat.le_of_ble_eq_true rfl) rfl ?_)
      refine tn_first_q (i := 5) (listed' := #[true, true, true, true, true, true, false]) rfl rfl (by kernel_rfl) rfl (q_assign (by conv=>lhs;whnf) ?_)
      refine tn_first_q (i := 6) (listed' := #[true, true, true, true, true, true, true]) rfl rfl (by kernel_rfl) rfl (q_assign (by conv=>lhs;whnf) ?_)
      refine tn_end (by kernel_rfl) (hK7 _ ?_); clear hK7
      refine good_ret ?_
      repeat first|refine thenQ_ret ?_|refine blockQ_ret ?_
      refine ex_6 (v := n4) (a := W4) (b := j4) (c := m4) (d := v6) (e := v11) ?hF ?hR
      case hF =>
        refine fx_many rfl ?_
        refine fxs_cell tA31 rfl rfl rfl ?_
        refine fxs_tmp (by conv=>lhs;whnf) ?_
        refine fxs_tmp (by conv=>lhs;whnf) ?_
        refine fx_nil ?_
        exact ⟨_, .tup (.cons (conv_eq (by first | rfl | exact fAgg1 (by first | rfl | exact ownEq (by first | done | omega | (simp; done)) | (simp_all; done)) (fAgg1 (by first | rfl | exact ownEq (by first | done | omega | (simp; done)) | (simp_all; done)) (rfl)))) (.cons (conv_eq (by first | rfl | exact fI (by first | omega | grind) | (exfalso; first | omega | grind))) (.cons (conv_eq (by first | rfl | (rw [e]; done) | (rw [e]; rfl) | exact ownEq (by first | omega | simp_all))) (.nil)))), weakH_row (rowEq (by first | rfl | (rw [e]; done) | (rw [e]; rfl) | (simp_all; done))) (weakH_row (rowEq (by first | rfl | (rw [e]; done) | (rw [e]; rfl) | (simp_all; done))) (weakH_row (rowEq (by first | rfl | (rw [e]; done) | (rw [e]; rfl) | (simp_all; done))) (weakH_none _))), refsIn_ok rfl⟩
      case hR =>
        exact ⟨hn20, ⟨hjm, hWz⟩, hclx⟩
  · refine tn_k (listed' := #[false, false, true, true, false, false, false]) rfl rfl rfl rfl (k_callR [(1000000, 900000), (1000001, 6), (1000002, 900001), (1000003, 900002), (900001, 900003)] (D_spec_l04DrawClosed cs _ _ n4 W4 j4 m4 hc hb (by omega) (by omega) (by omega)) rfl (rfl) (rfl) ⟨rfl, ⟨rfl, ⟨rfl, ⟨rfl, trivial⟩⟩⟩⟩ rfl (by rintro ⟨v12, a12, s12⟩ ⟨hx12_0, hx12_1⟩; exact ⟨⟨rfl, rfl, ⟨rfl, rfl, ⟨rfl, ⟨rfl, rfl, by first | exact Nat.le_refl _ | (simp; done) | (simp; omega)⟩, ⟨rfl, ⟨rfl, rfl, by first | exact Nat.le_refl _ | (simp; done) | (simp; omega)⟩, ⟨⟨rfl, show (900003 : Nat) < 1000000 by decide⟩, trivial⟩⟩⟩⟩⟩, rfl⟩) rfl rfl ?_)
    rintro ⟨v12, a12, s12⟩ ⟨hx12_0, hx12_1⟩
    have hclx := hx12_0
    refine tn_first_q (i := 0) (listed' := #[true, false, true, true, false, false, false]) rfl rfl (by kernel_rfl) rfl (q_loadA tA31 rfl rfl rfl ?_)
    refine tn_step [1, 4] (by kernel_rfl) rfl ?_
    refine ⟨?_, ?_, trivial⟩
    · refine tn_q (listed' := #[true, true, true, true, false, false, false]) rfl rfl rfl (q_move (by conv=>lhs;whnf) ?_)
      refine tn_step [4] (by kernel_rfl) rfl ?_
      refine ⟨?_, trivial⟩
      refine tn_k (listed' := #[true, true, true, true, true, false, false]) rfl rfl rfl rfl (k_store sz31 rfl (by conv=>lhs;whnf) rfl rfl rfl (Nat.le_of_ble_eq_true rfl) rfl ?_)
      refine tn_first_q (i := 5) (listed' := #[true, true, true, true, true, true, false]) rfl rfl (by kernel_rfl) rfl (q_assign (by conv=>lhs;whnf) ?_)
      refine tn_first_q (i := 6) (listed' := #[true, true, true, true, true, true, true]) rfl rfl (by kernel_rfl) rfl (q_assign (by conv=>lhs;whnf) ?_)
      refine tn_end (by kernel_rfl) (hK7 _ ?_); clear hK7
      refine good_ret ?_
      repeat first|refine thenQ_ret ?_|refine blockQ_ret ?_
      refine ex_6 (v := n4) (a := W4) (b := j4) (c := m4) (d := v6) (e := v12) ?hF ?hR
      case hF =>
        refine fx_many rfl ?_
        refine fxs_cell tA31 rfl rfl rfl ?_
        refine fxs_tmp (by conv=>lhs;whnf) ?_
        refine fxs_tmp (by conv=>lhs;whnf) ?_
        refine fx_nil ?_
        exact ⟨_, .tup (.cons (conv_eq (by first | rfl | exact fAgg1 (by first | rfl | exact ownEq (by first | done | omega | (simp; done)) | (simp_all; done)) (fAgg1 (by first | rfl | exact ownEq (by first | done | omega | (simp; done)) | (simp_all; done)) (rfl)))) (.cons (conv_eq (by first | rfl | exact fI (by first | omega | grind) | (exfalso; first | omega | grind))) (.cons (conv_eq (by first | rfl | (rw [e]; done) | (rw [e]; rfl) | exact ownEq (by first | omega | simp_all))) (.nil)))), weakH_row (rowEq (by first | rfl | (rw [e]; done) | (rw [e]; rfl) | (simp_all; done))) (weakH_row (rowEq (by first | rfl | (rw [e]; done) | (rw [e]; rfl) | (simp_all; done))) (weakH_row (rowEq (by first | rfl | (rw [e]; done) | (rw [e]; rfl) | (simp_all; done))) (weakH_none _))), refsIn_ok rfl⟩
      case hR =>
        exact ⟨hn20, ⟨hjm, hWz⟩, hclx⟩
    · refine tn_k (listed' := #[true, false, true, true, true, false, false]) rfl rfl rfl rfl (k_store sz31 rfl (by conv=>lhs;whnf) rfl rfl rfl (Nat.le_of_ble_eq_true rfl) rfl ?_)
      refine tn_first_q (i := 1) (listed' := #[true, true, true, true, true, false, false]) rfl rfl (by kernel_rfl) rfl (q_move (by conv=>lhs;whnf) ?_)
      refine tn_first_q (i := 5) (listed' := #[true, true, true, true, true, true, false]) rfl rfl (by kernel_rfl) rfl (q_assign (by conv=>lhs;whnf) ?_)
      refine tn_first_q (i := 6) (listed' := #[true, true, true, true, true, true, true]) rfl rfl (by kernel_rfl) rfl (q_assign (by conv=>lhs;whnf) ?_)
      refine tn_end (by kernel_rfl) (hK7 _ ?_); clear hK7
      refine good_ret ?_
      repeat first|refine thenQ_ret ?_|refine blockQ_ret ?_
      refine ex_6 (v := n4) (a := W4) (b := j4) (c := m4) (d := v6) (e := v12) ?hF ?hR
      case hF =>
        refine fx_many rfl ?_
        refine fxs_cell tA31 rfl rfl rfl ?_
        refine fxs_tmp (by conv=>lhs;whnf) ?_
        refine fxs_tmp (by conv=>lhs;whnf) ?_
        refine fx_nil ?_
        exact ⟨_, .tup (.cons (conv_eq (by first | rfl | exact fAgg1 (by first | rfl | exact ownEq (by first | done | omega | (simp; done)) | (simp_all; done)) (fAgg1 (by first | rfl | exact ownEq (by first | done | omega | (simp; done)) | (simp_all; done)) (rfl)))) (.cons (conv_eq (by first | rfl | exact fI (by first | omega | grind) | (exfalso; first | omega | grind))) (.cons (conv_eq (by first | rfl | (rw [e]; done) | (rw [e]; rfl) | exact ownEq (by first | omega | simp_all))) (.nil)))), weakH_row (rowEq (by first | rfl | (rw [e]; done) | (rw [e]; rfl) | (simp_all; done))) (weakH_row (rowEq (by first | rfl | (rw [e]; done) | (rw [e]; rfl) | (simp_all; done))) (weakH_row (rowEq (by first | rfl | (rw [e]; done) | (rw [e]; rfl) | (simp_all; done))) (weakH_none _))), refsIn_ok rfl⟩
      case hR =>
        exact ⟨hn20, ⟨hjm, hWz⟩, hclx⟩
theorem D_spec_DrawReachedWithout (cs : List Int) (hc : cs.length ≤ 17592186044416) (hb : byteL cs) : DenR Try.prog 30 [.lst 1 (cs.map cb)] (τ := List Int × List Pi × Nat × Nat × Int × List Int) (fun (ns, W, j, m, p, cl) => ns.length ≤ 20 ∧ ((j + m = W.length ∧ W.length ≤ 30) ∧ idSz W) ∧ cl.length ≤ 1001) (fun (ns, W, j, m, p, cl) => .tup [.agg [.lst 1 (ns.map ci), .lst 6 (((W.drop j).take m).map piA)], .s (.int .i64 p), .lst 1 (cl.map ci)]) :=
  denR_of_denXR (D_spec_DrawReachedWithout_X cs hc hb) (by rintro ⟨ns, W, j, m, p, cl⟩ _; change (some (.tup [.agg [.lst 1 (List.take ns.length (ns.map ci)), .lst 6 (List.take m (List.drop j (W.map piA)))], .s (.int .i64 p), .lst 1 (List.take cl.length (cl.map ci))]) : Option AV) = some (.tup [.agg [.lst 1 (ns.map ci), .lst 6 (((W.drop j).take m).map piA)], .s (.int .i64 p), .lst 1 (cl.map ci)]); simp only [takeMap, List.map_take, List.map_drop])

end Go.Proofs.Ytkgnbjgnddfojaa.DFnWays
