/- Walks through the functions that FnWaves reaches: what each answers. -/
import Derived.Test.YtodghlkodiidaaaGreatDoorDFnWavesb
set_option linter.unusedVariables false
set_option linter.unusedSimpArgs false
namespace Go.Proofs.YtodghlkodiidaaaGreatDoor.DFnWaves
open Go Go.RowKit Go.Proofs Go.Proofs.YtodghlkodiidaaaGreatDoor Go.Proofs.YtodghlkodiidaaaGreatDoor.Ev
-- spec.l09Draw
set_option maxRecDepth 20000 in
set_option maxHeartbeats 2000000 in
theorem D_spec_l09Draw (cs : List Int) (a s : Int) (hc : cs.length ≤ 17592186044416) (hb : byteL cs) (ha : 0 ≤ a ∧ a ≤ 1000000000000000000) : DenXR Tryz.prog 56 [(1000000, .box 91 (src cs a s))] [.ptr 1000000 0] (τ := List (Int × Int) × Int × Int) (fun (xs, a1, s1) => (waveOk xs ∧ wv8 xs) ∧ (a ≤ a1 ∧ a1 ≤ a + 100)) (fun (xs, a1, s1) => [(1000000, .box 91 (src cs a1 s1)), (900001, .row 86 2 (xs.map stp))]) (fun (xs, a1, s1) => .own 900001 xs.length) := by
  refine denXR_of_good Tryz.func56 (by decide) rfl (Nat.le_of_ble_eq_true rfl) (Nat.le_of_ble_eq_true rfl) rfl ?_
  refine good_seq fun K1 hK1 => ?_
  refine good_region rfl ?_
  refine ev_q rfl (q_assign (by conv => lhs; whnf) ?_)
  refine ev_nil (hK1 _ ?_); clear hK1
  refine good_seq fun K2 hK2 => ?_
  refine good_region rfl ?_
  refine ev_q rfl (q_move (by conv => lhs; whnf) ?_)
  refine ev_k rfl (k_callR [(1000000, 1000000)] (D_spec_l00Src_pick cs _ _ _ hc hb (by omega) (by omega)) rfl (rfl) (rfl) ⟨rfl, trivial⟩ rfl (by rintro ⟨v3, a3, s3⟩ ⟨hx3_0, hx3_1⟩; exact ⟨⟨rfl, rfl, trivial⟩, rfl⟩) rfl rfl ?_)
  rintro ⟨v3, a3, s3⟩ ⟨hx3_0, hx3_1⟩
  refine ev_q rfl (q_int rfl rfl ?_)
  intro n4 hn4
  replace hn4 := in64 hn4 (by omega) (by omega)
  refine ev_k rfl (k_build zA86 pl86 (rfl) ?_)
  refine ev_k rfl (k_lit tE44 zA86 rfl rfl (by decide) (by decide) rfl rfl rfl ?_)
  refine ev_q rfl (q_assign (by conv => lhs; whnf) ?_)
  refine ev_nil (hK2 _ ?_); clear hK2
  refine good_seq fun K5 hK5 => ?_
  refine good_seq fun K6 hK6 => ?_
  refine good_region rfl ?_
  refine ev_q rfl (q_move (by conv => lhs; whnf) ?_)
  refine ev_k rfl (k_callR [(1000000, 1000000)] (D_spec_l00Src_pick cs _ _ _ hc hb (by omega) (by omega)) rfl (rfl) (rfl) ⟨rfl, trivial⟩ rfl (by rintro ⟨v7, a7, s7⟩ ⟨hx7_0, hx7_1⟩; exact ⟨⟨rfl, rfl, trivial⟩, rfl⟩) rfl rfl ?_)
  rintro ⟨v7, a7, s7⟩ ⟨hx7_0, hx7_1⟩
  refine ev_q rfl (q_assign (by conv => lhs; whnf) ?_)
  refine ev_nil (hK6 _ ?_); clear hK6
  refine good_block ?_
  refine good_loop (α := List (Int × Int) × Int × Int × Int) (fun (u, k, a1, s1) => { env := upd (upd (upd ((fun _ => .junk)) 0 (.ptr 1000000 0)) 3 (.own 37 u.length)) 4 (.s (.int .i64 k)), H := upd (upd ((fun _ => none)) 1000000 (some (.box 91 (src cs a1 s1)))) 37 (some (.row 86 2 (u.map stp))) }) (fun (u, k, a1, s1) => (wvD u ∧ u.length + k ≤ 5 ∧ 0 ≤ k) ∧ (a ≤ a1 ∧ a1 ≤ a + 10 * u.length)) (fun (u, k, a1, s1) => k.toNat) ([(0, n4)], v7, a7, s7) ?_ ?_ ?_
  · exact ⟨⟨wvD_0 (by omega), by simp; omega, by omega⟩, by simp; omega⟩
  · refine Sub.trans (sub_move 3 10 37 rfl rfl rfl (by decide)) ?_
    refine sub_weak ?_ ?_
    · exact weakH_row (rowEq (rfl)) (weakH_box (boxEq (rfl)) rfl (weakH_none _))
    · refine weakE_upd ?e4 ?r4 (weakE_upd ?e3 ?r3 (weakE_upd ?e0 ?r0 (weakE_junk _ _)))
      case e0 => first | rfl | exact fI (by omega) | (simp_all)
      case r0 => intro h hh; simp [refs] at hh; subst hh; rfl
      case e3 => first | rfl | exact fI (by omega) | (first | rfl | exact ownEq (by simp))
      case r3 => intro h hh; simp [refs] at hh; subst hh; rfl
      case e4 => first | rfl | exact fI (by omega) | (simp_all)
      case r4 => intro h hh; cases hh
  · rintro ⟨u, k, a1, s1⟩ ⟨hI, hJ⟩
    refine good_seq fun K8 hK8 => ?_
    refine good_seq fun K9 hK9 => ?_
    refine good_region rfl ?_
    refine ev_q rfl (q_move (by conv => lhs; whnf) ?_)
    refine ev_q rfl (q_int rfl rfl ?_)
    intro b10 hb10; cases b10
    · replace hb10 := dF hb10
      refine ev_nil (hK9 _ ?_); clear hK9
      refine good_condF rfl ?_
      refine good_exit ?_
      repeat (first | refine thenQ_exit ?_ | refine blockQ_pass rfl ?_)
      refine blockQ_exit (hK5 _ ?_); clear hK5
      refine good_seq fun K11 hK11 => ?_
      refine good_region rfl ?_
      refine ev_q rfl (q_move (by conv => lhs; whnf) ?_)
      refine ev_q rfl (q_assign (by conv => lhs; whnf) ?_)
      refine ev_nil (hK11 _ ?_); clear hK11
      refine good_weak (sub_move 2 37 900001 rfl rfl rfl (by decide)) ?_
      refine good_ret ?_
      repeat (first | refine thenQ_ret ?_ | refine blockQ_ret ?_)
      clear hK8
      refine ex_3 (v := u) (a := a1) (b := s1) ?hF ?hR
      case hF =>
        refine fx_tmp rfl (by conv => lhs; whnf) ?_
        exact ⟨_, conv_eq (by first | rfl | (rw [e]; done) | (rw [e]; rfl) | exact ownEq (by first | omega | simp_all)), weakH_box (boxEq (by first | rfl | (rw [e]; done) | (rw [e]; rfl) | (simp_all; done))) rfl (weakH_row (rowEq (by first | rfl | (rw [List.map_append]; rfl))) (weakH_none _)), refsIn_ok rfl⟩
      case hR =>
        exact ⟨wvD_end hI.1 (by omega), by omega⟩
    · replace hb10 := dT hb10
      refine ev_nil (hK9 _ ?_); clear hK9
      refine good_condT rfl ?_
      refine good_skip (hK8 _ ?_); clear hK8
      refine good_seq fun K12 hK12 => ?_
      refine good_block ?_
      refine good_seq fun K13 hK13 => ?_
      refine good_any 15 (listed := #[false, false, false, false, false, false, false, false, false, false, false, false, false, false, false]) rfl rfl hmix rfl ?_
      refine tn_first_q (i := 0) (listed' := #[true, false, false, false, false, false, false, false, false, false, false, false, false, false, false]) rfl rfl (by kernel_rfl) rfl (q_move (by conv => lhs; whnf) ?_)
      refine tn_first_q (i := 1) (listed' := #[true, true, false, false, false, false, false, false, false, false, false, false, false, false, false]) rfl rfl (by kernel_rfl) rfl (q_move (by conv => lhs; whnf) ?_)
      refine tn_first_q (i := 8) (listed' := #[true, true, false, false, false, false, false, false, true, false, false, false, false, false, false]) rfl rfl (by kernel_rfl) rfl (q_move (by conv => lhs; whnf) ?_)
      refine tn_step [2, 9, 13] (by kernel_rfl) rfl ?_
      refine ⟨?_, ?_, ?_, trivial⟩
      · refine tn_q (listed' := #[true, true, true, false, false, false, false, false, true, false, false, false, false, false, false]) rfl rfl rfl (q_len tEs44 rfl ?_)
        intro n14 hn14
        try simp only [List.length_map] at hn14
        refine tn_first_q (i := 3) (listed' := #[true, true, true, true, false, false, false, false, true, false, false, false, false, false, false]) rfl rfl (by kernel_rfl) rfl (q_int rfl rfl ?_)
        intro n15 hn15
        replace hn15 := in64 hn15 (by omega) (by omega)
        refine tn_step [4, 9, 13] (by kernel_rfl) rfl ?_
        refine ⟨?_, ?_, ?_, trivial⟩
        · have h1u := hI.1.1
          obtain ⟨l, hl⟩ := getL (xs := u) (n := n15) (by omega) (by omega)
          have hl2 : u[u.length - 1]? = some l := by rw [← hl]; congr 1; omega
          have hlb := hI.1.2.1 l (List.mem_of_getElem? hl)
          refine tn_q (listed' := #[true, true, true, true, true, false, false, false, true, false, false, false, false, false, false]) rfl rfl rfl (q_idxO tE44 rfl rfl rfl (by omega) (by omega) rfl ?_)
          refine tn_first_q (i := 5) (listed' := #[true, true, true, true, true, true, false, false, true, false, false, false, false, false, false]) rfl rfl (by kernel_rfl) rfl (q_fieldAddrE fO86_0 rfl rfl ?_)
          refine tn_step [6, 9, 13] (by kernel_rfl) rfl ?_
          refine ⟨?_, ?_, ?_, trivial⟩
          · refine tn_q (listed' := #[true, true, true, true, true, true, true, false, true, false, false, false, false, false, false]) rfl rfl rfl (q_loadE tA2 rfl rfl (by exact map_get hl) rfl ?_)
            refine tn_first_q (i := 7) (listed' := #[true, true, true, true, true, true, true, true, true, false, false, false, false, false, false]) rfl rfl (by kernel_rfl) rfl (q_int rfl rfl ?_)
            intro n16 hn16
            replace hn16 := in64 hn16 (by omega) (by omega)
            refine tn_step [9, 13] (by kernel_rfl) rfl ?_
            refine ⟨?_, ?_, trivial⟩
            · refine tn_k (listed' := #[true, true, true, true, true, true, true, true, true, true, false, false, false, false, false]) rfl rfl rfl rfl (k_callR [(1000000, 1000000)] (D_spec_l00Src_pick cs _ _ _ hc hb (by omega) (by omega)) rfl (rfl) (rfl) ⟨rfl, trivial⟩ rfl (by rintro ⟨v17, a17, s17⟩ ⟨hx17_0, hx17_1⟩; exact ⟨⟨rfl, rfl, trivial⟩, rfl⟩) rfl rfl ?_)
              rintro ⟨v17, a17, s17⟩ ⟨hx17_0, hx17_1⟩
              refine tn_first_q (i := 10) (listed' := #[true, true, true, true, true, true, true, true, true, true, true, false, false, false, false]) rfl rfl (by kernel_rfl) rfl (q_int rfl rfl ?_)
              intro n18 hn18
              replace hn18 := in64 hn18 (by omega) (by omega)
              refine tn_first_q (i := 11) (listed' := #[true, true, true, true, true, true, true, true, true, true, true, true, false, false, false]) rfl rfl (by kernel_rfl) rfl (q_int rfl rfl ?_)
              intro n19 hn19
              replace hn19 := in64 hn19 (by omega) (by omega)
              refine tn_step [12, 13] (by kernel_rfl) rfl ?_
              refine ⟨?_, ?_, trivial⟩
              · refine tn_k (listed' := #[true, true, true, true, true, true, true, true, true, true, true, true, true, false, false]) rfl rfl rfl rfl (k_build zA86 pl86 (rfl) ?_)
                refine tn_step [13] (by kernel_rfl) rfl ?_
                refine ⟨?_, trivial⟩
                · refine tn_k (listed' := #[true, true, true, true, true, true, true, true, true, true, true, true, true, true, false]) rfl rfl rfl rfl (k_alloc zA86 rfl ?_)
                  refine tn_step [14] (by kernel_rfl) rfl ?_
                  refine ⟨?_, trivial⟩
                  · refine tn_k (listed' := #[true, true, true, true, true, true, true, true, true, true, true, true, true, true, true]) rfl rfl rfl rfl (k_store sz86 rfl (by conv => lhs; whnf) rfl rfl rfl (Nat.le_of_ble_eq_true rfl) rfl ?_)
                    refine tn_end (by kernel_rfl) (hK13 _ ?_); clear hK13
                    refine good_seq fun K20 hK20 => ?_
                    refine good_region rfl ?_
                    refine ev_q rfl (q_move (by conv => lhs; whnf) ?_)
                    refine ev_k rfl (k_callR [(1000000, 1000000)] (D_spec_l00Src_pick cs _ _ _ hc hb (by omega) (by omega)) rfl (rfl) (rfl) ⟨rfl, trivial⟩ rfl (by rintro ⟨v21, a21, s21⟩ ⟨hx21_0, hx21_1⟩; exact ⟨⟨rfl, rfl, trivial⟩, rfl⟩) rfl rfl ?_)
                    rintro ⟨v21, a21, s21⟩ ⟨hx21_0, hx21_1⟩
                    refine ev_q rfl (q_int rfl rfl ?_)
                    intro n22 hn22
                    replace hn22 := in64 hn22 (by omega) (by omega)
                    refine ev_q rfl (q_fieldAddrP fO86_1 rfl rfl ?_)
                    refine ev_k rfl (k_store sz2 rfl (by conv => lhs; whnf) rfl rfl rfl (Nat.le_of_ble_eq_true rfl) rfl ?_)
                    refine ev_nil (hK20 _ ?_); clear hK20
                    refine good_region rfl ?_
                    refine ev_q rfl (q_move (by conv => lhs; whnf) ?_)
                    refine ev_q rfl (q_loadA tA86 rfl rfl rfl ?_)
                    refine ev_k rfl (k_lit tE44 zA86 rfl rfl (by decide) (by decide) rfl rfl rfl ?_)
                    refine ev_k rfl (k_app tApp44 rfl rfl (by simp) rfl (.inr rfl) (by simp [maxLen]; omega) (by simp; omega) ?_)
                    refine ev_q rfl (q_assign (by conv => lhs; whnf) ?_)
                    refine ev_nil (hK12 _ ?_); clear hK12
                    refine good_region rfl ?_
                    refine ev_q rfl (q_move (by conv => lhs; whnf) ?_)
                    refine ev_q rfl (q_int rfl rfl ?_)
                    intro n23 hn23
                    replace hn23 := in64 hn23 (by omega) (by omega)
                    refine ev_q rfl (q_assign (by conv => lhs; whnf) ?_)
                    refine ev_nil ?_
                    clear hK5
                    refine ⟨(u ++ [(n19, n22)], k - 1, a21, s21), ?_, ?_, ?_⟩
                    · exact ⟨⟨wvD_s hI.1 hl2 (by omega) (by omega), by simp; omega, by simp; omega⟩, by simp; omega⟩
                    · first | omega | (dsimp only; omega)
                    · refine sub_weak ?_ ?_
                      · exact weakH_row (rowEq (by rw [List.map_append]; rfl)) (weakH_box (boxEq (rfl)) rfl (weakH_none _))
                      · refine weakE_upd ?e4 ?r4 (weakE_upd ?e3 ?r3 (weakE_upd ?e0 ?r0 (weakE_junk _ _)))
                        case e0 => first | rfl | exact fI (by omega) | (simp_all)
                        case r0 => intro h hh; simp [refs] at hh; subst hh; rfl
                        case e3 => first | rfl | exact fI (by omega) | (first | rfl | exact ownEq (by simp))
                        case r3 => intro h hh; simp [refs] at hh; subst hh; rfl
                        case e4 => first | rfl | exact fI (by omega) | (simp_all)
                        case r4 => intro h hh; cases hh
              · refine tn_k (listed' := #[true, true, true, true, true, true, true, true, true, true, true, true, false, true, false]) rfl rfl rfl rfl (k_alloc zA86 rfl ?_)
                refine tn_step [12] (by kernel_rfl) rfl ?_
                refine ⟨?_, trivial⟩
                · refine tn_k (listed' := #[true, true, true, true, true, true, true, true, true, true, true, true, true, true, false]) rfl rfl rfl rfl (k_build zA86 pl86 (rfl) ?_)
                  refine tn_step [14] (by kernel_rfl) rfl ?_
                  refine ⟨?_, trivial⟩
                  · refine tn_k (listed' := #[true, true, true, true, true, true, true, true, true, true, true, true, true, true, true]) rfl rfl rfl rfl (k_store sz86 rfl (by conv => lhs; whnf) rfl rfl rfl (Nat.le_of_ble_eq_true rfl) rfl ?_)
                    refine tn_end (by kernel_rfl) (hK13 _ ?_); clear hK13
                    refine good_seq fun K24 hK24 => ?_
                    refine good_region rfl ?_
                    refine ev_q rfl (q_move (by conv => lhs; whnf) ?_)
                    refine ev_k rfl (k_callR [(1000000, 1000000)] (D_spec_l00Src_pick cs _ _ _ hc hb (by omega) (by omega)) rfl (rfl) (rfl) ⟨rfl, trivial⟩ rfl (by rintro ⟨v25, a25, s25⟩ ⟨hx25_0, hx25_1⟩; exact ⟨⟨rfl, rfl, trivial⟩, rfl⟩) rfl rfl ?_)
                    rintro ⟨v25, a25, s25⟩ ⟨hx25_0, hx25_1⟩
                    refine ev_q rfl (q_int rfl rfl ?_)
                    intro n26 hn26
                    replace hn26 := in64 hn26 (by omega) (by omega)
                    refine ev_q rfl (q_fieldAddrP fO86_1 rfl rfl ?_)
                    refine ev_k rfl (k_store sz2 rfl (by conv => lhs; whnf) rfl rfl rfl (Nat.le_of_ble_eq_true rfl) rfl ?_)
                    refine ev_nil (hK24 _ ?_); clear hK24
                    refine good_region rfl ?_
                    refine ev_q rfl (q_move (by conv => lhs; whnf) ?_)
                    refine ev_q rfl (q_loadA tA86 rfl rfl rfl ?_)
                    refine ev_k rfl (k_lit tE44 zA86 rfl rfl (by decide) (by decide) rfl rfl rfl ?_)
                    refine ev_k rfl (k_app tApp44 rfl rfl (by simp) rfl (.inr rfl) (by simp [maxLen]; omega) (by simp; omega) ?_)
                    refine ev_q rfl (q_assign (by conv => lhs; whnf) ?_)
                    refine ev_nil (hK12 _ ?_); clear hK12
                    refine good_region rfl ?_
                    refine ev_q rfl (q_move (by conv => lhs; whnf) ?_)
                    refine ev_q rfl (q_int rfl rfl ?_)
                    intro n27 hn27
                    replace hn27 := in64 hn27 (by omega) (by omega)
                    refine ev_q rfl (q_assign (by conv => lhs; whnf) ?_)
                    refine ev_nil ?_
                    clear hK5
                    refine ⟨(u ++ [(n19, n26)], k - 1, a25, s25), ?_, ?_, ?_⟩
                    · exact ⟨⟨wvD_s hI.1 hl2 (by omega) (by omega), by simp; omega, by simp; omega⟩, by simp; omega⟩
                    · first | omega | (dsimp only; omega)
                    · refine sub_weak ?_ ?_
                      · exact weakH_row (rowEq (by rw [List.map_append]; rfl)) (weakH_box (boxEq (rfl)) rfl (weakH_none _))
                      · refine weakE_upd ?e4 ?r4 (weakE_upd ?e3 ?r3 (weakE_upd ?e0 ?r0 (weakE_junk _ _)))
                        case e0 => first | rfl | exact fI (by omega) | (simp_all)
                        case r0 => intro h hh; simp [refs] at hh; subst hh; rfl
                        case e3 => first | rfl | exact fI (by omega) | (first | rfl | exact ownEq (by simp))
                        case r3 => intro h hh; simp [refs] at hh; subst hh; rfl
                        case e4 => first | rfl | exact fI (by omega) | (simp_all)
                        case r4 => intro h hh; cases hh
            · refine tn_k (listed' := #[true, true, true, true, true, true, true, true, true, false, false, false, false, true, false]) rfl rfl rfl rfl (k_alloc zA86 rfl ?_)
              refine tn_step [9] (by kernel_rfl) rfl ?_
              refine ⟨?_, trivial⟩
              · refine tn_k (listed' := #[true, true, true, true, true, true, true, true, true, true, false, false, false, true, false]) rfl rfl rfl rfl (k_callR [(1000000, 1000000)] (D_spec_l00Src_pick cs _ _ _ hc hb (by omega) (by omega)) rfl (rfl) (rfl) ⟨rfl, trivial⟩ rfl (by rintro ⟨v28, a28, s28⟩ ⟨hx28_0, hx28_1⟩; exact ⟨⟨rfl, rfl, trivial⟩, rfl⟩) rfl rfl ?_)
                rintro ⟨v28, a28, s28⟩ ⟨hx28_0, hx28_1⟩
                refine tn_first_q (i := 10) (listed' := #[true, true, true, true, true, true, true, true, true, true, true, false, false, true, false]) rfl rfl (by kernel_rfl) rfl (q_int rfl rfl ?_)
                intro n29 hn29
                replace hn29 := in64 hn29 (by omega) (by omega)
                refine tn_first_q (i := 11) (listed' := #[true, true, true, true, true, true, true, true, true, true, true, true, false, true, false]) rfl rfl (by kernel_rfl) rfl (q_int rfl rfl ?_)
                intro n30 hn30
                replace hn30 := in64 hn30 (by omega) (by omega)
                refine tn_step [12] (by kernel_rfl) rfl ?_
                refine ⟨?_, trivial⟩
                · refine tn_k (listed' := #[true, true, true, true, true, true, true, true, true, true, true, true, true, true, false]) rfl rfl rfl rfl (k_build zA86 pl86 (rfl) ?_)
                  refine tn_step [14] (by kernel_rfl) rfl ?_
                  refine ⟨?_, trivial⟩
                  · refine tn_k (listed' := #[true, true, true, true, true, true, true, true, true, true, true, true, true, true, true]) rfl rfl rfl rfl (k_store sz86 rfl (by conv => lhs; whnf) rfl rfl rfl (Nat.le_of_ble_eq_true rfl) rfl ?_)
                    refine tn_end (by kernel_rfl) (hK13 _ ?_); clear hK13
                    refine good_seq fun K31 hK31 => ?_
                    refine good_region rfl ?_
                    refine ev_q rfl (q_move (by conv => lhs; whnf) ?_)
                    refine ev_k rfl (k_callR [(1000000, 1000000)] (D_spec_l00Src_pick cs _ _ _ hc hb (by omega) (by omega)) rfl (rfl) (rfl) ⟨rfl, trivial⟩ rfl (by rintro ⟨v32, a32, s32⟩ ⟨hx32_0, hx32_1⟩; exact ⟨⟨rfl, rfl, trivial⟩, rfl⟩) rfl rfl ?_)
                    rintro ⟨v32, a32, s32⟩ ⟨hx32_0, hx32_1⟩
                    refine ev_q rfl (q_int rfl rfl ?_)
                    intro n33 hn33
                    replace hn33 := in64 hn33 (by omega) (by omega)
                    refine ev_q rfl (q_fieldAddrP fO86_1 rfl rfl ?_)
                    refine ev_k rfl (k_store sz2 rfl (by conv => lhs; whnf) rfl rfl rfl (Nat.le_of_ble_eq_true rfl) rfl ?_)
                    refine ev_nil (hK31 _ ?_); clear hK31
                    refine good_region rfl ?_
                    refine ev_q rfl (q_move (by conv => lhs; whnf) ?_)
                    refine ev_q rfl (q_loadA tA86 rfl rfl rfl ?_)
                    refine ev_k rfl (k_lit tE44 zA86 rfl rfl (by decide) (by decide) rfl rfl rfl ?_)
                    refine ev_k rfl (k_app tApp44 rfl rfl (by simp) rfl (.inr rfl) (by simp [maxLen]; omega) (by simp; omega) ?_)
                    refine ev_q rfl (q_assign (by conv => lhs; whnf) ?_)
                    refine ev_nil (hK12 _ ?_); clear hK12
                    refine good_region rfl ?_
                    refine ev_q rfl (q_move (by conv => lhs; whnf) ?_)
                    refine ev_q rfl (q_int rfl rfl ?_)
                    intro n34 hn34
                    replace hn34 := in64 hn34 (by omega) (by omega)
                    refine ev_q rfl (q_assign (by conv => lhs; whnf) ?_)
                    refine ev_nil ?_
                    clear hK5
                    refine ⟨(u ++ [(n30, n33)], k - 1, a32, s32), ?_, ?_, ?_⟩
                    · exact ⟨⟨wvD_s hI.1 hl2 (by omega) (by omega), by simp; omega, by simp; omega⟩, by simp; omega⟩
                    · first | omega | (dsimp only; omega)
                    · refine sub_weak ?_ ?_
                      · exact weakH_row (rowEq (by rw [List.map_append]; rfl)) (weakH_box (boxEq (rfl)) rfl (weakH_none _))
                      · refine weakE_upd ?e4 ?r4 (weakE_upd ?e3 ?r3 (weakE_upd ?e0 ?r0 (weakE_junk _ _)))
                        case e0 => first | rfl | exact fI (by omega) | (simp_all)
                        case r0 => intro h hh; simp [refs] at hh; subst hh; rfl
                        case e3 => first | rfl | exact fI (by omega) | (first | rfl | exact ownEq (by simp))
                        case r3 => intro h hh; simp [refs] at hh; subst hh; rfl
                        case e4 => first | rfl | exact fI (by omega) | (simp_all)
                        case r4 => intro h hh; cases hh
          · refine tn_k (listed' := #[true, true, true, true, true, true, false, false, true, true, false, false, false, false, false]) rfl rfl rfl rfl (k_callR [(1000000, 1000000)] (D_spec_l00Src_pick cs _ _ _ hc hb (by omega) (by omega)) rfl (rfl) (rfl) ⟨rfl, trivial⟩ rfl (by rintro ⟨v35, a35, s35⟩ ⟨hx35_0, hx35_1⟩; exact ⟨⟨rfl, rfl, trivial⟩, rfl⟩) rfl rfl ?_)
            rintro ⟨v35, a35, s35⟩ ⟨hx35_0, hx35_1⟩
            refine tn_first_q (i := 10) (listed' := #[true, true, true, true, true, true, false, false, true, true, true, false, false, false, false]) rfl rfl (by kernel_rfl) rfl (q_int rfl rfl ?_)
            intro n36 hn36
            replace hn36 := in64 hn36 (by omega) (by omega)
            refine tn_step [6, 13] (by kernel_rfl) rfl ?_
            refine ⟨?_, ?_, trivial⟩
            · refine tn_q (listed' := #[true, true, true, true, true, true, true, false, true, true, true, false, false, false, false]) rfl rfl rfl (q_loadE tA2 rfl rfl (by exact map_get hl) rfl ?_)
              refine tn_first_q (i := 7) (listed' := #[true, true, true, true, true, true, true, true, true, true, true, false, false, false, false]) rfl rfl (by kernel_rfl) rfl (q_int rfl rfl ?_)
              intro n37 hn37
              replace hn37 := in64 hn37 (by omega) (by omega)
              refine tn_first_q (i := 11) (listed' := #[true, true, true, true, true, true, true, true, true, true, true, true, false, false, false]) rfl rfl (by kernel_rfl) rfl (q_int rfl rfl ?_)
              intro n38 hn38
              replace hn38 := in64 hn38 (by omega) (by omega)
              refine tn_step [12, 13] (by kernel_rfl) rfl ?_
              refine ⟨?_, ?_, trivial⟩
              · refine tn_k (listed' := #[true, true, true, true, true, true, true, true, true, true, true, true, true, false, false]) rfl rfl rfl rfl (k_build zA86 pl86 (rfl) ?_)
                refine tn_step [13] (by kernel_rfl) rfl ?_
                refine ⟨?_, trivial⟩
                · refine tn_k (listed' := #[true, true, true, true, true, true, true, true, true, true, true, true, true, true, false]) rfl rfl rfl rfl (k_alloc zA86 rfl ?_)
                  refine tn_step [14] (by kernel_rfl) rfl ?_
                  refine ⟨?_, trivial⟩
                  · refine tn_k (listed' := #[true, true, true, true, true, true, true, true, true, true, true, true, true, true, true]) rfl rfl rfl rfl (k_store sz86 rfl (by conv => lhs; whnf) rfl rfl rfl (Nat.le_of_ble_eq_true rfl) rfl ?_)
                    refine tn_end (by kernel_rfl) (hK13 _ ?_); clear hK13
                    refine good_seq fun K39 hK39 => ?_
                    refine good_region rfl ?_
                    refine ev_q rfl (q_move (by conv => lhs; whnf) ?_)
                    refine ev_k rfl (k_callR [(1000000, 1000000)] (D_spec_l00Src_pick cs _ _ _ hc hb (by omega) (by omega)) rfl (rfl) (rfl) ⟨rfl, trivial⟩ rfl (by rintro ⟨v40, a40, s40⟩ ⟨hx40_0, hx40_1⟩; exact ⟨⟨rfl, rfl, trivial⟩, rfl⟩) rfl rfl ?_)
                    rintro ⟨v40, a40, s40⟩ ⟨hx40_0, hx40_1⟩
                    refine ev_q rfl (q_int rfl rfl ?_)
                    intro n41 hn41
                    replace hn41 := in64 hn41 (by omega) (by omega)
                    refine ev_q rfl (q_fieldAddrP fO86_1 rfl rfl ?_)
                    refine ev_k rfl (k_store sz2 rfl (by conv => lhs; whnf) rfl rfl rfl (Nat.le_of_ble_eq_true rfl) rfl ?_)
                    refine ev_nil (hK39 _ ?_); clear hK39
                    refine good_region rfl ?_
                    refine ev_q rfl (q_move (by conv => lhs; whnf) ?_)
                    refine ev_q rfl (q_loadA tA86 rfl rfl rfl ?_)
                    refine ev_k rfl (k_lit tE44 zA86 rfl rfl (by decide) (by decide) rfl rfl rfl ?_)
                    refine ev_k rfl (k_app tApp44 rfl rfl (by simp) rfl (.inr rfl) (by simp [maxLen]; omega) (by simp; omega) ?_)
                    refine ev_q rfl (q_assign (by conv => lhs; whnf) ?_)
                    refine ev_nil (hK12 _ ?_); clear hK12
                    refine good_region rfl ?_
                    refine ev_q rfl (q_move (by conv => lhs; whnf) ?_)
                    refine ev_q rfl (q_int rfl rfl ?_)
                    intro n42 hn42
                    replace hn42 := in64 hn42 (by omega) (by omega)
                    refine ev_q rfl (q_assign (by conv => lhs; whnf) ?_)
                    refine ev_nil ?_
                    clear hK5
                    refine ⟨(u ++ [(n38, n41)], k - 1, a40, s40), ?_, ?_, ?_⟩
                    · exact ⟨⟨wvD_s hI.1 hl2 (by omega) (by omega), by simp; omega, by simp; omega⟩, by simp; omega⟩
                    · first | omega | (dsimp only; omega)
                    · refine sub_weak ?_ ?_
                      · exact weakH_row (rowEq (by rw [List.map_append]; rfl)) (weakH_box (boxEq (rfl)) rfl (weakH_none _))
                      · refine weakE_upd ?e4 ?r4 (weakE_upd ?e3 ?r3 (weakE_upd ?e0 ?r0 (weakE_junk _ _)))
                        case e0 => first | rfl | exact fI (by omega) | (simp_all)
                        case r0 => intro h hh; simp [refs] at hh; subst hh; rfl
                        case e3 => first | rfl | exact fI (by omega) | (first | rfl | exact ownEq (by simp))
                        case r3 => intro h hh; simp [refs] at hh; subst hh; rfl
                        case e4 => first | rfl | exact fI (by omega) | (simp_all)
                        case r4 => intro h hh; cases hh
              · refine tn_k (listed' := #[true, true, true, true, true, true, true, true, true, true, true, true, false, true, false]) rfl rfl rfl rfl (k_alloc zA86 rfl ?_)
                refine tn_step [12] (by kernel_rfl) rfl ?_
                refine ⟨?_, trivial⟩
                · refine tn_k (listed' := #[true, true, true, true, true, true, true, true, true, true, true, true, true, true, false]) rfl rfl rfl rfl (k_build zA86 pl86 (rfl) ?_)
                  refine tn_step [14] (by kernel_rfl) rfl ?_
                  refine ⟨?_, trivial⟩
                  · refine tn_k (listed' := #[true, true, true, true, true, true, true, true, true, true, true, true, true, true, true]) rfl rfl rfl rfl (k_store sz86 rfl (by conv => lhs; whnf) rfl rfl rfl (Nat.le_of_ble_eq_true rfl) rfl ?_)
                    refine tn_end (by kernel_rfl) (hK13 _ ?_); clear hK13
                    refine good_seq fun K43 hK43 => ?_
                    refine good_region rfl ?_
                    refine ev_q rfl (q_move (by conv => lhs; whnf) ?_)
                    refine ev_k rfl (k_callR [(1000000, 1000000)] (D_spec_l00Src_pick cs _ _ _ hc hb (by omega) (by omega)) rfl (rfl) (rfl) ⟨rfl, trivial⟩ rfl (by rintro ⟨v44, a44, s44⟩ ⟨hx44_0, hx44_1⟩; exact ⟨⟨rfl, rfl, trivial⟩, rfl⟩) rfl rfl ?_)
                    rintro ⟨v44, a44, s44⟩ ⟨hx44_0, hx44_1⟩
                    refine ev_q rfl (q_int rfl rfl ?_)
                    intro n45 hn45
                    replace hn45 := in64 hn45 (by omega) (by omega)
                    refine ev_q rfl (q_fieldAddrP fO86_1 rfl rfl ?_)
                    refine ev_k rfl (k_store sz2 rfl (by conv => lhs; whnf) rfl rfl rfl (Nat.le_of_ble_eq_true rfl) rfl ?_)
                    refine ev_nil (hK43 _ ?_); clear hK43
                    refine good_region rfl ?_
                    refine ev_q rfl (q_move (by conv => lhs; whnf) ?_)
                    refine ev_q rfl (q_loadA tA86 rfl rfl rfl ?_)
                    refine ev_k rfl (k_lit tE44 zA86 rfl rfl (by decide) (by decide) rfl rfl rfl ?_)
                    refine ev_k rfl (k_app tApp44 rfl rfl (by simp) rfl (.inr rfl) (by simp [maxLen]; omega) (by simp; omega) ?_)
                    refine ev_q rfl (q_assign (by conv => lhs; whnf) ?_)
                    refine ev_nil (hK12 _ ?_); clear hK12
                    refine good_region rfl ?_
                    refine ev_q rfl (q_move (by conv => lhs; whnf) ?_)
                    refine ev_q rfl (q_int rfl rfl ?_)
                    intro n46 hn46
                    replace hn46 := in64 hn46 (by omega) (by omega)
                    refine ev_q rfl (q_assign (by conv => lhs; whnf) ?_)
                    refine ev_nil ?_
                    clear hK5
                    refine ⟨(u ++ [(n38, n45)], k - 1, a44, s44), ?_, ?_, ?_⟩
                    · exact ⟨⟨wvD_s hI.1 hl2 (by omega) (by omega), by simp; omega, by simp; omega⟩, by simp; omega⟩
                    · first | omega | (dsimp only; omega)
                    · refine sub_weak ?_ ?_
                      · exact weakH_row (rowEq (by rw [List.map_append]; rfl)) (weakH_box (boxEq (rfl)) rfl (weakH_none _))
                      · refine weakE_upd ?e4 ?r4 (weakE_upd ?e3 ?r3 (weakE_upd ?e0 ?r0 (weakE_junk _ _)))
                        case e0 => first | rfl | exact fI (by omega) | (simp_all)
                        case r0 => intro h hh; simp [refs] at hh; subst hh; rfl
                        case e3 => first | rfl | exact fI (by omega) | (first | rfl | exact ownEq (by simp))
                        case r3 => intro h hh; simp [refs] at hh; subst hh; rfl
                        case e4 => first | rfl | exact fI (by omega) | (simp_all)
                        case r4 => intro h hh; cases hh
            · refine tn_k (listed' := #[true, true, true, true, true, true, false, false, true, true, true, false, false, true, false]) rfl rfl rfl rfl (k_alloc zA86 rfl ?_)
              refine tn_first_q (i := 6) (listed' := #[true, true, true, true, true, true, true, false, true, true, true, false, false, true, false]) rfl rfl (by kernel_rfl) rfl (q_loadE tA2 rfl rfl (by exact map_get hl) rfl ?_)
              refine tn_first_q (i := 7) (listed' := #[true, true, true, true, true, true, true, true, true, true, true, false, false, true, false]) rfl rfl (by kernel_rfl) rfl (q_int rfl rfl ?_)
              intro n47 hn47
              replace hn47 := in64 hn47 (by omega) (by omega)
              refine tn_first_q (i := 11) (listed' := #[true, true, true, true, true, true, true, true, true, true, true, true, false, true, false]) rfl rfl (by kernel_rfl) rfl (q_int rfl rfl ?_)
              intro n48 hn48
              replace hn48 := in64 hn48 (by omega) (by omega)
              refine tn_step [12] (by kernel_rfl) rfl ?_
              refine ⟨?_, trivial⟩
              · refine tn_k (listed' := #[true, true, true, true, true, true, true, true, true, true, true, true, true, true, false]) rfl rfl rfl rfl (k_build zA86 pl86 (rfl) ?_)
                refine tn_step [14] (by kernel_rfl) rfl ?_
                refine ⟨?_, trivial⟩
                · refine tn_k (listed' := #[true, true, true, true, true, true, true, true, true, true, true, true, true, true, true]) rfl rfl rfl rfl (k_store sz86 rfl (by conv => lhs; whnf) rfl rfl rfl (Nat.le_of_ble_eq_true rfl) rfl ?_)
                  refine tn_end (by kernel_rfl) (hK13 _ ?_); clear hK13
                  refine good_seq fun K49 hK49 => ?_
                  refine good_region rfl ?_
                  refine ev_q rfl (q_move (by conv => lhs; whnf) ?_)
                  refine ev_k rfl (k_callR [(1000000, 1000000)] (D_spec_l00Src_pick cs _ _ _ hc hb (by omega) (by omega)) rfl (rfl) (rfl) ⟨rfl, trivial⟩ rfl (by rintro ⟨v50, a50, s50⟩ ⟨hx50_0, hx50_1⟩; exact ⟨⟨rfl, rfl, trivial⟩, rfl⟩) rfl rfl ?_)
                  rintro ⟨v50, a50, s50⟩ ⟨hx50_0, hx50_1⟩
                  refine ev_q rfl (q_int rfl rfl ?_)
                  intro n51 hn51
                  replace hn51 := in64 hn51 (by omega) (by omega)
                  refine ev_q rfl (q_fieldAddrP fO86_1 rfl rfl ?_)
                  refine ev_k rfl (k_store sz2 rfl (by conv => lhs; whnf) rfl rfl rfl (Nat.le_of_ble_eq_true rfl) rfl ?_)
                  refine ev_nil (hK49 _ ?_); clear hK49
                  refine good_region rfl ?_
                  refine ev_q rfl (q_move (by conv => lhs; whnf) ?_)
                  refine ev_q rfl (q_loadA tA86 rfl rfl rfl ?_)
                  refine ev_k rfl (k_lit tE44 zA86 rfl rfl (by decide) (by decide) rfl rfl rfl ?_)
                  refine ev_k rfl (k_app tApp44 rfl rfl (by simp) rfl (.inr rfl) (by simp [maxLen]; omega) (by simp; omega) ?_)
                  refine ev_q rfl (q_assign (by conv => lhs; whnf) ?_)
                  refine ev_nil (hK12 _ ?_); clear hK12
                  refine good_region rfl ?_
                  refine ev_q rfl (q_move (by conv => lhs; whnf) ?_)
                  refine ev_q rfl (q_int rfl rfl ?_)
                  intro n52 hn52
                  replace hn52 := in64 hn52 (by omega) (by omega)
                  refine ev_q rfl (q_assign (by conv => lhs; whnf) ?_)
                  refine ev_nil ?_
                  clear hK5
                  refine ⟨(u ++ [(n48, n51)], k - 1, a50, s50), ?_, ?_, ?_⟩
                  · exact ⟨⟨wvD_s hI.1 hl2 (by omega) (by omega), by simp; omega, by simp; omega⟩, by simp; omega⟩
                  · first | omega | (dsimp only; omega)
                  · refine sub_weak ?_ ?_
                    · exact weakH_row (rowEq (by rw [List.map_append]; rfl)) (weakH_box (boxEq (rfl)) rfl (weakH_none _))
                    · refine weakE_upd ?e4 ?r4 (weakE_upd ?e3 ?r3 (weakE_upd ?e0 ?r0 (weakE_junk _ _)))
                      case e0 => first | rfl | exact fI (by omega) | (simp_all)
                      case r0 => intro h hh; simp [refs] at hh; subst hh; rfl
                      case e3 => first | rfl | exact fI (by omega) | (first | rfl | exact ownEq (by simp))
                      case r3 => intro h hh; simp [refs] at hh; subst hh; rfl
                      case e4 => first | rfl | exact fI (by omega) | (simp_all)
                      case r4 => intro h hh; cases hh
          · refine tn_k (listed' := #[true, true, true, true, true, true, false, false, true, false, false, false, false, true, false]) rfl rfl rfl rfl (k_alloc zA86 rfl ?_)
            refine tn_step [6, 9] (by kernel_rfl) rfl ?_
            refine ⟨?_, ?_, trivial⟩
            · refine tn_q (listed' := #[true, true, true, true, true, true, true, false, true, false, false, false, false, true, false]) rfl rfl rfl (q_loadE tA2 rfl rfl (by exact map_get hl) rfl ?_)
              refine tn_first_q (i := 7) (listed' := #[true, true, true, true, true, true, true, true, true, false, false, false, false, true, false]) rfl rfl (by kernel_rfl) rfl (q_int rfl rfl ?_)
              intro n53 hn53
              replace hn53 := in64 hn53 (by omega) (by omega)
              refine tn_step [9] (by kernel_rfl) rfl ?_
              refine ⟨?_, trivial⟩
              · refine tn_k (listed' := #[true, true, true, true, true, true, true, true, true, true, false, false, false, true, false]) rfl rfl rfl rfl (k_callR [(1000000, 1000000)] (D_spec_l00Src_pick cs _ _ _ hc hb (by omega) (by omega)) rfl (rfl) (rfl) ⟨rfl, trivial⟩ rfl (by rintro ⟨v54, a54, s54⟩ ⟨hx54_0, hx54_1⟩; exact ⟨⟨rfl, rfl, trivial⟩, rfl⟩) rfl rfl ?_)
                rintro ⟨v54, a54, s54⟩ ⟨hx54_0, hx54_1⟩
                refine tn_first_q (i := 10) (listed' := #[true, true, true, true, true, true, true, true, true, true, true, false, false, true, false]) rfl rfl (by kernel_rfl) rfl (q_int rfl rfl ?_)
                intro n55 hn55
                replace hn55 := in64 hn55 (by omega) (by omega)
                refine tn_first_q (i := 11) (listed' := #[true, true, true, true, true, true, true, true, true, true, true, true, false, true, false]) rfl rfl (by kernel_rfl) rfl (q_int rfl rfl ?_)
                intro n56 hn56
                replace hn56 := in64 hn56 (by omega) (by omega)
                refine tn_step [12] (by kernel_rfl) rfl ?_
                refine ⟨?_, trivial⟩
                · refine tn_k (listed' := #[true, true, true, true, true, true, true, true, true, true, true, true, true, true, false]) rfl rfl rfl rfl (k_build zA86 pl86 (rfl) ?_)
                  refine tn_step [14] (by kernel_rfl) rfl ?_
                  refine ⟨?_, trivial⟩
                  · refine tn_k (listed' := #[true, true, true, true, true, true, true, true, true, true, true, true, true, true, true]) rfl rfl rfl rfl (k_store sz86 rfl (by conv => lhs; whnf) rfl rfl rfl (Nat.le_of_ble_eq_true rfl) rfl ?_)
                    refine tn_end (by kernel_rfl) (hK13 _ ?_); clear hK13
                    refine good_seq fun K57 hK57 => ?_
                    refine good_region rfl ?_
                    refine ev_q rfl (q_move (by conv => lhs; whnf) ?_)
                    refine ev_k rfl (k_callR [(1000000, 1000000)] (D_spec_l00Src_pick cs _ _ _ hc hb (by omega) (by omega)) rfl (rfl) (rfl) ⟨rfl, trivial⟩ rfl (by rintro ⟨v58, a58, s58⟩ ⟨hx58_0, hx58_1⟩; exact ⟨⟨rfl, rfl, trivial⟩, rfl⟩) rfl rfl ?_)
                    rintro ⟨v58, a58, s58⟩ ⟨hx58_0, hx58_1⟩
                    refine ev_q rfl (q_int rfl rfl ?_)
                    intro n59 hn59
                    replace hn59 := in64 hn59 (by omega) (by omega)
                    refine ev_q rfl (q_fieldAddrP fO86_1 rfl rfl ?_)
                    refine ev_k rfl (k_store sz2 rfl (by conv => lhs; whnf) rfl rfl rfl (Nat.le_of_ble_eq_true rfl) rfl ?_)
                    refine ev_nil (hK57 _ ?_); clear hK57
                    refine good_region rfl ?_
                    refine ev_q rfl (q_move (by conv => lhs; whnf) ?_)
                    refine ev_q rfl (q_loadA tA86 rfl rfl rfl ?_)
                    refine ev_k rfl (k_lit tE44 zA86 rfl rfl (by decide) (by decide) rfl rfl rfl ?_)
                    refine ev_k rfl (k_app tApp44 rfl rfl (by simp) rfl (.inr rfl) (by simp [maxLen]; omega) (by simp; omega) ?_)
                    refine ev_q rfl (q_assign (by conv => lhs; whnf) ?_)
                    refine ev_nil (hK12 _ ?_); clear hK12
                    refine good_region rfl ?_
                    refine ev_q rfl (q_move (by conv => lhs; whnf) ?_)
                    refine ev_q rfl (q_int rfl rfl ?_)
                    intro n60 hn60
                    replace hn60 := in64 hn60 (by omega) (by omega)
                    refine ev_q rfl (q_assign (by conv => lhs; whnf) ?_)
                    refine ev_nil ?_
                    clear hK5
                    refine ⟨(u ++ [(n56, n59)], k - 1, a58, s58), ?_, ?_, ?_⟩
                    · exact ⟨⟨wvD_s hI.1 hl2 (by omega) (by omega), by simp; omega, by simp; omega⟩, by simp; omega⟩
                    · first | omega | (dsimp only; omega)
                    · refine sub_weak ?_ ?_
                      · exact weakH_row (rowEq (by rw [List.map_append]; rfl)) (weakH_box (boxEq (rfl)) rfl (weakH_none _))
                      · refine weakE_upd ?e4 ?r4 (weakE_upd ?e3 ?r3 (weakE_upd ?e0 ?r0 (weakE_junk _ _)))
                        case e0 => first | rfl | exact fI (by omega) | (simp_all)
                        case r0 => intro h hh; simp [refs] at hh; subst hh; rfl
                        case e3 => first | rfl | exact fI (by omega) | (first | rfl | exact ownEq (by simp))
                        case r3 => intro h hh; simp [refs] at hh; subst hh; rfl
                        case e4 => first | rfl | exact fI (by omega) | (simp_all)
                        case r4 => intro h hh; cases hh
            · refine tn_k (listed' := #[true, true, true, true, true, true, false, false, true, true, false, false, false, true, false]) rfl rfl rfl rfl (k_callR [(1000000, 1000000)] (D_spec_l00Src_pick cs _ _ _ hc hb (by omega) (by omega)) rfl (rfl) (rfl) ⟨rfl, trivial⟩ rfl (by rintro ⟨v61, a61, s61⟩ ⟨hx61_0, hx61_1⟩; exact ⟨⟨rfl, rfl, trivial⟩, rfl⟩) rfl rfl ?_)
              rintro ⟨v61, a61, s61⟩ ⟨hx61_0, hx61_1⟩
              refine tn_first_q (i := 6) (listed' := #[true, true, true, true, true, true, true, false, true, true, false, false, false, true, false]) rfl rfl (by kernel_rfl) rfl (q_loadE tA2 rfl rfl (by exact map_get hl) rfl ?_)
              refine tn_first_q (i := 7) (listed' := #[true, true, true, true, true, true, true, true, true, true, false, false, false, true, false]) rfl rfl (by kernel_rfl) rfl (q_int rfl rfl ?_)
              intro n62 hn62
              replace hn62 := in64 hn62 (by omega) (by omega)
              refine tn_first_q (i := 10) (listed' := #[true, true, true, true, true, true, true, true, true, true, true, false, false, true, false]) rfl rfl (by kernel_rfl) rfl (q_int rfl rfl ?_)
              intro n63 hn63
              replace hn63 := in64 hn63 (by omega) (by omega)
              refine tn_first_q (i := 11) (listed' := #[true, true, true, true, true, true, true, true, true, true, true, true, false, true, false]) rfl rfl (by kernel_rfl) rfl (q_int rfl rfl ?_)
              intro n64 hn64
              replace hn64 := in64 hn64 (by omega) (by omega)
              refine tn_step [12] (by kernel_rfl) rfl ?_
              refine ⟨?_, trivial⟩
              · refine tn_k (listed' := #[true, true, true, true, true, true, true, true, true, true, true, true, true, true, false]) rfl rfl rfl rfl (k_build zA86 pl86 (rfl) ?_)
                refine tn_step [14] (by kernel_rfl) rfl ?_
                refine ⟨?_, trivial⟩
                · refine tn_k (listed' := #[true, true, true, true, true, true, true, true, true, true, true, true, true, true, true]) rfl rfl rfl rfl (k_store sz86 rfl (by conv => lhs; whnf) rfl rfl rfl (Nat.le_of_ble_eq_true rfl) rfl ?_)
                  refine tn_end (by kernel_rfl) (hK13 _ ?_); clear hK13
                  refine good_seq fun K65 hK65 => ?_
                  refine good_region rfl ?_
                  refine ev_q rfl (q_move (by conv => lhs; whnf) ?_)
                  refine ev_k rfl (k_callR [(1000000, 1000000)] (D_spec_l00Src_pick cs _ _ _ hc hb (by omega) (by omega)) rfl (rfl) (rfl) ⟨rfl, trivial⟩ rfl (by rintro ⟨v66, a66, s66⟩ ⟨hx66_0, hx66_1⟩; exact ⟨⟨rfl, rfl, trivial⟩, rfl⟩) rfl rfl ?_)
                  rintro ⟨v66, a66, s66⟩ ⟨hx66_0, hx66_1⟩
                  refine ev_q rfl (q_int rfl rfl ?_)
                  intro n67 hn67
                  replace hn67 := in64 hn67 (by omega) (by omega)
                  refine ev_q rfl (q_fieldAddrP fO86_1 rfl rfl ?_)
                  refine ev_k rfl (k_store sz2 rfl (by conv => lhs; whnf) rfl rfl rfl (Nat.le_of_ble_eq_true rfl) rfl ?_)
                  refine ev_nil (hK65 _ ?_); clear hK65
                  refine good_region rfl ?_
                  refine ev_q rfl (q_move (by conv => lhs; whnf) ?_)
                  refine ev_q rfl (q_loadA tA86 rfl rfl rfl ?_)
                  refine ev_k rfl (k_lit tE44 zA86 rfl rfl (by decide) (by decide) rfl rfl rfl ?_)
                  refine ev_k rfl (k_app tApp44 rfl rfl (by simp) rfl (.inr rfl) (by simp [maxLen]; omega) (by simp; omega) ?_)
                  refine ev_q rfl (q_assign (by conv => lhs; whnf) ?_)
                  refine ev_nil (hK12 _ ?_); clear hK12
                  refine good_region rfl ?_
                  refine ev_q rfl (q_move (by conv => lhs; whnf) ?_)
                  refine ev_q rfl (q_int rfl rfl ?_)
                  intro n68 hn68
                  replace hn68 := in64 hn68 (by omega) (by omega)
                  refine ev_q rfl (q_assign (by conv => lhs; whnf) ?_)
                  refine ev_nil ?_
                  clear hK5
                  refine ⟨(u ++ [(n64, n67)], k - 1, a66, s66), ?_, ?_, ?_⟩
                  · exact ⟨⟨wvD_s hI.1 hl2 (by omega) (by omega), by simp; omega, by simp; omega⟩, by simp; omega⟩
                  · first | omega | (dsimp only; omega)
                  · refine sub_weak ?_ ?_
                    · exact weakH_row (rowEq (by rw [List.map_append]; rfl)) (weakH_box (boxEq (rfl)) rfl (weakH_none _))
                    · refine weakE_upd ?e4 ?r4 (weakE_upd ?e3 ?r3 (weakE_upd ?e0 ?r0 (weakE_junk _ _)))
                      case e0 => first | rfl | exact fI (by omega) | (simp_all)
                      case r0 => intro h hh; simp [refs] at hh; subst hh; rfl
                      case e3 => first | rfl | exact fI (by omega) | (first | rfl | exact ownEq (by simp))
                      case r3 => intro h hh; simp [refs] at hh; subst hh; rfl
                      case e4 => first | rfl | exact fI (by omega) | (simp_all)
                      case r4 => intro h hh; cases hh
        · refine tn_k (listed' := #[true, true, true, true, false, false, false, false, true, true, false, false, false, false, false]) rfl rfl rfl rfl (k_callR [(1000000, 1000000)] (D_spec_l00Src_pick cs _ _ _ hc hb (by omega) (by omega)) rfl (rfl) (rfl) ⟨rfl, trivial⟩ rfl (by rintro ⟨v69, a69, s69⟩ ⟨hx69_0, hx69_1⟩; exact ⟨⟨rfl, rfl, trivial⟩, rfl⟩) rfl rfl ?_)
          rintro ⟨v69, a69, s69⟩ ⟨hx69_0, hx69_1⟩
          refine tn_first_q (i := 10) (listed' := #[true, true, true, true, false, false, false, false, true, true, true, false, false, false, false]) rfl rfl (by kernel_rfl) rfl (q_int rfl rfl ?_)
          intro n70 hn70
          replace hn70 := in64 hn70 (by omega) (by omega)
          refine tn_step [4, 13] (by kernel_rfl) rfl ?_
          refine ⟨?_, ?_, trivial⟩
          · have h1u := hI.1.1
            obtain ⟨l, hl⟩ := getL (xs := u) (n := n15) (by omega) (by omega)
            have hl2 : u[u.length - 1]? = some l := by rw [← hl]; congr 1; omega
            have hlb := hI.1.2.1 l (List.mem_of_getElem? hl)
            refine tn_q (listed' := #[true, true, true, true, true, false, false, false, true, true, true, false, false, false, false]) rfl rfl rfl (q_idxO tE44 rfl rfl rfl (by omega) (by omega) rfl ?_)
            refine tn_first_q (i := 5) (listed' := #[true, true, true, true, true, true, false, false, true, true, true, false, false, false, false]) rfl rfl (by kernel_rfl) rfl (q_fieldAddrE fO86_0 rfl rfl ?_)
            refine tn_step [6, 13] (by kernel_rfl) rfl ?_
            refine ⟨?_, ?_, trivial⟩
            · refine tn_q (listed' := #[true, true, true, true, true, true, true, false, true, true, true, false, false, false, false]) rfl rfl rfl (q_loadE tA2 rfl rfl (by exact map_get hl) rfl ?_)
              refine tn_first_q (i := 7) (listed' := #[true, true, true, true, true, true, true, true, true, true, true, false, false, false, false]) rfl rfl (by kernel_rfl) rfl (q_int rfl rfl ?_)
              intro n71 hn71
              replace hn71 := in64 hn71 (by omega) (by omega)
              refine tn_first_q (i := 11) (listed' := #[true, true, true, true, true, true, true, true, true, true, true, true, false, false, false]) rfl rfl (by kernel_rfl) rfl (q_int rfl rfl ?_)
              intro n72 hn72
              replace hn72 := in64 hn72 (by omega) (by omega)
              refine tn_step [12, 13] (by kernel_rfl) rfl ?_
              refine ⟨?_, ?_, trivial⟩
              · refine tn_k (listed' := #[true, true, true, true, true, true, true, true, true, true, true, true, true, false, false]) rfl rfl rfl rfl (k_build zA86 pl86 (rfl) ?_)
                refine tn_step [13] (by kernel_rfl) rfl ?_
                refine ⟨?_, trivial⟩
                · refine tn_k (listed' := #[true, true, true, true, true, true, true, true, true, true, true, true, true, true, false]) rfl rfl rfl rfl (k_alloc zA86 rfl ?_)
                  refine tn_step [14] (by kernel_rfl) rfl ?_
                  refine ⟨?_, trivial⟩
                  · refine tn_k (listed' := #[true, true, true, true, true, true, true, true, true, true, true, true, true, true, true]) rfl rfl rfl rfl (k_store sz86 rfl (by conv => lhs; whnf) rfl rfl rfl (Nat.le_of_ble_eq_true rfl) rfl ?_)
                    refine tn_end (by kernel_rfl) (hK13 _ ?_); clear hK13
                    refine good_seq fun K73 hK73 => ?_
                    refine good_region rfl ?_
                    refine ev_q rfl (q_move (by conv => lhs; whnf) ?_)
                    refine ev_k rfl (k_callR [(1000000, 1000000)] (D_spec_l00Src_pick cs _ _ _ hc hb (by omega) (by omega)) rfl (rfl) (rfl) ⟨rfl, trivial⟩ rfl (by rintro ⟨v74, a74, s74⟩ ⟨hx74_0, hx74_1⟩; exact ⟨⟨rfl, rfl, trivial⟩, rfl⟩) rfl rfl ?_)
                    rintro ⟨v74, a74, s74⟩ ⟨hx74_0, hx74_1⟩
                    refine ev_q rfl (q_int rfl rfl ?_)
                    intro n75 hn75
                    replace hn75 := in64 hn75 (by omega) (by omega)
                    refine ev_q rfl (q_fieldAddrP fO86_1 rfl rfl ?_)
                    refine ev_k rfl (k_store sz2 rfl (by conv => lhs; whnf) rfl rfl rfl (Nat.le_of_ble_eq_true rfl) rfl ?_)
                    refine ev_nil (hK73 _ ?_); clear hK73
                    refine good_region rfl ?_
                    refine ev_q rfl (q_move (by conv => lhs; whnf) ?_)
                    refine ev_q rfl (q_loadA tA86 rfl rfl rfl ?_)
                    refine ev_k rfl (k_lit tE44 zA86 rfl rfl (by decide) (by decide) rfl rfl rfl ?_)
                    refine ev_k rfl (k_app tApp44 rfl rfl (by simp) rfl (.inr rfl) (by simp [maxLen]; omega) (by simp; omega) ?_)
                    refine ev_q rfl (q_assign (by conv => lhs; whnf) ?_)
                    refine ev_nil (hK12 _ ?_); clear hK12
                    refine good_region rfl ?_
                    refine ev_q rfl (q_move (by conv => lhs; whnf) ?_)
                    refine ev_q rfl (q_int rfl rfl ?_)
                    intro n76 hn76
                    replace hn76 := in64 hn76 (by omega) (by omega)
                    refine ev_q rfl (q_assign (by conv => lhs; whnf) ?_)
                    refine ev_nil ?_
                    clear hK5
                    refine ⟨(u ++ [(n72, n75)], k - 1, a74, s74), ?_, ?_, ?_⟩
                    · exact ⟨⟨wvD_s hI.1 hl2 (by omega) (by omega), by simp; omega, by simp; omega⟩, by simp; omega⟩
                    · first | omega | (dsimp only; omega)
                    · refine sub_weak ?_ ?_
                      · exact weakH_row (rowEq (by rw [List.map_append]; rfl)) (weakH_box (boxEq (rfl)) rfl (weakH_none _))
                      · refine weakE_upd ?e4 ?r4 (weakE_upd ?e3 ?r3 (weakE_upd ?e0 ?r0 (weakE_junk _ _)))
                        case e0 => first | rfl | exact fI (by omega) | (simp_all)
                        case r0 => intro h hh; simp [refs] at hh; subst hh; rfl
                        case e3 => first | rfl | exact fI (by omega) | (first | rfl | exact ownEq (by simp))
                        case r3 => intro h hh; simp [refs] at hh; subst hh; rfl
                        case e4 => first | rfl | exact fI (by omega) | (simp_all)
                        case r4 => intro h hh; cases hh
              · refine tn_k (listed' := #[true, true, true, true, true, true, true, true, true, true, true, true, false, true, false]) rfl rfl rfl rfl (k_alloc zA86 rfl ?_)
                refine tn_step [12] (by kernel_rfl) rfl ?_
                refine ⟨?_, trivial⟩
                · refine tn_k (listed' := #[true, true, true, true, true, true, true, true, true, true, true, true, true, true, false]) rfl rfl rfl rfl (k_build zA86 pl86 (rfl) ?_)
                  refine tn_step [14] (by kernel_rfl) rfl ?_
                  refine ⟨?_, trivial⟩
                  · refine tn_k (listed' := #[true, true, true, true, true, true, true, true, true, true, true, true, true, true, true]) rfl rfl rfl rfl (k_store sz86 rfl (by conv => lhs; whnf) rfl rfl rfl (Nat.le_of_ble_eq_true rfl) rfl ?_)
                    refine tn_end (by kernel_rfl) (hK13 _ ?_); clear hK13
                    refine good_seq fun K77 hK77 => ?_
                    refine good_region rfl ?_
                    refine ev_q rfl (q_move (by conv => lhs; whnf) ?_)
                    refine ev_k rfl (k_callR [(1000000, 1000000)] (D_spec_l00Src_pick cs _ _ _ hc hb (by omega) (by omega)) rfl (rfl) (rfl) ⟨rfl, trivial⟩ rfl (by rintro ⟨v78, a78, s78⟩ ⟨hx78_0, hx78_1⟩; exact ⟨⟨rfl, rfl, trivial⟩, rfl⟩) rfl rfl ?_)
                    rintro ⟨v78, a78, s78⟩ ⟨hx78_0, hx78_1⟩
                    refine ev_q rfl (q_int rfl rfl ?_)
                    intro n79 hn79
                    replace hn79 := in64 hn79 (by omega) (by omega)
                    refine ev_q rfl (q_fieldAddrP fO86_1 rfl rfl ?_)
                    refine ev_k rfl (k_store sz2 rfl (by conv => lhs; whnf) rfl rfl rfl (Nat.le_of_ble_eq_true rfl) rfl ?_)
                    refine ev_nil (hK77 _ ?_); clear hK77
                    refine good_region rfl ?_
                    refine ev_q rfl (q_move (by conv => lhs; whnf) ?_)
                    refine ev_q rfl (q_loadA tA86 rfl rfl rfl ?_)
                    refine ev_k rfl (k_lit tE44 zA86 rfl rfl (by decide) (by decide) rfl rfl rfl ?_)
                    refine ev_k rfl (k_app tApp44 rfl rfl (by simp) rfl (.inr rfl) (by simp [maxLen]; omega) (by simp; omega) ?_)
                    refine ev_q rfl (q_assign (by conv => lhs; whnf) ?_)
                    refine ev_nil (hK12 _ ?_); clear hK12
                    refine good_region rfl ?_
                    refine ev_q rfl (q_move (by conv => lhs; whnf) ?_)
                    refine ev_q rfl (q_int rfl rfl ?_)
                    intro n80 hn80
                    replace hn80 := in64 hn80 (by omega) (by omega)
                    refine ev_q rfl (q_assign (by conv => lhs; whnf) ?_)
                    refine ev_nil ?_
                    clear hK5
                    refine ⟨(u ++ [(n72, n79)], k - 1, a78, s78), ?_, ?_, ?_⟩
                    · exact ⟨⟨wvD_s hI.1 hl2 (by omega) (by omega), by simp; omega, by simp; omega⟩, by simp; omega⟩
                    · first | omega | (dsimp only; omega)
                    · refine sub_weak ?_ ?_
                      · exact weakH_row (rowEq (by rw [List.map_append]; rfl)) (weakH_box (boxEq (rfl)) rfl (weakH_none _))
                      · refine weakE_upd ?e4 ?r4 (weakE_upd ?e3 ?r3 (weakE_upd ?e0 ?r0 (weakE_junk _ _)))
                        case e0 => first | rfl | exact fI (by omega) | (simp_all)
                        case r0 => intro h hh; simp [refs] at hh; subst hh; rfl
                        case e3 => first | rfl | exact fI (by omega) | (first | rfl | exact ownEq (by simp))
                        case r3 => intro h hh; simp [refs] at hh; subst hh; rfl
                        case e4 => first | rfl | exact fI (by omega) | (simp_all)
                        case r4 => intro h hh; cases hh
            · refine tn_k (listed' := #[true, true, true, true, true, true, false, false, true, true, true, false, false, true, false]) rfl rfl rfl rfl (k_alloc zA86 rfl ?_)
              refine tn_first_q (i := 6) (listed' := #[true, true, true, true, true, true, true, false, true, true, true, false, false, true, false]) rfl rfl (by kernel_rfl) rfl (q_loadE tA2 rfl rfl (by exact map_get hl) rfl ?_)
              refine tn_first_q (i := 7) (listed' := #[true, true, true, true, true, true, true, true, true, true, true, false, false, true, false]) rfl rfl (by kernel_rfl) rfl (q_int rfl rfl ?_)
              intro n81 hn81
              replace hn81 := in64 hn81 (by omega) (by omega)
              refine tn_first_q (i := 11) (listed' := #[true, true, true, true, true, true, true, true, true, true, true, true, false, true, false]) rfl rfl (by kernel_rfl) rfl (q_int rfl rfl ?_)
              intro n82 hn82
              replace hn82 := in64 hn82 (by omega) (by omega)
              refine tn_step [12] (by kernel_rfl) rfl ?_
              refine ⟨?_, trivial⟩
              · refine tn_k (listed' := #[true, true, true, true, true, true, true, true, true, true, true, true, true, true, false]) rfl rfl rfl rfl (k_build zA86 pl86 (rfl) ?_)
                refine tn_step [14] (by kernel_rfl) rfl ?_
                refine ⟨?_, trivial⟩
                · refine tn_k (listed' := #[true, true, true, true, true, true, true, true, true, true, true, true, true, true, true]) rfl rfl rfl rfl (k_store sz86 rfl (by conv => lhs; whnf) rfl rfl rfl (Nat.le_of_ble_eq_true rfl) rfl ?_)
                  refine tn_end (by kernel_rfl) (hK13 _ ?_); clear hK13
                  refine good_seq fun K83 hK83 => ?_
                  refine good_region rfl ?_
                  refine ev_q rfl (q_move (by conv => lhs; whnf) ?_)
                  refine ev_k rfl (k_callR [(1000000, 1000000)] (D_spec_l00Src_pick cs _ _ _ hc hb (by omega) (by omega)) rfl (rfl) (rfl) ⟨rfl, trivial⟩ rfl (by rintro ⟨v84, a84, s84⟩ ⟨hx84_0, hx84_1⟩; exact ⟨⟨rfl, rfl, trivial⟩, rfl⟩) rfl rfl ?_)
                  rintro ⟨v84, a84, s84⟩ ⟨hx84_0, hx84_1⟩
                  refine ev_q rfl (q_int rfl rfl ?_)
                  intro n85 hn85
                  replace hn85 := in64 hn85 (by omega) (by omega)
                  refine ev_q rfl (q_fieldAddrP fO86_1 rfl rfl ?_)
                  refine ev_k rfl (k_store sz2 rfl (by conv => lhs; whnf) rfl rfl rfl (Nat.le_of_ble_eq_true rfl) rfl ?_)
                  refine ev_nil (hK83 _ ?_); clear hK83
                  refine good_region rfl ?_
                  refine ev_q rfl (q_move (by conv => lhs; whnf) ?_)
                  refine ev_q rfl (q_loadA tA86 rfl rfl rfl ?_)
                  refine ev_k rfl (k_lit tE44 zA86 rfl rfl (by decide) (by decide) rfl rfl rfl ?_)
                  refine ev_k rfl (k_app tApp44 rfl rfl (by simp) rfl (.inr rfl) (by simp [maxLen]; omega) (by simp; omega) ?_)
                  refine ev_q rfl (q_assign (by conv => lhs; whnf) ?_)
                  refine ev_nil (hK12 _ ?_); clear hK12
                  refine good_region rfl ?_
                  refine ev_q rfl (q_move (by conv => lhs; whnf) ?_)
                  refine ev_q rfl (q_int rfl rfl ?_)
                  intro n86 hn86
                  replace hn86 := in64 hn86 (by omega) (by omega)
                  refine ev_q rfl (q_assign (by conv => lhs; whnf) ?_)
                  refine ev_nil ?_
                  clear hK5
                  refine ⟨(u ++ [(n82, n85)], k - 1, a84, s84), ?_, ?_, ?_⟩
                  · exact ⟨⟨wvD_s hI.1 hl2 (by omega) (by omega), by simp; omega, by simp; omega⟩, by simp; omega⟩
                  · first | omega | (dsimp only; omega)
                  · refine sub_weak ?_ ?_
                    · exact weakH_row (rowEq (by rw [List.map_append]; rfl)) (weakH_box (boxEq (rfl)) rfl (weakH_none _))
                    · refine weakE_upd ?e4 ?r4 (weakE_upd ?e3 ?r3 (weakE_upd ?e0 ?r0 (weakE_junk _ _)))
                      case e0 => first | rfl | exact fI (by omega) | (simp_all)
                      case r0 => intro h hh; simp [refs] at hh; subst hh; rfl
                      case e3 => first | rfl | exact fI (by omega) | (first | rfl | exact ownEq (by simp))
                      case r3 => intro h hh; simp [refs] at hh; subst hh; rfl
                      case e4 => first | rfl | exact fI (by omega) | (simp_all)
                      case r4 => intro h hh; cases hh
          · refine tn_k (listed' := #[true, true, true, true, false, false, false, false, true, true, true, false, false, true, false]) rfl rfl rfl rfl (k_alloc zA86 rfl ?_)
            have h1u := hI.1.1
            obtain ⟨l, hl⟩ := getL (xs := u) (n := n15) (by omega) (by omega)
            have hl2 : u[u.length - 1]? = some l := by rw [← hl]; congr 1; omega
            have hlb := hI.1.2.1 l (List.mem_of_getElem? hl)
            refine tn_first_q (i := 4) (listed' := #[true, true, true, true, true, false, false, false, true, true, true, false, false, true, false]) rfl rfl (by kernel_rfl) rfl (q_idxO tE44 rfl rfl rfl (by omega) (by omega) rfl ?_)
            refine tn_first_q (i := 5) (listed' := #[true, true, true, true, true, true, false, false, true, true, true, false, false, true, false]) rfl rfl (by kernel_rfl) rfl (q_fieldAddrE fO86_0 rfl rfl ?_)
            refine tn_first_q (i := 6) (listed' := #[true, true, true, true, true, true, true, false, true, true, true, false, false, true, false]) rfl rfl (by kernel_rfl) rfl (q_loadE tA2 rfl rfl (by exact map_get hl) rfl ?_)
            refine tn_first_q (i := 7) (listed' := #[true, true, true, true, true, true, true, true, true, true, true, false, false, true, false]) rfl rfl (by kernel_rfl) rfl (q_int rfl rfl ?_)
            intro n87 hn87
            replace hn87 := in64 hn87 (by omega) (by omega)
            refine tn_first_q (i := 11) (listed' := #[true, true, true, true, true, true, true, true, true, true, true, true, false, true, false]) rfl rfl (by kernel_rfl) rfl (q_int rfl rfl ?_)
            intro n88 hn88
            replace hn88 := in64 hn88 (by omega) (by omega)
            refine tn_step [12] (by kernel_rfl) rfl ?_
            refine ⟨?_, trivial⟩
            · refine tn_k (listed' := #[true, true, true, true, true, true, true, true, true, true, true, true, true, true, false]) rfl rfl rfl rfl (k_build zA86 pl86 (rfl) ?_)
              refine tn_step [14] (by kernel_rfl) rfl ?_
              refine ⟨?_, trivial⟩
              · refine tn_k (listed' := #[true, true, true, true, true, true, true, true, true, true, true, true, true, true, true]) rfl rfl rfl rfl (k_store sz86 rfl (by conv => lhs; whnf) rfl rfl rfl (Nat.le_of_ble_eq_true rfl) rfl ?_)
                refine tn_end (by kernel_rfl) (hK13 _ ?_); clear hK13
                refine good_seq fun K89 hK89 => ?_
                refine good_region rfl ?_
                refine ev_q rfl (q_move (by conv => lhs; whnf) ?_)
                refine ev_k rfl (k_callR [(1000000, 1000000)] (D_spec_l00Src_pick cs _ _ _ hc hb (by omega) (by omega)) rfl (rfl) (rfl) ⟨rfl, trivial⟩ rfl (by rintro ⟨v90, a90, s90⟩ ⟨hx90_0, hx90_1⟩; exact ⟨⟨rfl, rfl, trivial⟩, rfl⟩) rfl rfl ?_)
                rintro ⟨v90, a90, s90⟩ ⟨hx90_0, hx90_1⟩
                refine ev_q rfl (q_int rfl rfl ?_)
                intro n91 hn91
                replace hn91 := in64 hn91 (by omega) (by omega)
                refine ev_q rfl (q_fieldAddrP fO86_1 rfl rfl ?_)
                refine ev_k rfl (k_store sz2 rfl (by conv => lhs; whnf) rfl rfl rfl (Nat.le_of_ble_eq_true rfl) rfl ?_)
                refine ev_nil (hK89 _ ?_); clear hK89
                refine good_region rfl ?_
                refine ev_q rfl (q_move (by conv => lhs; whnf) ?_)
                refine ev_q rfl (q_loadA tA86 rfl rfl rfl ?_)
                refine ev_k rfl (k_lit tE44 zA86 rfl rfl (by decide) (by decide) rfl rfl rfl ?_)
                refine ev_k rfl (k_app tApp44 rfl rfl (by simp) rfl (.inr rfl) (by simp [maxLen]; omega) (by simp; omega) ?_)
                refine ev_q rfl (q_assign (by conv => lhs; whnf) ?_)
                refine ev_nil (hK12 _ ?_); clear hK12
                refine good_region rfl ?_
                refine ev_q rfl (q_move (by conv => lhs; whnf) ?_)
                refine ev_q rfl (q_int rfl rfl ?_)
                intro n92 hn92
                replace hn92 := in64 hn92 (by omega) (by omega)
                refine ev_q rfl (q_assign (by conv => lhs; whnf) ?_)
                refine ev_nil ?_
                clear hK5
                refine ⟨(u ++ [(n88, n91)], k - 1, a90, s90), ?_, ?_, ?_⟩
                · exact ⟨⟨wvD_s hI.1 hl2 (by omega) (by omega), by simp; omega, by simp; omega⟩, by simp; omega⟩
                · first | omega | (dsimp only; omega)
                · refine sub_weak ?_ ?_
                  · exact weakH_row (rowEq (by rw [List.map_append]; rfl)) (weakH_box (boxEq (rfl)) rfl (weakH_none _))
                  · refine weakE_upd ?e4 ?r4 (weakE_upd ?e3 ?r3 (weakE_upd ?e0 ?r0 (weakE_junk _ _)))
                    case e0 => first | rfl | exact fI (by omega) | (simp_all)
                    case r0 => intro h hh; simp [refs] at hh; subst hh; rfl
                    case e3 => first | rfl | exact fI (by omega) | (first | rfl | exact ownEq (by simp))
                    case r3 => intro h hh; simp [refs] at hh; subst hh; rfl
                    case e4 => first | rfl | exact fI (by omega) | (simp_all)
                    case r4 => intro h hh; cases hh
        · refine tn_k (listed' := #[true, true, true, true, false, false, false, false, true, false, false, false, false, true, false]) rfl rfl rfl rfl (k_alloc zA86 rfl ?_)
          refine tn_step [4, 9] (by kernel_rfl) rfl ?_
          refine ⟨?_, ?_, trivial⟩
          · have h1u := hI.1.1
            obtain ⟨l, hl⟩ := getL (xs := u) (n := n15) (by omega) (by omega)
            have hl2 : u[u.length - 1]? = some l := by rw [← hl]; congr 1; omega
            have hlb := hI.1.2.1 l (List.mem_of_getElem? hl)
            refine tn_q (listed' := #[true, true, true, true, true, false, false, false, true, false, false, false, false, true, false]) rfl rfl rfl (q_idxO tE44 rfl rfl rfl (by omega) (by omega) rfl ?_)
            refine tn_first_q (i := 5) (listed' := #[true, true, true, true, true, true, false, false, true, false, false, false, false, true, false]) rfl rfl (by kernel_rfl) rfl (q_fieldAddrE fO86_0 rfl rfl ?_)
            refine tn_step [6, 9] (by kernel_rfl) rfl ?_
            refine ⟨?_, ?_, trivial⟩
            · refine tn_q (listed' := #[true, true, true, true, true, true, true, false, true, false, false, false, false, true, false]) rfl rfl rfl (q_loadE tA2 rfl rfl (by exact map_get hl) rfl ?_)
              refine tn_first_q (i := 7) (listed' := #[true, true, true, true, true, true, true, true, true, false, false, false, false, true, false]) rfl rfl (by kernel_rfl) rfl (q_int rfl rfl ?_)
              intro n93 hn93
              replace hn93 := in64 hn93 (by omega) (by omega)
              refine tn_step [9] (by kernel_rfl) rfl ?_
              refine ⟨?_, trivial⟩
              · refine tn_k (listed' := #[true, true, true, true, true, true, true, true, true, true, false, false, false, true, false]) rfl rfl rfl rfl (k_callR [(1000000, 1000000)] (D_spec_l00Src_pick cs _ _ _ hc hb (by omega) (by omega)) rfl (rfl) (rfl) ⟨rfl, trivial⟩ rfl (by rintro ⟨v94, a94, s94⟩ ⟨hx94_0, hx94_1⟩; exact ⟨⟨rfl, rfl, trivial⟩, rfl⟩) rfl rfl ?_)
                rintro ⟨v94, a94, s94⟩ ⟨hx94_0, hx94_1⟩
                refine tn_first_q (i := 10) (listed' := #[true, true, true, true, true, true, true, true, true, true, true, false, false, true, false]) rfl rfl (by kernel_rfl) rfl (q_int rfl rfl ?_)
                intro n95 hn95
                replace hn95 := in64 hn95 (by omega) (by omega)
                refine tn_first_q (i := 11) (listed' := #[true, true, true, true, true, true, true, true, true, true, true, true, false, true, false]) rfl rfl (by kernel_rfl) rfl (q_int rfl rfl ?_)
                intro n96 hn96
                replace hn96 := in64 hn96 (by omega) (by omega)
                refine tn_step [12] (by kernel_rfl) rfl ?_
                refine ⟨?_, trivial⟩
                · refine tn_k (listed' := #[true, true, true, true, true, true, true, true, true, true, true, true, true, true, false]) rfl rfl rfl rfl (k_build zA86 pl86 (rfl) ?_)
                  refine tn_step [14] (by kernel_rfl) rfl ?_
                  refine ⟨?_, trivial⟩
                  · refine tn_k (listed' := #[true, true, true, true, true, true, true, true, true, true, true, true, true, true, true]) rfl rfl rfl rfl (k_store sz86 rfl (by conv => lhs; whnf) rfl rfl rfl (Nat.le_of_ble_eq_true rfl) rfl ?_)
                    refine tn_end (by kernel_rfl) (hK13 _ ?_); clear hK13
                    refine good_seq fun K97 hK97 => ?_
                    refine good_region rfl ?_
                    refine ev_q rfl (q_move (by conv => lhs; whnf) ?_)
                    refine ev_k rfl (k_callR [(1000000, 1000000)] (D_spec_l00Src_pick cs _ _ _ hc hb (by omega) (by omega)) rfl (rfl) (rfl) ⟨rfl, trivial⟩ rfl (by rintro ⟨v98, a98, s98⟩ ⟨hx98_0, hx98_1⟩; exact ⟨⟨rfl, rfl, trivial⟩, rfl⟩) rfl rfl ?_)
                    rintro ⟨v98, a98, s98⟩ ⟨hx98_0, hx98_1⟩
                    refine ev_q rfl (q_int rfl rfl ?_)
                    intro n99 hn99
                    replace hn99 := in64 hn99 (by omega) (by omega)
                    refine ev_q rfl (q_fieldAddrP fO86_1 rfl rfl ?_)
                    refine ev_k rfl (k_store sz2 rfl (by conv => lhs; whnf) rfl rfl rfl (Nat.le_of_ble_eq_true rfl) rfl ?_)
                    refine ev_nil (hK97 _ ?_); clear hK97
                    refine good_region rfl ?_
                    refine ev_q rfl (q_move (by conv => lhs; whnf) ?_)
                    refine ev_q rfl (q_loadA tA86 rfl rfl rfl ?_)
                    refine ev_k rfl (k_lit tE44 zA86 rfl rfl (by decide) (by decide) rfl rfl rfl ?_)
                    refine ev_k rfl (k_app tApp44 rfl rfl (by simp) rfl (.inr rfl) (by simp [maxLen]; omega) (by simp; omega) ?_)
                    refine ev_q rfl (q_assign (by conv => lhs; whnf) ?_)
                    refine ev_nil (hK12 _ ?_); clear hK12
                    refine good_region rfl ?_
                    refine ev_q rfl (q_move (by conv => lhs; whnf) ?_)
                    refine ev_q rfl (q_int rfl rfl ?_)
                    intro n100 hn100
                    replace hn100 := in64 hn100 (by omega) (by omega)
                    refine ev_q rfl (q_assign (by conv => lhs; whnf) ?_)
                    refine ev_nil ?_
                    clear hK5
                    refine ⟨(u ++ [(n96, n99)], k - 1, a98, s98), ?_, ?_, ?_⟩
                    · exact ⟨⟨wvD_s hI.1 hl2 (by omega) (by omega), by simp; omega, by simp; omega⟩, by simp; omega⟩
                    · first | omega | (dsimp only; omega)
                    · refine sub_weak ?_ ?_
                      · exact weakH_row (rowEq (by rw [List.map_append]; rfl)) (weakH_box (boxEq (rfl)) rfl (weakH_none _))
                      · refine weakE_upd ?e4 ?r4 (weakE_upd ?e3 ?r3 (weakE_upd ?e0 ?r0 (weakE_junk _ _)))
                        case e0 => first | rfl | exact fI (by omega) | (simp_all)
                        case r0 => intro h hh; simp [refs] at hh; subst hh; rfl
                        case e3 => first | rfl | exact fI (by omega) | (first | rfl | exact ownEq (by simp))
                        case r3 => intro h hh; simp [refs] at hh; subst hh; rfl
                        case e4 => first | rfl | exact fI (by omega) | (simp_all)
                        case r4 => intro h hh; cases hh
            · refine tn_k (listed' := #[true, true, true, true, true, true, false, false, true, true, false, false, false, true, false]) rfl rfl rfl rfl (k_callR [(1000000, 1000000)] (D_spec_l00Src_pick cs _ _ _ hc hb (by omega) (by omega)) rfl (rfl) (rfl) ⟨rfl, trivial⟩ rfl (by rintro ⟨v101, a101, s101⟩ ⟨hx101_0, hx101_1⟩; exact ⟨⟨rfl, rfl, trivial⟩, rfl⟩) rfl rfl ?_)
              rintro ⟨v101, a101, s101⟩ ⟨hx101_0, hx101_1⟩
              refine tn_first_q (i := 6) (listed' := #[true, true, true, true, true, true, true, false, true, true, false, false, false, true, false]) rfl rfl (by kernel_rfl) rfl (q_loadE tA2 rfl rfl (by exact map_get hl) rfl ?_)
              refine tn_first_q (i := 7) (listed' := #[true, true, true, true, true, true, true, true, true, true, false, false, false, true, false]) rfl rfl (by kernel_rfl) rfl (q_int rfl rfl ?_)
              intro n102 hn102
              replace hn102 := in64 hn102 (by omega) (by omega)
              refine tn_first_q (i := 10) (listed' := #[true, true, true, true, true, true, true, true, true, true, true, false, false, true, false]) rfl rfl (by kernel_rfl) rfl (q_int rfl rfl ?_)
              intro n103 hn103
              replace hn103 := in64 hn103 (by omega) (by omega)
              refine tn_first_q (i := 11) (listed' := #[true, true, true, true, true, true, true, true, true, true, true, true, false, true, false]) rfl rfl (by kernel_rfl) rfl (q_int rfl rfl ?_)
              intro n104 hn104
              replace hn104 := in64 hn104 (by omega) (by omega)
              refine tn_step [12] (by kernel_rfl) rfl ?_
              refine ⟨?_, trivial⟩
              · refine tn_k (listed' := #[true, true, true, true, true, true, true, true, true, true, true, true, true, true, false]) rfl rfl rfl rfl (k_build zA86 pl86 (rfl) ?_)
                refine tn_step [14] (by kernel_rfl) rfl ?_
                refine ⟨?_, trivial⟩
                · refine tn_k (listed' := #[true, true, true, true, true, true, true, true, true, true, true, true, true, true, true]) rfl rfl rfl rfl (k_store sz86 rfl (by conv => lhs; whnf) rfl rfl rfl (Nat.le_of_ble_eq_true rfl) rfl ?_)
                  refine tn_end (by kernel_rfl) (hK13 _ ?_); clear hK13
                  refine good_seq fun K105 hK105 => ?_
                  refine good_region rfl ?_
                  refine ev_q rfl (q_move (by conv => lhs; whnf) ?_)
                  refine ev_k rfl (k_callR [(1000000, 1000000)] (D_spec_l00Src_pick cs _ _ _ hc hb (by omega) (by omega)) rfl (rfl) (rfl) ⟨rfl, trivial⟩ rfl (by rintro ⟨v106, a106, s106⟩ ⟨hx106_0, hx106_1⟩; exact ⟨⟨rfl, rfl, trivial⟩, rfl⟩) rfl rfl ?_)
                  rintro ⟨v106, a106, s106⟩ ⟨hx106_0, hx106_1⟩
                  refine ev_q rfl (q_int rfl rfl ?_)
                  intro n107 hn107
                  replace hn107 := in64 hn107 (by omega) (by omega)
                  refine ev_q rfl (q_fieldAddrP fO86_1 rfl rfl ?_)
                  refine ev_k rfl (k_store sz2 rfl (by conv => lhs; whnf) rfl rfl rfl (Nat.le_of_ble_eq_true rfl) rfl ?_)
                  refine ev_nil (hK105 _ ?_); clear hK105
                  refine good_region rfl ?_
                  refine ev_q rfl (q_move (by conv => lhs; whnf) ?_)
                  refine ev_q rfl (q_loadA tA86 rfl rfl rfl ?_)
                  refine ev_k rfl (k_lit tE44 zA86 rfl rfl (by decide) (by decide) rfl rfl rfl ?_)
                  refine ev_k rfl (k_app tApp44 rfl rfl (by simp) rfl (.inr rfl) (by simp [maxLen]; omega) (by simp; omega) ?_)
                  refine ev_q rfl (q_assign (by conv => lhs; whnf) ?_)
                  refine ev_nil (hK12 _ ?_); clear hK12
                  refine good_region rfl ?_
                  refine ev_q rfl (q_move (by conv => lhs; whnf) ?_)
                  refine ev_q rfl (q_int rfl rfl ?_)
                  intro n108 hn108
                  replace hn108 := in64 hn108 (by omega) (by omega)
                  refine ev_q rfl (q_assign (by conv => lhs; whnf) ?_)
                  refine ev_nil ?_
                  clear hK5
                  refine ⟨(u ++ [(n104, n107)], k - 1, a106, s106), ?_, ?_, ?_⟩
                  · exact ⟨⟨wvD_s hI.1 hl2 (by omega) (by omega), by simp; omega, by simp; omega⟩, by simp; omega⟩
                  · first | omega | (dsimp only; omega)
                  · refine sub_weak ?_ ?_
                    · exact weakH_row (rowEq (by rw [List.map_append]; rfl)) (weakH_box (boxEq (rfl)) rfl (weakH_none _))
                    · refine weakE_upd ?e4 ?r4 (weakE_upd ?e3 ?r3 (weakE_upd ?e0 ?r0 (weakE_junk _ _)))
                      case e0 => first | rfl | exact fI (by omega) | (simp_all)
                      case r0 => intro h hh; simp [refs] at hh; subst hh; rfl
                      case e3 => first | rfl | exact fI (by omega) | (first | rfl | exact ownEq (by simp))
                      case r3 => intro h hh; simp [refs] at hh; subst hh; rfl
                      case e4 => first | rfl | exact fI (by omega) | (simp_all)
                      case r4 => intro h hh; cases hh
          · refine tn_k (listed' := #[true, true, true, true, false, false, false, false, true, true, false, false, false, true, false]) rfl rfl rfl rfl (k_callR [(1000000, 1000000)] (D_spec_l00Src_pick cs _ _ _ hc hb (by omega) (by omega)) rfl (rfl) (rfl) ⟨rfl, trivial⟩ rfl (by rintro ⟨v109, a109, s109⟩ ⟨hx109_0, hx109_1⟩; exact ⟨⟨rfl, rfl, trivial⟩, rfl⟩) rfl rfl ?_)
            rintro ⟨v109, a109, s109⟩ ⟨hx109_0, hx109_1⟩
            have h1u := hI.1.1
            obtain ⟨l, hl⟩ := getL (xs := u) (n := n15) (by omega) (by omega)
            have hl2 : u[u.length - 1]? = some l := by rw [← hl]; congr 1; omega
            have hlb := hI.1.2.1 l (List.mem_of_getElem? hl)
            refine tn_first_q (i := 4) (listed' := #[true, true, true, true, true, false, false, false, true, true, false, false, false, true, false]) rfl rfl (by kernel_rfl) rfl (q_idxO tE44 rfl rfl rfl (by omega) (by omega) rfl ?_)
            refine tn_first_q (i := 5) (listed' := #[true, true, true, true, true, true, false, false, true, true, false, false, false, true, false]) rfl rfl (by kernel_rfl) rfl (q_fieldAddrE fO86_0 rfl rfl ?_)
            refine tn_first_q (i := 6) (listed' := #[true, true, true, true, true, true, true, false, true, true, false, false, false, true, false]) rfl rfl (by kernel_rfl) rfl (q_loadE tA2 rfl rfl (by exact map_get hl) rfl ?_)
            refine tn_first_q (i := 7) (listed' := #[true, true, true, true, true, true, true, true, true, true, false, false, false, true, false]) rfl rfl (by kernel_rfl) rfl (q_int rfl rfl ?_)
            intro n110 hn110
            replace hn110 := in64 hn110 (by omega) (by omega)
            refine tn_first_q (i := 10) (listed' := #[true, true, true, true, true, true, true, true, true, true, true, false, false, true, false]) rfl rfl (by kernel_rfl) rfl (q_int rfl rfl ?_)
            intro n111 hn111
            replace hn111 := in64 hn111 (by omega) (by omega)
            refine tn_first_q (i := 11) (listed' := #[true, true, true, true, true, true, true, true, true, true, true, true, false, true, false]) rfl rfl (by kernel_rfl) rfl (q_int rfl rfl ?_)
            intro n112 hn112
            replace hn112 := in64 hn112 (by omega) (by omega)
            refine tn_step [12] (by kernel_rfl) rfl ?_
            refine ⟨?_, trivial⟩
            · refine tn_k (listed' := #[true, true, true, true, true, true, true, true, true, true, true, true, true, true, false]) rfl rfl rfl rfl (k_build zA86 pl86 (rfl) ?_)
              refine tn_step [14] (by kernel_rfl) rfl ?_
              refine ⟨?_, trivial⟩
              · refine tn_k (listed' := #[true, true, true, true, true, true, true, true, true, true, true, true, true, true, true]) rfl rfl rfl rfl (k_store sz86 rfl (by conv => lhs; whnf) rfl rfl rfl (Nat.le_of_ble_eq_true rfl) rfl ?_)
                refine tn_end (by kernel_rfl) (hK13 _ ?_); clear hK13
                refine good_seq fun K113 hK113 => ?_
                refine good_region rfl ?_
                refine ev_q rfl (q_move (by conv => lhs; whnf) ?_)
                refine ev_k rfl (k_callR [(1000000, 1000000)] (D_spec_l00Src_pick cs _ _ _ hc hb (by omega) (by omega)) rfl (rfl) (rfl) ⟨rfl, trivial⟩ rfl (by rintro ⟨v114, a114, s114⟩ ⟨hx114_0, hx114_1⟩; exact ⟨⟨rfl, rfl, trivial⟩, rfl⟩) rfl rfl ?_)
                rintro ⟨v114, a114, s114⟩ ⟨hx114_0, hx114_1⟩
                refine ev_q rfl (q_int rfl rfl ?_)
                intro n115 hn115
                replace hn115 := in64 hn115 (by omega) (by omega)
                refine ev_q rfl (q_fieldAddrP fO86_1 rfl rfl ?_)
                refine ev_k rfl (k_store sz2 rfl (by conv => lhs; whnf) rfl rfl rfl (Nat.le_of_ble_eq_true rfl) rfl ?_)
                refine ev_nil (hK113 _ ?_); clear hK113
                refine good_region rfl ?_
                refine ev_q rfl (q_move (by conv => lhs; whnf) ?_)
                refine ev_q rfl (q_loadA tA86 rfl rfl rfl ?_)
                refine ev_k rfl (k_lit tE44 zA86 rfl rfl (by decide) (by decide) rfl rfl rfl ?_)
                refine ev_k rfl (k_app tApp44 rfl rfl (by simp) rfl (.inr rfl) (by simp [maxLen]; omega) (by simp; omega) ?_)
                refine ev_q rfl (q_assign (by conv => lhs; whnf) ?_)
                refine ev_nil (hK12 _ ?_); clear hK12
                refine good_region rfl ?_
                refine ev_q rfl (q_move (by conv => lhs; whnf) ?_)
                refine ev_q rfl (q_int rfl rfl ?_)
                intro n116 hn116
                replace hn116 := in64 hn116 (by omega) (by omega)
                refine ev_q rfl (q_assign (by conv => lhs; whnf) ?_)
                refine ev_nil ?_
                clear hK5
                refine ⟨(u ++ [(n112, n115)], k - 1, a114, s114), ?_, ?_, ?_⟩
                · exact ⟨⟨wvD_s hI.1 hl2 (by omega) (by omega), by simp; omega, by simp; omega⟩, by simp; omega⟩
                · first | omega | (dsimp only; omega)
                · refine sub_weak ?_ ?_
                  · exact weakH_row (rowEq (by rw [List.map_append]; rfl)) (weakH_box (boxEq (rfl)) rfl (weakH_none _))
                  · refine weakE_upd ?e4 ?r4 (weakE_upd ?e3 ?r3 (weakE_upd ?e0 ?r0 (weakE_junk _ _)))
                    case e0 => first | rfl | exact fI (by omega) | (simp_all)
                    case r0 => intro h hh; simp [refs] at hh; subst hh; rfl
                    case e3 => first | rfl | exact fI (by omega) | (first | rfl | exact ownEq (by simp))
                    case r3 => intro h hh; simp [refs] at hh; subst hh; rfl
                    case e4 => first | rfl | exact fI (by omega) | (simp_all)
                    case r4 => intro h hh; cases hh
      · refine tn_k (listed' := #[true, true, false, false, false, false, false, false, true, true, false, false, false, false, false]) rfl rfl rfl rfl (k_callR [(1000000, 1000000)] (D_spec_l00Src_pick cs _ _ _ hc hb (by omega) (by omega)) rfl (rfl) (rfl) ⟨rfl, trivial⟩ rfl (by rintro ⟨v117, a117, s117⟩ ⟨hx117_0, hx117_1⟩; exact ⟨⟨rfl, rfl, trivial⟩, rfl⟩) rfl rfl ?_)
        rintro ⟨v117, a117, s117⟩ ⟨hx117_0, hx117_1⟩
        refine tn_first_q (i := 10) (listed' := #[true, true, false, false, false, false, false, false, true, true, true, false, false, false, false]) rfl rfl (by kernel_rfl) rfl (q_int rfl rfl ?_)
        intro n118 hn118
        replace hn118 := in64 hn118 (by omega) (by omega)
        refine tn_step [2, 13] (by kernel_rfl) rfl ?_
        refine ⟨?_, ?_, trivial⟩
        · refine tn_q (listed' := #[true, true, true, false, false, false, false, false, true, true, true, false, false, false, false]) rfl rfl rfl (q_len tEs44 rfl ?_)
          intro n119 hn119
          try simp only [List.length_map] at hn119
          refine tn_first_q (i := 3) (listed' := #[true, true, true, true, false, false, false, false, true, true, true, false, false, false, false]) rfl rfl (by kernel_rfl) rfl (q_int rfl rfl ?_)
          intro n120 hn120
          replace hn120 := in64 hn120 (by omega) (by omega)
          refine tn_step [4, 13] (by kernel_rfl) rfl ?_
          refine ⟨?_, ?_, trivial⟩
          · have h1u := hI.1.1
            obtain ⟨l, hl⟩ := getL (xs := u) (n := n120) (by omega) (by omega)
            have hl2 : u[u.length - 1]? = some l := by rw [← hl]; congr 1; omega
            have hlb := hI.1.2.1 l (List.mem_of_getElem? hl)
            refine tn_q (listed' := #[true, true, true, true, true, false, false, false, true, true, true, false, false, false, false]) rfl rfl rfl (q_idxO tE44 rfl rfl rfl (by omega) (by omega) rfl ?_)
            refine tn_first_q (i := 5) (listed' := #[true, true, true, true, true, true, false, false, true, true, true, false, false, false, false]) rfl rfl (by kernel_rfl) rfl (q_fieldAddrE fO86_0 rfl rfl ?_)
            refine tn_step [6, 13] (by kernel_rfl) rfl ?_
            refine ⟨?_, ?_, trivial⟩
            · refine tn_q (listed' := #[true, true, true, true, true, true, true, false, true, true, true, false, false, false, false]) rfl rfl rfl (q_loadE tA2 rfl rfl (by exact map_get hl) rfl ?_)
              refine tn_first_q (i := 7) (listed' := #[true, true, true, true, true, true, true, true, true, true, true, false, false, false, false]) rfl rfl (by kernel_rfl) rfl (q_int rfl rfl ?_)
              intro n121 hn121
              replace hn121 := in64 hn121 (by omega) (by omega)
              refine tn_first_q (i := 11) (listed' := #[true, true, true, true, true, true, true, true, true, true, true, true, false, false, false]) rfl rfl (by kernel_rfl) rfl (q_int rfl rfl ?_)
              intro n122 hn122
              replace hn122 := in64 hn122 (by omega) (by omega)
              refine tn_step [12, 13] (by kernel_rfl) rfl ?_
              refine ⟨?_, ?_, trivial⟩
              · refine tn_k (listed' := #[true, true, true, true, true, true, true, true, true, true, true, true, true, false, false]) rfl rfl rfl rfl (k_build zA86 pl86 (rfl) ?_)
                refine tn_step [13] (by kernel_rfl) rfl ?_
                refine ⟨?_, trivial⟩
                · refine tn_k (listed' := #[true, true, true, true, true, true, true, true, true, true, true, true, true, true, false]) rfl rfl rfl rfl (k_alloc zA86 rfl ?_)
                  refine tn_step [14] (by kernel_rfl) rfl ?_
                  refine ⟨?_, trivial⟩
                  · refine tn_k (listed' := #[true, true, true, true, true, true, true, true, true, true, true, true, true, true, true]) rfl rfl rfl rfl (k_store sz86 rfl (by conv => lhs; whnf) rfl rfl rfl (Nat.le_of_ble_eq_true rfl) rfl ?_)
                    refine tn_end (by kernel_rfl) (hK13 _ ?_); clear hK13
                    refine good_seq fun K123 hK123 => ?_
                    refine good_region rfl ?_
                    refine ev_q rfl (q_move (by conv => lhs; whnf) ?_)
                    refine ev_k rfl (k_callR [(1000000, 1000000)] (D_spec_l00Src_pick cs _ _ _ hc hb (by omega) (by omega)) rfl (rfl) (rfl) ⟨rfl, trivial⟩ rfl (by rintro ⟨v124, a124, s124⟩ ⟨hx124_0, hx124_1⟩; exact ⟨⟨rfl, rfl, trivial⟩, rfl⟩) rfl rfl ?_)
                    rintro ⟨v124, a124, s124⟩ ⟨hx124_0, hx124_1⟩
                    refine ev_q rfl (q_int rfl rfl ?_)
                    intro n125 hn125
                    replace hn125 := in64 hn125 (by omega) (by omega)
                    refine ev_q rfl (q_fieldAddrP fO86_1 rfl rfl ?_)
                    refine ev_k rfl (k_store sz2 rfl (by conv => lhs; whnf) rfl rfl rfl (Nat.le_of_ble_eq_true rfl) rfl ?_)
                    refine ev_nil (hK123 _ ?_); clear hK123
                    refine good_region rfl ?_
                    refine ev_q rfl (q_move (by conv => lhs; whnf) ?_)
                    refine ev_q rfl (q_loadA tA86 rfl rfl rfl ?_)
                    refine ev_k rfl (k_lit tE44 zA86 rfl rfl (by decide) (by decide) rfl rfl rfl ?_)
                    refine ev_k rfl (k_app tApp44 rfl rfl (by simp) rfl (.inr rfl) (by simp [maxLen]; omega) (by simp; omega) ?_)
                    refine ev_q rfl (q_assign (by conv => lhs; whnf) ?_)
                    refine ev_nil (hK12 _ ?_); clear hK12
                    refine good_region rfl ?_
                    refine ev_q rfl (q_move (by conv => lhs; whnf) ?_)
                    refine ev_q rfl (q_int rfl rfl ?_)
                    intro n126 hn126
                    replace hn126 := in64 hn126 (by omega) (by omega)
                    refine ev_q rfl (q_assign (by conv => lhs; whnf) ?_)
                    refine ev_nil ?_
                    clear hK5
                    refine ⟨(u ++ [(n122, n125)], k - 1, a124, s124), ?_, ?_, ?_⟩
                    · exact ⟨⟨wvD_s hI.1 hl2 (by omega) (by omega), by simp; omega, by simp; omega⟩, by simp; omega⟩
                    · first | omega | (dsimp only; omega)
                    · refine sub_weak ?_ ?_
                      · exact weakH_row (rowEq (by rw [List.map_append]; rfl)) (weakH_box (boxEq (rfl)) rfl (weakH_none _))
                      · refine weakE_upd ?e4 ?r4 (weakE_upd ?e3 ?r3 (weakE_upd ?e0 ?r0 (weakE_junk _ _)))
                        case e0 => first | rfl | exact fI (by omega) | (simp_all)
                        case r0 => intro h hh; simp [refs] at hh; subst hh; rfl
                        case e3 => first | rfl | exact fI (by omega) | (first | rfl | exact ownEq (by simp))
                        case r3 => intro h hh; simp [refs] at hh; subst hh; rfl
                        case e4 => first | rfl | exact fI (by omega) | (simp_all)
                        case r4 => intro h hh; cases hh
              · refine tn_k (listed' := #[true, true, true, true, true, true, true, true, true, true, true, true, false, true, false]) rfl rfl rfl rfl (k_alloc zA86 rfl ?_)
                refine tn_step [12] (by kernel_rfl) rfl ?_
                refine ⟨?_, trivial⟩
                · refine tn_k (listed' := #[true, true, true, true, true, true, true, true, true, true, true, true, true, true, false]) rfl rfl rfl rfl (k_build zA86 pl86 (rfl) ?_)
                  refine tn_step [14] (by kernel_rfl) rfl ?_
                  refine ⟨?_, trivial⟩
                  · refine tn_k (listed' := #[true, true, true, true, true, true, true, true, true, true, true, true, true, true, true]) rfl rfl rfl rfl (k_store sz86 rfl (by conv => lhs; whnf) rfl rfl rfl (Nat.le_of_ble_eq_true rfl) rfl ?_)
                    refine tn_end (by kernel_rfl) (hK13 _ ?_); clear hK13
                    refine good_seq fun K127 hK127 => ?_
                    refine good_region rfl ?_
                    refine ev_q rfl (q_move (by conv => lhs; whnf) ?_)
                    refine ev_k rfl (k_callR [(1000000, 1000000)] (D_spec_l00Src_pick cs _ _ _ hc hb (by omega) (by omega)) rfl (rfl) (rfl) ⟨rfl, trivial⟩ rfl (by rintro ⟨v128, a128, s128⟩ ⟨hx128_0, hx128_1⟩; exact ⟨⟨rfl, rfl, trivial⟩, rfl⟩) rfl rfl ?_)
                    rintro ⟨v128, a128, s128⟩ ⟨hx128_0, hx128_1⟩
                    refine ev_q rfl (q_int rfl rfl ?_)
                    intro n129 hn129
                    replace hn129 := in64 hn129 (by omega) (by omega)
                    refine ev_q rfl (q_fieldAddrP fO86_1 rfl rfl ?_)
                    refine ev_k rfl (k_store sz2 rfl (by conv => lhs; whnf) rfl rfl rfl (Nat.le_of_ble_eq_true rfl) rfl ?_)
                    refine ev_nil (hK127 _ ?_); clear hK127
                    refine good_region rfl ?_
                    refine ev_q rfl (q_move (by conv => lhs; whnf) ?_)
                    refine ev_q rfl (q_loadA tA86 rfl rfl rfl ?_)
                    refine ev_k rfl (k_lit tE44 zA86 rfl rfl (by decide) (by decide) rfl rfl rfl ?_)
                    refine ev_k rfl (k_app tApp44 rfl rfl (by simp) rfl (.inr rfl) (by simp [maxLen]; omega) (by simp; omega) ?_)
                    refine ev_q rfl (q_assign (by conv => lhs; whnf) ?_)
                    refine ev_nil (hK12 _ ?_); clear hK12
                    refine good_region rfl ?_
                    refine ev_q rfl (q_move (by conv => lhs; whnf) ?_)
                    refine ev_q rfl (q_int rfl rfl ?_)
                    intro n130 hn130
                    replace hn130 := in64 hn130 (by omega) (by omega)
                    refine ev_q rfl (q_assign (by conv => lhs; whnf) ?_)
                    refine ev_nil ?_
                    clear hK5
                    refine ⟨(u ++ [(n122, n129)], k - 1, a128, s128), ?_, ?_, ?_⟩
                    · exact ⟨⟨wvD_s hI.1 hl2 (by omega) (by omega), by simp; omega, by simp; omega⟩, by simp; omega⟩
                    · first | omega | (dsimp only; omega)
                    · refine sub_weak ?_ ?_
                      · exact weakH_row (rowEq (by rw [List.map_append]; rfl)) (weakH_box (boxEq (rfl)) rfl (weakH_none _))
                      · refine weakE_upd ?e4 ?r4 (weakE_upd ?e3 ?r3 (weakE_upd ?e0 ?r0 (weakE_junk _ _)))
                        case e0 => first | rfl | exact fI (by omega) | (simp_all)
                        case r0 => intro h hh; simp [refs] at hh; subst hh; rfl
                        case e3 => first | rfl | exact fI (by omega) | (first | rfl | exact ownEq (by simp))
                        case r3 => intro h hh; simp [refs] at hh; subst hh; rfl
                        case e4 => first | rfl | exact fI (by omega) | (simp_all)
                        case r4 => intro h hh; cases hh
            · refine tn_k (listed' := #[true, true, true, true, true, true, false, false, true, true, true, false, false, true, false]) rfl rfl rfl rfl (k_alloc zA86 rfl ?_)
              refine tn_first_q (i := 6) (listed' := #[true, true, true, true, true, true, true, false, true, true, true, false, false, true, false]) rfl rfl (by kernel_rfl) rfl (q_loadE tA2 rfl rfl (by exact map_get hl) rfl ?_)
              refine tn_first_q (i := 7) (listed' := #[true, true, true, true, true, true, true, true, true, true, true, false, false, true, false]) rfl rfl (by kernel_rfl) rfl (q_int rfl rfl ?_)
              intro n131 hn131
              replace hn131 := in64 hn131 (by omega) (by omega)
              refine tn_first_q (i := 11) (listed' := #[true, true, true, true, true, true, true, true, true, true, true, true, false, true, false]) rfl rfl (by kernel_rfl) rfl (q_int rfl rfl ?_)
              intro n132 hn132
              replace hn132 := in64 hn132 (by omega) (by omega)
              refine tn_step [12] (by kernel_rfl) rfl ?_
              refine ⟨?_, trivial⟩
              · refine tn_k (listed' := #[true, true, true, true, true, true, true, true, true, true, true, true, true, true, false]) rfl rfl rfl rfl (k_build zA86 pl86 (rfl) ?_)
                refine tn_step [14] (by kernel_rfl) rfl ?_
                refine ⟨?_, trivial⟩
                · refine tn_k (listed' := #[true, true, true, true, true, true, true, true, true, true, true, true, true, true, true]) rfl rfl rfl rfl (k_store sz86 rfl (by conv => lhs; whnf) rfl rfl rfl (Nat.le_of_ble_eq_true rfl) rfl ?_)
                  refine tn_end (by kernel_rfl) (hK13 _ ?_); clear hK13
                  refine good_seq fun K133 hK133 => ?_
                  refine good_region rfl ?_
                  refine ev_q rfl (q_move (by conv => lhs; whnf) ?_)
                  refine ev_k rfl (k_callR [(1000000, 1000000)] (D_spec_l00Src_pick cs _ _ _ hc hb (by omega) (by omega)) rfl (rfl) (rfl) ⟨rfl, trivial⟩ rfl (by rintro ⟨v134, a134, s134⟩ ⟨hx134_0, hx134_1⟩; exact ⟨⟨rfl, rfl, trivial⟩, rfl⟩) rfl rfl ?_)
                  rintro ⟨v134, a134, s134⟩ ⟨hx134_0, hx134_1⟩
                  refine ev_q rfl (q_int rfl rfl ?_)
                  intro n135 hn135
                  replace hn135 := in64 hn135 (by omega) (by omega)
                  refine ev_q rfl (q_fieldAddrP fO86_1 rfl rfl ?_)
                  refine ev_k rfl (k_store sz2 rfl (by conv => lhs; whnf) rfl rfl rfl (Nat.le_of_ble_eq_true rfl) rfl ?_)
                  refine ev_nil (hK133 _ ?_); clear hK133
                  refine good_region rfl ?_
                  refine ev_q rfl (q_move (by conv => lhs; whnf) ?_)
                  refine ev_q rfl (q_loadA tA86 rfl rfl rfl ?_)
                  refine ev_k rfl (k_lit tE44 zA86 rfl rfl (by decide) (by decide) rfl rfl rfl ?_)
                  refine ev_k rfl (k_app tApp44 rfl rfl (by simp) rfl (.inr rfl) (by simp [maxLen]; omega) (by simp; omega) ?_)
                  refine ev_q rfl (q_assign (by conv => lhs; whnf) ?_)
                  refine ev_nil (hK12 _ ?_); clear hK12
                  refine good_region rfl ?_
                  refine ev_q rfl (q_move (by conv => lhs; whnf) ?_)
                  refine ev_q rfl (q_int rfl rfl ?_)
                  intro n136 hn136
                  replace hn136 := in64 hn136 (by omega) (by omega)
                  refine ev_q rfl (q_assign (by conv => lhs; whnf) ?_)
                  refine ev_nil ?_
                  clear hK5
                  refine ⟨(u ++ [(n132, n135)], k - 1, a134, s134), ?_, ?_, ?_⟩
                  · exact ⟨⟨wvD_s hI.1 hl2 (by omega) (by omega), by simp; omega, by simp; omega⟩, by simp; omega⟩
                  · first | omega | (dsimp only; omega)
                  · refine sub_weak ?_ ?_
                    · exact weakH_row (rowEq (by rw [List.map_append]; rfl)) (weakH_box (boxEq (rfl)) rfl (weakH_none _))
                    · refine weakE_upd ?e4 ?r4 (weakE_upd ?e3 ?r3 (weakE_upd ?e0 ?r0 (weakE_junk _ _)))
                      case e0 => first | rfl | exact fI (by omega) | (simp_all)
                      case r0 => intro h hh; simp [refs] at hh; subst hh; rfl
                      case e3 => first | rfl | exact fI (by omega) | (first | rfl | exact ownEq (by simp))
                      case r3 => intro h hh; simp [refs] at hh; subst hh; rfl
                      case e4 => first | rfl | exact fI (by omega) | (simp_all)
                      case r4 => intro h hh; cases hh
          · refine tn_k (listed' := #[true, true, true, true, false, false, false, false, true, true, true, false, false, true, false]) rfl rfl rfl rfl (k_alloc zA86 rfl ?_)
            have h1u := hI.1.1
            obtain ⟨l, hl⟩ := getL (xs := u) (n := n120) (by omega) (by omega)
            have hl2 : u[u.length - 1]? = some l := by rw [← hl]; congr 1; omega
            have hlb := hI.1.2.1 l (List.mem_of_getElem? hl)
            refine tn_first_q (i := 4) (listed' := #[true, true, true, true, true, false, false, false, true, true, true, false, false, true, false]) rfl rfl (by kernel_rfl) rfl (q_idxO tE44 rfl rfl rfl (by omega) (by omega) rfl ?_)
            refine tn_first_q (i := 5) (listed' := #[true, true, true, true, true, true, false, false, true, true, true, false, false, true, false]) rfl rfl (by kernel_rfl) rfl (q_fieldAddrE fO86_0 rfl rfl ?_)
            refine tn_first_q (i := 6) (listed' := #[true, true, true, true, true, true, true, false, true, true, true, false, false, true, false]) rfl rfl (by kernel_rfl) rfl (q_loadE tA2 rfl rfl (by exact map_get hl) rfl ?_)
            refine tn_first_q (i := 7) (listed' := #[true, true, true, true, true, true, true, true, true, true, true, false, false, true, false]) rfl rfl (by kernel_rfl) rfl (q_int rfl rfl ?_)
            intro n137 hn137
            replace hn137 := in64 hn137 (by omega) (by omega)
            refine tn_first_q (i := 11) (listed' := #[true, true, true, true, true, true, true, true, true, true, true, true, false, true, false]) rfl rfl (by kernel_rfl) rfl (q_int rfl rfl ?_)
            intro n138 hn138
            replace hn138 := in64 hn138 (by omega) (by omega)
            refine tn_step [12] (by kernel_rfl) rfl ?_
            refine ⟨?_, trivial⟩
            · refine tn_k (listed' := #[true, true, true, true, true, true, true, true, true, true, true, true, true, true, false]) rfl rfl rfl rfl (k_build zA86 pl86 (rfl) ?_)
              refine tn_step [14] (by kernel_rfl) rfl ?_
              refine ⟨?_, trivial⟩
              · refine tn_k (listed' := #[true, true, true, true, true, true, true, true, true, true, true, true, true, true, true]) rfl rfl rfl rfl (k_store sz86 rfl (by conv => lhs; whnf) rfl rfl rfl (Nat.le_of_ble_eq_true rfl) rfl ?_)
                refine tn_end (by kernel_rfl) (hK13 _ ?_); clear hK13
                refine good_seq fun K139 hK139 => ?_
                refine good_region rfl ?_
                refine ev_q rfl (q_move (by conv => lhs; whnf) ?_)
                refine ev_k rfl (k_callR [(1000000, 1000000)] (D_spec_l00Src_pick cs _ _ _ hc hb (by omega) (by omega)) rfl (rfl) (rfl) ⟨rfl, trivial⟩ rfl (by rintro ⟨v140, a140, s140⟩ ⟨hx140_0, hx140_1⟩; exact ⟨⟨rfl, rfl, trivial⟩, rfl⟩) rfl rfl ?_)
                rintro ⟨v140, a140, s140⟩ ⟨hx140_0, hx140_1⟩
                refine ev_q rfl (q_int rfl rfl ?_)
                intro n141 hn141
                replace hn141 := in64 hn141 (by omega) (by omega)
                refine ev_q rfl (q_fieldAddrP fO86_1 rfl rfl ?_)
                refine ev_k rfl (k_store sz2 rfl (by conv => lhs; whnf) rfl rfl rfl (Nat.le_of_ble_eq_true rfl) rfl ?_)
                refine ev_nil (hK139 _ ?_); clear hK139
                refine good_region rfl ?_
                refine ev_q rfl (q_move (by conv => lhs; whnf) ?_)
                refine ev_q rfl (q_loadA tA86 rfl rfl rfl ?_)
                refine ev_k rfl (k_lit tE44 zA86 rfl rfl (by decide) (by decide) rfl rfl rfl ?_)
                refine ev_k rfl (k_app tApp44 rfl rfl (by simp) rfl (.inr rfl) (by simp [maxLen]; omega) (by simp; omega) ?_)
                refine ev_q rfl (q_assign (by conv => lhs; whnf) ?_)
                refine ev_nil (hK12 _ ?_); clear hK12
                refine good_region rfl ?_
                refine ev_q rfl (q_move (by conv => lhs; whnf) ?_)
                refine ev_q rfl (q_int rfl rfl ?_)
                intro n142 hn142
                replace hn142 := in64 hn142 (by omega) (by omega)
                refine ev_q rfl (q_assign (by conv => lhs; whnf) ?_)
                refine ev_nil ?_
                clear hK5
                refine ⟨(u ++ [(n138, n141)], k - 1, a140, s140), ?_, ?_, ?_⟩
                · exact ⟨⟨wvD_s hI.1 hl2 (by omega) (by omega), by simp; omega, by simp; omega⟩, by simp; omega⟩
                · first | omega | (dsimp only; omega)
                · refine sub_weak ?_ ?_
                  · exact weakH_row (rowEq (by rw [List.map_append]; rfl)) (weakH_box (boxEq (rfl)) rfl (weakH_none _))
                  · refine weakE_upd ?e4 ?r4 (weakE_upd ?e3 ?r3 (weakE_upd ?e0 ?r0 (weakE_junk _ _)))
                    case e0 => first | rfl | exact fI (by omega) | (simp_all)
                    case r0 => intro h hh; simp [refs] at hh; subst hh; rfl
                    case e3 => first | rfl | exact fI (by omega) | (first | rfl | exact ownEq (by simp))
                    case r3 => intro h hh; simp [refs] at hh; subst hh; rfl
                    case e4 => first | rfl | exact fI (by omega) | (simp_all)
                    case r4 => intro h hh; cases hh
        · refine tn_k (listed' := #[true, true, false, false, false, false, false, false, true, true, true, false, false, true, false]) rfl rfl rfl rfl (k_alloc zA86 rfl ?_)
          refine tn_first_q (i := 2) (listed' := #[true, true, true, false, false, false, false, false, true, true, true, false, false, true, false]) rfl rfl (by kernel_rfl) rfl (q_len tEs44 rfl ?_)
          intro n143 hn143
          try simp only [List.length_map] at hn143
          refine tn_first_q (i := 3) (listed' := #[true, true, true, true, false, false, false, false, true, true, true, false, false, true, false]) rfl rfl (by kernel_rfl) rfl (q_int rfl rfl ?_)
          intro n144 hn144
          replace hn144 := in64 hn144 (by omega) (by omega)
          have h1u := hI.1.1
          obtain ⟨l, hl⟩ := getL (xs := u) (n := n144) (by omega) (by omega)
          have hl2 : u[u.length - 1]? = some l := by rw [← hl]; congr 1; omega
          have hlb := hI.1.2.1 l (List.mem_of_getElem? hl)
          refine tn_first_q (i := 4) (listed' := #[true, true, true, true, true, false, false, false, true, true, true, false, false, true, false]) rfl rfl (by kernel_rfl) rfl (q_idxO tE44 rfl rfl rfl (by omega) (by omega) rfl ?_)
          refine tn_first_q (i := 5) (listed' := #[true, true, true, true, true, true, false, false, true, true, true, false, false, true, false]) rfl rfl (by kernel_rfl) rfl (q_fieldAddrE fO86_0 rfl rfl ?_)
          refine tn_first_q (i := 6) (listed' := #[true, true, true, true, true, true, true, false, true, true, true, false, false, true, false]) rfl rfl (by kernel_rfl) rfl (q_loadE tA2 rfl rfl (by exact map_get hl) rfl ?_)
          refine tn_first_q (i := 7) (listed' := #[true, true, true, true, true, true, true, true, true, true, true, false, false, true, false]) rfl rfl (by kernel_rfl) rfl (q_int rfl rfl ?_)
          intro n145 hn145
          replace hn145 := in64 hn145 (by omega) (by omega)
          refine tn_first_q (i := 11) (listed' := #[true, true, true, true, true, true, true, true, true, true, true, true, false, true, false]) rfl rfl (by kernel_rfl) rfl (q_int rfl rfl ?_)
          intro n146 hn146
          replace hn146 := in64 hn146 (by omega) (by omega)
          refine tn_step [12] (by kernel_rfl) rfl ?_
          refine ⟨?_, trivial⟩
          · refine tn_k (listed' := #[true, true, true, true, true, true, true, true, true, true, true, true, true, true, false]) rfl rfl rfl rfl (k_build zA86 pl86 (rfl) ?_)
            refine tn_step [14] (by kernel_rfl) rfl ?_
            refine ⟨?_, trivial⟩
            · refine tn_k (listed' := #[true, true, true, true, true, true, true, true, true, true, true, true, true, true, true]) rfl rfl rfl rfl (k_store sz86 rfl (by conv => lhs; whnf) rfl rfl rfl (Nat.le_of_ble_eq_true rfl) rfl ?_)
              refine tn_end (by kernel_rfl) (hK13 _ ?_); clear hK13
              refine good_seq fun K147 hK147 => ?_
              refine good_region rfl ?_
              refine ev_q rfl (q_move (by conv => lhs; whnf) ?_)
              refine ev_k rfl (k_callR [(1000000, 1000000)] (D_spec_l00Src_pick cs _ _ _ hc hb (by omega) (by omega)) rfl (rfl) (rfl) ⟨rfl, trivial⟩ rfl (by rintro ⟨v148, a148, s148⟩ ⟨hx148_0, hx148_1⟩; exact ⟨⟨rfl, rfl, trivial⟩, rfl⟩) rfl rfl ?_)
              rintro ⟨v148, a148, s148⟩ ⟨hx148_0, hx148_1⟩
              refine ev_q rfl (q_int rfl rfl ?_)
              intro n149 hn149
              replace hn149 := in64 hn149 (by omega) (by omega)
              refine ev_q rfl (q_fieldAddrP fO86_1 rfl rfl ?_)
              refine ev_k rfl (k_store sz2 rfl (by conv => lhs; whnf) rfl rfl rfl (Nat.le_of_ble_eq_true rfl) rfl ?_)
              refine ev_nil (hK147 _ ?_); clear hK147
              refine good_region rfl ?_
              refine ev_q rfl (q_move (by conv => lhs; whnf) ?_)
              refine ev_q rfl (q_loadA tA86 rfl rfl rfl ?_)
              refine ev_k rfl (k_lit tE44 zA86 rfl rfl (by decide) (by decide) rfl rfl rfl ?_)
              refine ev_k rfl (k_app tApp44 rfl rfl (by simp) rfl (.inr rfl) (by simp [maxLen]; omega) (by simp; omega) ?_)
              refine ev_q rfl (q_assign (by conv => lhs; whnf) ?_)
              refine ev_nil (hK12 _ ?_); clear hK12
              refine good_region rfl ?_
              refine ev_q rfl (q_move (by conv => lhs; whnf) ?_)
              refine ev_q rfl (q_int rfl rfl ?_)
              intro n150 hn150
              replace hn150 := in64 hn150 (by omega) (by omega)
              refine ev_q rfl (q_assign (by conv => lhs; whnf) ?_)
              refine ev_nil ?_
              clear hK5
              refine ⟨(u ++ [(n146, n149)], k - 1, a148, s148), ?_, ?_, ?_⟩
              · exact ⟨⟨wvD_s hI.1 hl2 (by omega) (by omega), by simp; omega, by simp; omega⟩, by simp; omega⟩
              · first | omega | (dsimp only; omega)
              · refine sub_weak ?_ ?_
                · exact weakH_row (rowEq (by rw [List.map_append]; rfl)) (weakH_box (boxEq (rfl)) rfl (weakH_none _))
                · refine weakE_upd ?e4 ?r4 (weakE_upd ?e3 ?r3 (weakE_upd ?e0 ?r0 (weakE_junk _ _)))
                  case e0 => first | rfl | exact fI (by omega) | (simp_all)
                  case r0 => intro h hh; simp [refs] at hh; subst hh; rfl
                  case e3 => first | rfl | exact fI (by omega) | (first | rfl | exact ownEq (by simp))
                  case r3 => intro h hh; simp [refs] at hh; subst hh; rfl
                  case e4 => first | rfl | exact fI (by omega) | (simp_all)
                  case r4 => intro h hh; cases hh
      · refine tn_k (listed' := #[true, true, false, false, false, false, false, false, true, false, false, false, false, true, false]) rfl rfl rfl rfl (k_alloc zA86 rfl ?_)
        refine tn_step [2, 9] (by kernel_rfl) rfl ?_
        refine ⟨?_, ?_, trivial⟩
        · refine tn_q (listed' := #[true, true, true, false, false, false, false, false, true, false, false, false, false, true, false]) rfl rfl rfl (q_len tEs44 rfl ?_)
          intro n151 hn151
          try simp only [List.length_map] at hn151
          refine tn_first_q (i := 3) (listed' := #[true, true, true, true, false, false, false, false, true, false, false, false, false, true, false]) rfl rfl (by kernel_rfl) rfl (q_int rfl rfl ?_)
          intro n152 hn152
          replace hn152 := in64 hn152 (by omega) (by omega)
          refine tn_step [4, 9] (by kernel_rfl) rfl ?_
          refine ⟨?_, ?_, trivial⟩
          · have h1u := hI.1.1
            obtain ⟨l, hl⟩ := getL (xs := u) (n := n152) (by omega) (by omega)
            have hl2 : u[u.length - 1]? = some l := by rw [← hl]; congr 1; omega
            have hlb := hI.1.2.1 l (List.mem_of_getElem? hl)
            refine tn_q (listed' := #[true, true, true, true, true, false, false, false, true, false, false, false, false, true, false]) rfl rfl rfl (q_idxO tE44 rfl rfl rfl (by omega) (by omega) rfl ?_)
            refine tn_first_q (i := 5) (listed' := #[true, true, true, true, true, true, false, false, true, false, false, false, false, true, false]) rfl rfl (by kernel_rfl) rfl (q_fieldAddrE fO86_0 rfl rfl ?_)
            refine tn_step [6, 9] (by kernel_rfl) rfl ?_
            refine ⟨?_, ?_, trivial⟩
            · refine tn_q (listed' := #[true, true, true, true, true, true, true, false, true, false, false, false, false, true, false]) rfl rfl rfl (q_loadE tA2 rfl rfl (by exact map_get hl) rfl ?_)
              refine tn_first_q (i := 7) (listed' := #[true, true, true, true, true, true, true, true, true, false, false, false, false, true, false]) rfl rfl (by kernel_rfl) rfl (q_int rfl rfl ?_)
              intro n153 hn153
              replace hn153 := in64 hn153 (by omega) (by omega)
              refine tn_step [9] (by kernel_rfl) rfl ?_
              refine ⟨?_, trivial⟩
              · refine tn_k (listed' := #[true, true, true, true, true, true, true, true, true, true, false, false, false, true, false]) rfl rfl rfl rfl (k_callR [(1000000, 1000000)] (D_spec_l00Src_pick cs _ _ _ hc hb (by omega) (by omega)) rfl (rfl) (rfl) ⟨rfl, trivial⟩ rfl (by rintro ⟨v154, a154, s154⟩ ⟨hx154_0, hx154_1⟩; exact ⟨⟨rfl, rfl, trivial⟩, rfl⟩) rfl rfl ?_)
                rintro ⟨v154, a154, s154⟩ ⟨hx154_0, hx154_1⟩
                refine tn_first_q (i := 10) (listed' := #[true, true, true, true, true, true, true, true, true, true, true, false, false, true, false]) rfl rfl (by kernel_rfl) rfl (q_int rfl rfl ?_)
                intro n155 hn155
                replace hn155 := in64 hn155 (by omega) (by omega)
                refine tn_first_q (i := 11) (listed' := #[true, true, true, true, true, true, true, true, true, true, true, true, false, true, false]) rfl rfl (by kernel_rfl) rfl (q_int rfl rfl ?_)
                intro n156 hn156
                replace hn156 := in64 hn156 (by omega) (by omega)
                refine tn_step [12] (by kernel_rfl) rfl ?_
                refine ⟨?_, trivial⟩
                · refine tn_k (listed' := #[true, true, true, true, true, true, true, true, true, true, true, true, true, true, false]) rfl rfl rfl rfl (k_build zA86 pl86 (rfl) ?_)
                  refine tn_step [14] (by kernel_rfl) rfl ?_
                  refine ⟨?_, trivial⟩
                  · refine tn_k (listed' := #[true, true, true, true, true, true, true, true, true, true, true, true, true, true, true]) rfl rfl rfl rfl (k_store sz86 rfl (by conv => lhs; whnf) rfl rfl rfl (Nat.le_of_ble_eq_true rfl) rfl ?_)
                    refine tn_end (by kernel_rfl) (hK13 _ ?_); clear hK13
                    refine good_seq fun K157 hK157 => ?_
                    refine good_region rfl ?_
                    refine ev_q rfl (q_move (by conv => lhs; whnf) ?_)
                    refine ev_k rfl (k_callR [(1000000, 1000000)] (D_spec_l00Src_pick cs _ _ _ hc hb (by omega) (by omega)) rfl (rfl) (rfl) ⟨rfl, trivial⟩ rfl (by rintro ⟨v158, a158, s158⟩ ⟨hx158_0, hx158_1⟩; exact ⟨⟨rfl, rfl, trivial⟩, rfl⟩) rfl rfl ?_)
                    rintro ⟨v158, a158, s158⟩ ⟨hx158_0, hx158_1⟩
                    refine ev_q rfl (q_int rfl rfl ?_)
                    intro n159 hn159
                    replace hn159 := in64 hn159 (by omega) (by omega)
                    refine ev_q rfl (q_fieldAddrP fO86_1 rfl rfl ?_)
                    refine ev_k rfl (k_store sz2 rfl (by conv => lhs; whnf) rfl rfl rfl (Nat.le_of_ble_eq_true rfl) rfl ?_)
                    refine ev_nil (hK157 _ ?_); clear hK157
                    refine good_region rfl ?_
                    refine ev_q rfl (q_move (by conv => lhs; whnf) ?_)
                    refine ev_q rfl (q_loadA tA86 rfl rfl rfl ?_)
                    refine ev_k rfl (k_lit tE44 zA86 rfl rfl (by decide) (by decide) rfl rfl rfl ?_)
                    refine ev_k rfl (k_app tApp44 rfl rfl (by simp) rfl (.inr rfl) (by simp [maxLen]; omega) (by simp; omega) ?_)
                    refine ev_q rfl (q_assign (by conv => lhs; whnf) ?_)
                    refine ev_nil (hK12 _ ?_); clear hK12
                    refine good_region rfl ?_
                    refine ev_q rfl (q_move (by conv => lhs; whnf) ?_)
                    refine ev_q rfl (q_int rfl rfl ?_)
                    intro n160 hn160
                    replace hn160 := in64 hn160 (by omega) (by omega)
                    refine ev_q rfl (q_assign (by conv => lhs; whnf) ?_)
                    refine ev_nil ?_
                    clear hK5
                    refine ⟨(u ++ [(n156, n159)], k - 1, a158, s158), ?_, ?_, ?_⟩
                    · exact ⟨⟨wvD_s hI.1 hl2 (by omega) (by omega), by simp; omega, by simp; omega⟩, by simp; omega⟩
                    · first | omega | (dsimp only; omega)
                    · refine sub_weak ?_ ?_
                      · exact weakH_row (rowEq (by rw [List.map_append]; rfl)) (weakH_box (boxEq (rfl)) rfl (weakH_none _))
                      · refine weakE_upd ?e4 ?r4 (weakE_upd ?e3 ?r3 (weakE_upd ?e0 ?r0 (weakE_junk _ _)))
                        case e0 => first | rfl | exact fI (by omega) | (simp_all)
                        case r0 => intro h hh; simp [refs] at hh; subst hh; rfl
                        case e3 => first | rfl | exact fI (by omega) | (first | rfl | exact ownEq (by simp))
                        case r3 => intro h hh; simp [refs] at hh; subst hh; rfl
                        case e4 => first | rfl | exact fI (by omega) | (simp_all)
                        case r4 => intro h hh; cases hh
            · refine tn_k (listed' := #[true, true, true, true, true, true, false, false, true, true, false, false, false, true, false]) rfl rfl rfl rfl (k_callR [(1000000, 1000000)] (D_spec_l00Src_pick cs _ _ _ hc hb (by omega) (by omega)) rfl (rfl) (rfl) ⟨rfl, trivial⟩ rfl (by rintro ⟨v161, a161, s161⟩ ⟨hx161_0, hx161_1⟩; exact ⟨⟨rfl, rfl, trivial⟩, rfl⟩) rfl rfl ?_)
              rintro ⟨v161, a161, s161⟩ ⟨hx161_0, hx161_1⟩
              refine tn_first_q (i := 6) (listed' := #[true, true, true, true, true, true, true, false, true, true, false, false, false, true, false]) rfl rfl (by kernel_rfl) rfl (q_loadE tA2 rfl rfl (by exact map_get hl) rfl ?_)
              refine tn_first_q (i := 7) (listed' := #[true, true, true, true, true, true, true, true, true, true, false, false, false, true, false]) rfl rfl (by kernel_rfl) rfl (q_int rfl rfl ?_)
              intro n162 hn162
              replace hn162 := in64 hn162 (by omega) (by omega)
              refine tn_first_q (i := 10) (listed' := #[true, true, true, true, true, true, true, true, true, true, true, false, false, true, false]) rfl rfl (by kernel_rfl) rfl (q_int rfl rfl ?_)
              intro n163 hn163
              replace hn163 := in64 hn163 (by omega) (by omega)
              refine tn_first_q (i := 11) (listed' := #[true, true, true, true, true, true, true, true, true, true, true, true, false, true, false]) rfl rfl (by kernel_rfl) rfl (q_int rfl rfl ?_)
              intro n164 hn164
              replace hn164 := in64 hn164 (by omega) (by omega)
              refine tn_step [12] (by kernel_rfl) rfl ?_
              refine ⟨?_, trivial⟩
              · refine tn_k (listed' := #[true, true, true, true, true, true, true, true, true, true, true, true, true, true, false]) rfl rfl rfl rfl (k_build zA86 pl86 (rfl) ?_)
                refine tn_step [14] (by kernel_rfl) rfl ?_
                refine ⟨?_, trivial⟩
                · refine tn_k (listed' := #[true, true, true, true, true, true, true, true, true, true, true, true, true, true, true]) rfl rfl rfl rfl (k_store sz86 rfl (by conv => lhs; whnf) rfl rfl rfl (Nat.le_of_ble_eq_true rfl) rfl ?_)
                  refine tn_end (by kernel_rfl) (hK13 _ ?_); clear hK13
                  refine good_seq fun K165 hK165 => ?_
                  refine good_region rfl ?_
                  refine ev_q rfl (q_move (by conv => lhs; whnf) ?_)
                  refine ev_k rfl (k_callR [(1000000, 1000000)] (D_spec_l00Src_pick cs _ _ _ hc hb (by omega) (by omega)) rfl (rfl) (rfl) ⟨rfl, trivial⟩ rfl (by rintro ⟨v166, a166, s166⟩ ⟨hx166_0, hx166_1⟩; exact ⟨⟨rfl, rfl, trivial⟩, rfl⟩) rfl rfl ?_)
                  rintro ⟨v166, a166, s166⟩ ⟨hx166_0, hx166_1⟩
                  refine ev_q rfl (q_int rfl rfl ?_)
                  intro n167 hn167
                  replace hn167 := in64 hn167 (by omega) (by omega)
                  refine ev_q rfl (q_fieldAddrP fO86_1 rfl rfl ?_)
                  refine ev_k rfl (k_store sz2 rfl (by conv => lhs; whnf) rfl rfl rfl (Nat.le_of_ble_eq_true rfl) rfl ?_)
                  refine ev_nil (hK165 _ ?_); clear hK165
                  refine good_region rfl ?_
                  refine ev_q rfl (q_move (by conv => lhs; whnf) ?_)
                  refine ev_q rfl (q_loadA tA86 rfl rfl rfl ?_)
                  refine ev_k rfl (k_lit tE44 zA86 rfl rfl (by decide) (by decide) rfl rfl rfl ?_)
                  refine ev_k rfl (k_app tApp44 rfl rfl (by simp) rfl (.inr rfl) (by simp [maxLen]; omega) (by simp; omega) ?_)
                  refine ev_q rfl (q_assign (by conv => lhs; whnf) ?_)
                  refine ev_nil (hK12 _ ?_); clear hK12
                  refine good_region rfl ?_
                  refine ev_q rfl (q_move (by conv => lhs; whnf) ?_)
                  refine ev_q rfl (q_int rfl rfl ?_)
                  intro n168 hn168
                  replace hn168 := in64 hn168 (by omega) (by omega)
                  refine ev_q rfl (q_assign (by conv => lhs; whnf) ?_)
                  refine ev_nil ?_
                  clear hK5
                  refine ⟨(u ++ [(n164, n167)], k - 1, a166, s166), ?_, ?_, ?_⟩
                  · exact ⟨⟨wvD_s hI.1 hl2 (by omega) (by omega), by simp; omega, by simp; omega⟩, by simp; omega⟩
                  · first | omega | (dsimp only; omega)
                  · refine sub_weak ?_ ?_
                    · exact weakH_row (rowEq (by rw [List.map_append]; rfl)) (weakH_box (boxEq (rfl)) rfl (weakH_none _))
                    · refine weakE_upd ?e4 ?r4 (weakE_upd ?e3 ?r3 (weakE_upd ?e0 ?r0 (weakE_junk _ _)))
                      case e0 => first | rfl | exact fI (by omega) | (simp_all)
                      case r0 => intro h hh; simp [refs] at hh; subst hh; rfl
                      case e3 => first | rfl | exact fI (by omega) | (first | rfl | exact ownEq (by simp))
                      case r3 => intro h hh; simp [refs] at hh; subst hh; rfl
                      case e4 => first | rfl | exact fI (by omega) | (simp_all)
                      case r4 => intro h hh; cases hh
          · refine tn_k (listed' := #[true, true, true, true, false, false, false, false, true, true, false, false, false, true, false]) rfl rfl rfl rfl (k_callR [(1000000, 1000000)] (D_spec_l00Src_pick cs _ _ _ hc hb (by omega) (by omega)) rfl (rfl) (rfl) ⟨rfl, trivial⟩ rfl (by rintro ⟨v169, a169, s169⟩ ⟨hx169_0, hx169_1⟩; exact ⟨⟨rfl, rfl, trivial⟩, rfl⟩) rfl rfl ?_)
            rintro ⟨v169, a169, s169⟩ ⟨hx169_0, hx169_1⟩
            have h1u := hI.1.1
            obtain ⟨l, hl⟩ := getL (xs := u) (n := n152) (by omega) (by omega)
            have hl2 : u[u.length - 1]? = some l := by rw [← hl]; congr 1; omega
            have hlb := hI.1.2.1 l (List.mem_of_getElem? hl)
            refine tn_first_q (i := 4) (listed' := #[true, true, true, true, true, false, false, false, true, true, false, false, false, true, false]) rfl rfl (by kernel_rfl) rfl (q_idxO tE44 rfl rfl rfl (by omega) (by omega) rfl ?_)
            refine tn_first_q (i := 5) (listed' := #[true, true, true, true, true, true, false, false, true, true, false, false, false, true, false]) rfl rfl (by kernel_rfl) rfl (q_fieldAddrE fO86_0 rfl rfl ?_)
            refine tn_first_q (i := 6) (listed' := #[true, true, true, true, true, true, true, false, true, true, false, false, false, true, false]) rfl rfl (by kernel_rfl) rfl (q_loadE tA2 rfl rfl (by exact map_get hl) rfl ?_)
            refine tn_first_q (i := 7) (listed' := #[true, true, true, true, true, true, true, true, true, true, false, false, false, true, false]) rfl rfl (by kernel_rfl) rfl (q_int rfl rfl ?_)
            intro n170 hn170
            replace hn170 := in64 hn170 (by omega) (by omega)
            refine tn_first_q (i := 10) (listed' := #[true, true, true, true, true, true, true, true, true, true, true, false, false, true, false]) rfl rfl (by kernel_rfl) rfl (q_int rfl rfl ?_)
            intro n171 hn171
            replace hn171 := in64 hn171 (by omega) (by omega)
            refine tn_first_q (i := 11) (listed' := #[true, true, true, true, true, true, true, true, true, true, true, true, false, true, false]) rfl rfl (by kernel_rfl) rfl (q_int rfl rfl ?_)
            intro n172 hn172
            replace hn172 := in64 hn172 (by omega) (by omega)
            refine tn_step [12] (by kernel_rfl) rfl ?_
            refine ⟨?_, trivial⟩
            · refine tn_k (listed' := #[true, true, true, true, true, true, true, true, true, true, true, true, true, true, false]) rfl rfl rfl rfl (k_build zA86 pl86 (rfl) ?_)
              refine tn_step [14] (by kernel_rfl) rfl ?_
              refine ⟨?_, trivial⟩
              · refine tn_k (listed' := #[true, true, true, true, true, true, true, true, true, true, true, true, true, true, true]) rfl rfl rfl rfl (k_store sz86 rfl (by conv => lhs; whnf) rfl rfl rfl (Nat.le_of_ble_eq_true rfl) rfl ?_)
                refine tn_end (by kernel_rfl) (hK13 _ ?_); clear hK13
                refine good_seq fun K173 hK173 => ?_
                refine good_region rfl ?_
                refine ev_q rfl (q_move (by conv => lhs; whnf) ?_)
                refine ev_k rfl (k_callR [(1000000, 1000000)] (D_spec_l00Src_pick cs _ _ _ hc hb (by omega) (by omega)) rfl (rfl) (rfl) ⟨rfl, trivial⟩ rfl (by rintro ⟨v174, a174, s174⟩ ⟨hx174_0, hx174_1⟩; exact ⟨⟨rfl, rfl, trivial⟩, rfl⟩) rfl rfl ?_)
                rintro ⟨v174, a174, s174⟩ ⟨hx174_0, hx174_1⟩
                refine ev_q rfl (q_int rfl rfl ?_)
                intro n175 hn175
                replace hn175 := in64 hn175 (by omega) (by omega)
                refine ev_q rfl (q_fieldAddrP fO86_1 rfl rfl ?_)
                refine ev_k rfl (k_store sz2 rfl (by conv => lhs; whnf) rfl rfl rfl (Nat.le_of_ble_eq_true rfl) rfl ?_)
                refine ev_nil (hK173 _ ?_); clear hK173
                refine good_region rfl ?_
                refine ev_q rfl (q_move (by conv => lhs; whnf) ?_)
                refine ev_q rfl (q_loadA tA86 rfl rfl rfl ?_)
                refine ev_k rfl (k_lit tE44 zA86 rfl rfl (by decide) (by decide) rfl rfl rfl ?_)
                refine ev_k rfl (k_app tApp44 rfl rfl (by simp) rfl (.inr rfl) (by simp [maxLen]; omega) (by simp; omega) ?_)
                refine ev_q rfl (q_assign (by conv => lhs; whnf) ?_)
                refine ev_nil (hK12 _ ?_); clear hK12
                refine good_region rfl ?_
                refine ev_q rfl (q_move (by conv => lhs; whnf) ?_)
                refine ev_q rfl (q_int rfl rfl ?_)
                intro n176 hn176
                replace hn176 := in64 hn176 (by omega) (by omega)
                refine ev_q rfl (q_assign (by conv => lhs; whnf) ?_)
                refine ev_nil ?_
                clear hK5
                refine ⟨(u ++ [(n172, n175)], k - 1, a174, s174), ?_, ?_, ?_⟩
                · exact ⟨⟨wvD_s hI.1 hl2 (by omega) (by omega), by simp; omega, by simp; omega⟩, by simp; omega⟩
                · first | omega | (dsimp only; omega)
                · refine sub_weak ?_ ?_
                  · exact weakH_row (rowEq (by rw [List.map_append]; rfl)) (weakH_box (boxEq (rfl)) rfl (weakH_none _))
                  · refine weakE_upd ?e4 ?r4 (weakE_upd ?e3 ?r3 (weakE_upd ?e0 ?r0 (weakE_junk _ _)))
                    case e0 => first | rfl | exact fI (by omega) | (simp_all)
                    case r0 => intro h hh; simp [refs] at hh; subst hh; rfl
                    case e3 => first | rfl | exact fI (by omega) | (first | rfl | exact ownEq (by simp))
                    case r3 => intro h hh; simp [refs] at hh; subst hh; rfl
                    case e4 => first | rfl | exact fI (by omega) | (simp_all)
                    case r4 => intro h hh; cases hh
        · refine tn_k (listed' := #[true, true, false, false, false, false, false, false, true, true, false, false, false, true, false]) rfl rfl rfl rfl (k_callR [(1000000, 1000000)] (D_spec_l00Src_pick cs _ _ _ hc hb (by omega) (by omega)) rfl (rfl) (rfl) ⟨rfl, trivial⟩ rfl (by rintro ⟨v177, a177, s177⟩ ⟨hx177_0, hx177_1⟩; exact ⟨⟨rfl, rfl, trivial⟩, rfl⟩) rfl rfl ?_)
          rintro ⟨v177, a177, s177⟩ ⟨hx177_0, hx177_1⟩
          refine tn_first_q (i := 2) (listed' := #[true, true, true, false, false, false, false, false, true, true, false, false, false, true, false]) rfl rfl (by kernel_rfl) rfl (q_len tEs44 rfl ?_)
          intro n178 hn178
          try simp only [List.length_map] at hn178
          refine tn_first_q (i := 3) (listed' := #[true, true, true, true, false, false, false, false, true, true, false, false, false, true, false]) rfl rfl (by kernel_rfl) rfl (q_int rfl rfl ?_)
          intro n179 hn179
          replace hn179 := in64 hn179 (by omega) (by omega)
          have h1u := hI.1.1
          obtain ⟨l, hl⟩ := getL (xs := u) (n := n179) (by omega) (by omega)
          have hl2 : u[u.length - 1]? = some l := by rw [← hl]; congr 1; omega
          have hlb := hI.1.2.1 l (List.mem_of_getElem? hl)
          refine tn_first_q (i := 4) (listed' := #[true, true, true, true, true, false, false, false, true, true, false, false, false, true, false]) rfl rfl (by kernel_rfl) rfl (q_idxO tE44 rfl rfl rfl (by omega) (by omega) rfl ?_)
          refine tn_first_q (i := 5) (listed' := #[true, true, true, true, true, true, false, false, true, true, false, false, false, true, false]) rfl rfl (by kernel_rfl) rfl (q_fieldAddrE fO86_0 rfl rfl ?_)
          refine tn_first_q (i := 6) (listed' := #[true, true, true, true, true, true, true, false, true, true, false, false, false, true, false]) rfl rfl (by kernel_rfl) rfl (q_loadE tA2 rfl rfl (by exact map_get hl) rfl ?_)
          refine tn_first_q (i := 7) (listed' := #[true, true, true, true, true, true, true, true, true, true, false, false, false, true, false]) rfl rfl (by kernel_rfl) rfl (q_int rfl rfl ?_)
          intro n180 hn180
          replace hn180 := in64 hn180 (by omega) (by omega)
          refine tn_first_q (i := 10) (listed' := #[true, true, true, true, true, true, true, true, true, true, true, false, false, true, false]) rfl rfl (by kernel_rfl) rfl (q_int rfl rfl ?_)
          intro n181 hn181
          replace hn181 := in64 hn181 (by omega) (by omega)
          refine tn_first_q (i := 11) (listed' := #[true, true, true, true, true, true, true, true, true, true, true, true, false, true, false]) rfl rfl (by kernel_rfl) rfl (q_int rfl rfl ?_)
          intro n182 hn182
          replace hn182 := in64 hn182 (by omega) (by omega)
          refine tn_step [12] (by kernel_rfl) rfl ?_
          refine ⟨?_, trivial⟩
          · refine tn_k (listed' := #[true, true, true, true, true, true, true, true, true, true, true, true, true, true, false]) rfl rfl rfl rfl (k_build zA86 pl86 (rfl) ?_)
            refine tn_step [14] (by kernel_rfl) rfl ?_
            refine ⟨?_, trivial⟩
            · refine tn_k (listed' := #[true, true, true, true, true, true, true, true, true, true, true, true, true, true, true]) rfl rfl rfl rfl (k_store sz86 rfl (by conv => lhs; whnf) rfl rfl rfl (Nat.le_of_ble_eq_true rfl) rfl ?_)
              refine tn_end (by kernel_rfl) (hK13 _ ?_); clear hK13
              refine good_seq fun K183 hK183 => ?_
              refine good_region rfl ?_
              refine ev_q rfl (q_move (by conv => lhs; whnf) ?_)
              refine ev_k rfl (k_callR [(1000000, 1000000)] (D_spec_l00Src_pick cs _ _ _ hc hb (by omega) (by omega)) rfl (rfl) (rfl) ⟨rfl, trivial⟩ rfl (by rintro ⟨v184, a184, s184⟩ ⟨hx184_0, hx184_1⟩; exact ⟨⟨rfl, rfl, trivial⟩, rfl⟩) rfl rfl ?_)
              rintro ⟨v184, a184, s184⟩ ⟨hx184_0, hx184_1⟩
              refine ev_q rfl (q_int rfl rfl ?_)
              intro n185 hn185
              replace hn185 := in64 hn185 (by omega) (by omega)
              refine ev_q rfl (q_fieldAddrP fO86_1 rfl rfl ?_)
              refine ev_k rfl (k_store sz2 rfl (by conv => lhs; whnf) rfl rfl rfl (Nat.le_of_ble_eq_true rfl) rfl ?_)
              refine ev_nil (hK183 _ ?_); clear hK183
              refine good_region rfl ?_
              refine ev_q rfl (q_move (by conv => lhs; whnf) ?_)
              refine ev_q rfl (q_loadA tA86 rfl rfl rfl ?_)
              refine ev_k rfl (k_lit tE44 zA86 rfl rfl (by decide) (by decide) rfl rfl rfl ?_)
              refine ev_k rfl (k_app tApp44 rfl rfl (by simp) rfl (.inr rfl) (by simp [maxLen]; omega) (by simp; omega) ?_)
              refine ev_q rfl (q_assign (by conv => lhs; whnf) ?_)
              refine ev_nil (hK12 _ ?_); clear hK12
              refine good_region rfl ?_
              refine ev_q rfl (q_move (by conv => lhs; whnf) ?_)
              refine ev_q rfl (q_int rfl rfl ?_)
              intro n186 hn186
              replace hn186 := in64 hn186 (by omega) (by omega)
              refine ev_q rfl (q_assign (by conv => lhs; whnf) ?_)
              refine ev_nil ?_
              clear hK5
              refine ⟨(u ++ [(n182, n185)], k - 1, a184, s184), ?_, ?_, ?_⟩
              · exact ⟨⟨wvD_s hI.1 hl2 (by omega) (by omega), by simp; omega, by simp; omega⟩, by simp; omega⟩
              · first | omega | (dsimp only; omega)
              · refine sub_weak ?_ ?_
                · exact weakH_row (rowEq (by rw [List.map_append]; rfl)) (weakH_box (boxEq (rfl)) rfl (weakH_none _))
                · refine weakE_upd ?e4 ?r4 (weakE_upd ?e3 ?r3 (weakE_upd ?e0 ?r0 (weakE_junk _ _)))
                  case e0 => first | rfl | exact fI (by omega) | (simp_all)
                  case r0 => intro h hh; simp [refs] at hh; subst hh; rfl
                  case e3 => first | rfl | exact fI (by omega) | (first | rfl | exact ownEq (by simp))
                  case r3 => intro h hh; simp [refs] at hh; subst hh; rfl
                  case e4 => first | rfl | exact fI (by omega) | (simp_all)
                  case r4 => intro h hh; cases hh

-- spec.R8Wave
set_option maxRecDepth 20000 in
set_option maxHeartbeats 2000000 in
theorem D_spec_R8Wave_X (cs : List Int) (hc : cs.length ≤ 17592186044416) (hb : byteL cs) : DenXR Tryz.prog 20 [] [.lst 1 (cs.map cb)] (τ := List (Int × Int)) (fun xs => (waveOk xs ∧ wv8 xs)) (fun xs => [(900001, .row 86 2 (xs.map stp))]) (fun xs => .own 900001 xs.length) := by
  refine denXR_of_good Tryz.func20 (by decide) rfl (Nat.le_of_ble_eq_true rfl) (Nat.le_of_ble_eq_true rfl) rfl ?_
  refine good_seq fun K1 hK1 => ?_
  refine good_region rfl ?_
  refine ev_q rfl (q_assign (by conv => lhs; whnf) ?_)
  refine ev_nil (hK1 _ ?_); clear hK1
  refine good_seq fun K2 hK2 => ?_
  refine good_region rfl ?_
  refine ev_q rfl (q_move (by conv => lhs; whnf) ?_)
  refine ev_k rfl (k_callX [(5, 900000)] (D_spec_l00From cs) rfl (rfl) (rfl) trivial ⟨⟨rfl, show (900000 : Nat) < 1000000 by decide⟩, trivial⟩ rfl rfl rfl ?_)
  refine ev_q rfl (q_assign (by conv => lhs; whnf) ?_)
  refine ev_nil (hK2 _ ?_); clear hK2
  refine good_seq fun K3 hK3 => ?_
  refine good_region rfl ?_
  refine ev_q rfl (q_move (by conv => lhs; whnf) ?_)
  refine ev_k rfl (k_callR [(1000000, 900000), (900001, 900001)] (D_spec_l09Draw cs _ _ hc hb (by omega)) rfl (rfl) (rfl) ⟨rfl, trivial⟩ rfl (by rintro ⟨xs4, a4, s4⟩ ⟨hx4_0, hx4_1⟩; exact ⟨⟨rfl, rfl, ⟨⟨rfl, show (900001 : Nat) < 1000000 by decide⟩, trivial⟩⟩, rfl⟩) rfl rfl ?_)
  rintro ⟨xs4, a4, s4⟩ ⟨hx4_0, hx4_1⟩
  have hi1 := hx4_0
  refine ev_q rfl (q_assign (by conv => lhs; whnf) ?_)
  refine ev_nil (hK3 _ ?_); clear hK3
  refine good_ret ?_
  repeat (first | refine thenQ_ret ?_ | refine blockQ_ret ?_)
  refine ex_1 (v := xs4) ?hF ?hR
  case hF =>
    refine fx_tmp rfl (by conv => lhs; whnf) ?_
    exact ⟨_, conv_eq (by first | rfl | (rw [e]; done) | (rw [e]; rfl) | exact ownEq (by first | omega | simp_all)), weakH_row (rowEq (by first | rfl | (rw [e]; done) | (rw [e]; rfl) | (simp_all; done))) (weakH_none _), refsIn_ok rfl⟩
  case hR =>
    exact hi1
theorem D_spec_R8Wave (cs : List Int) (hc : cs.length ≤ 17592186044416) (hb : byteL cs) : DenR Tryz.prog 20 [.lst 1 (cs.map cb)] (τ := List (Int × Int)) (fun xs => (waveOk xs ∧ wv8 xs)) (fun xs => .lst 2 (xs.map stp)) :=
  denR_of_denXR (D_spec_R8Wave_X cs hc hb) (by rintro xs _; change (some (.lst 2 (List.take xs.length (xs.map stp))) : Option AV) = some (.lst 2 (xs.map stp)); simp only [takeMap])

-- laws.r8Long
set_option maxRecDepth 20000 in
set_option maxHeartbeats 2000000 in
theorem D_laws_r8Long (cs ds : List Int)  : Den Tryz.prog 19 [.lst 1 (cs.map cb), .lst 1 (ds.map cb)] (.s (.bool (decide ((cs.length : Int) > 1048576 ∨ (ds.length : Int) > 1048576)))) := by
  refine den_of_good Tryz.func19 (by decide) rfl (Nat.le_of_ble_eq_true rfl) (Nat.le_of_ble_eq_true rfl) ?_
  refine good_seq fun K1 hK1 => ?_
  refine good_region rfl ?_
  refine ev_q rfl (q_assign (by conv => lhs; whnf) ?_)
  refine ev_nil (hK1 _ ?_); clear hK1
  refine good_seq fun K2 hK2 => ?_
  refine good_region rfl ?_
  refine ev_q rfl (q_move (by conv => lhs; whnf) ?_)
  refine ev_q rfl (q_len tEs22 rfl ?_)
  intro n3 hn3
  try simp only [List.length_map] at hn3
  refine ev_q rfl (q_int rfl rfl ?_)
  intro b4 hb4; cases b4
  · replace hb4 := dF hb4
    refine ev_q rfl (q_move (by conv => lhs; whnf) ?_)
    refine ev_q rfl (q_move (by conv => lhs; whnf) ?_)
    refine ev_q rfl (q_len tEs22 rfl ?_)
    intro n5 hn5
    try simp only [List.length_map] at hn5
    refine ev_q rfl (q_int rfl rfl ?_)
    intro b6 hb6; cases b6
    · replace hb6 := dF hb6
      refine ev_q rfl (q_pickF rfl (by conv => lhs; whnf) ?_)
      refine ev_q rfl (q_assign (by conv => lhs; whnf) ?_)
      refine ev_nil (hK2 _ ?_); clear hK2
      refine good_ret ?_
      repeat (first | refine thenQ_ret ?_ | refine blockQ_ret ?_)
      refine ret_tmp (st := _) rfl (by conv => lhs; whnf) rfl ?_
      first | exact fT (by omega) | exact fF (by omega)
    · replace hb6 := dT hb6
      refine ev_q rfl (q_pickF rfl (by conv => lhs; whnf) ?_)
      refine ev_q rfl (q_assign (by conv => lhs; whnf) ?_)
      refine ev_nil (hK2 _ ?_); clear hK2
      refine good_ret ?_
      repeat (first | refine thenQ_ret ?_ | refine blockQ_ret ?_)
      refine ret_tmp (st := _) rfl (by conv => lhs; whnf) rfl ?_
      first | exact fT (by omega) | exact fF (by omega)
  · replace hb4 := dT hb4
    refine ev_q rfl (q_move (by conv => lhs; whnf) ?_)
    refine ev_skip rfl ?_
    refine ev_skip rfl ?_
    refine ev_skip rfl ?_
    refine ev_q rfl (q_pickT rfl (by conv => lhs; whnf) ?_)
    refine ev_q rfl (q_assign (by conv => lhs; whnf) ?_)
    refine ev_nil (hK2 _ ?_); clear hK2
    refine good_ret ?_
    repeat (first | refine thenQ_ret ?_ | refine blockQ_ret ?_)
    refine ret_tmp (st := _) rfl (by conv => lhs; whnf) rfl ?_
    first | exact fT (by omega) | exact fF (by omega)

-- laws.r8At
set_option maxRecDepth 20000 in
set_option maxHeartbeats 2000000 in
theorem D_laws_r8At (cs : List Int) (k : Int) (hc : cs.length ≤ 17592186044416) (hb : byteL cs) (hk : 0 ≤ k ∧ k ≤ 1000) : Den Tryz.prog 57 [.lst 1 (cs.map cb), .s (.int .i64 k), .s (.int .i64 256)] (.s (.int .i64 (r8a cs k 256))) := by
  refine den_of_good Tryz.func57 (by decide) rfl (Nat.le_of_ble_eq_true rfl) (Nat.le_of_ble_eq_true rfl) ?_
  refine good_seq fun K1 hK1 => ?_
  refine good_region rfl ?_
  refine ev_q rfl (q_assign (by conv => lhs; whnf) ?_)
  refine ev_nil (hK1 _ ?_); clear hK1
  refine good_seq fun K2 hK2 => ?_
  refine good_seq fun K3 hK3 => ?_
  refine good_region rfl ?_
  refine ev_q rfl (q_move (by conv => lhs; whnf) ?_)
  refine ev_q rfl (q_int rfl rfl ?_)
  intro b4 hb4; cases b4
  · replace hb4 := dF hb4
    refine ev_q rfl (q_move (by conv => lhs; whnf) ?_)
    refine ev_q rfl (q_move (by conv => lhs; whnf) ?_)
    refine ev_q rfl (q_move (by conv => lhs; whnf) ?_)
    refine ev_q rfl (q_len tEs22 rfl ?_)
    intro n5 hn5
    try simp only [List.length_map] at hn5
    refine ev_q rfl (q_int rfl rfl ?_)
    intro b6 hb6; cases b6
    · replace hb6 := dF hb6
      obtain ⟨q, hq⟩ := getL (xs := cs) (n := k) (by omega) (by omega)
      have hqb := hb _ (List.mem_of_getElem? hq)
      have e8 : r8a cs k 256 = q % 256 := by unfold r8a; rw [if_neg (by omega), List.getD, hq]; rfl
      refine ev_q rfl (q_pickF rfl (by conv => lhs; whnf) ?_)
      refine ev_nil (hK3 _ ?_); clear hK3
      refine good_condF rfl ?_
      refine good_skip (hK2 _ ?_); clear hK2
      refine good_seq fun K7 hK7 => ?_
      refine good_region rfl ?_
      refine ev_q rfl (q_move (by conv => lhs; whnf) ?_)
      refine ev_q rfl (q_move (by conv => lhs; whnf) ?_)
      refine ev_q rfl (q_idx tE22 rfl rfl (by omega) (by exact map_get hq) rfl ?_)
      refine ev_q rfl (q_load tA5 rfl ?_)
      refine ev_q rfl (q_conv tK5 tK2 rfl ?_)
      intro n8 hn8
      replace hn8 := in64 hn8 (by omega) (by omega)
      refine ev_q rfl (q_move (by conv => lhs; whnf) ?_)
      refine ev_q rfl (q_int rfl rfl ⟨by omega, ?_⟩)
      intro n9 hn9
      replace hn9 := remE hn9 (by omega)
      rw [hn8] at hn9
      refine ev_q rfl (q_assign (by conv => lhs; whnf) ?_)
      refine ev_nil (hK7 _ ?_); clear hK7
      refine good_ret ?_
      repeat (first | refine thenQ_ret ?_ | refine blockQ_ret ?_)
      refine ret_tmp (st := _) rfl (by conv => lhs; whnf) rfl ?_
      first | exact fI e8.symm | exact fI (by rw [e8]; assumption) | exact fI (by rw [e8]; omega) | (exfalso; omega)
    · replace hb6 := dT hb6
      have e8 : r8a cs k 256 = 0 := if_pos (by omega)
      refine ev_q rfl (q_pickF rfl (by conv => lhs; whnf) ?_)
      refine ev_nil (hK3 _ ?_); clear hK3
      refine good_condT rfl ?_
      refine good_seq fun K10 hK10 => ?_
      refine good_region rfl ?_
      refine ev_q rfl (q_assign (by conv => lhs; whnf) ?_)
      refine ev_nil (hK10 _ ?_); clear hK10
      refine good_ret ?_
      repeat (first | refine thenQ_ret ?_ | refine blockQ_ret ?_)
      refine ret_tmp (st := _) rfl (by conv => lhs; whnf) rfl ?_
      clear hK2
      first | exact fI e8.symm | exact fI (by rw [e8]; assumption) | exact fI (by rw [e8]; omega) | (exfalso; omega)
  · replace hb4 := dT hb4
    refine ev_q rfl (q_move (by conv => lhs; whnf) ?_)
    refine ev_skip rfl ?_
    refine ev_skip rfl ?_
    refine ev_skip rfl ?_
    refine ev_skip rfl ?_
    refine ev_q rfl (q_pickT rfl (by conv => lhs; whnf) ?_)
    refine ev_nil (hK3 _ ?_); clear hK3
    refine good_condT rfl ?_
    refine good_seq fun K11 hK11 => ?_
    refine good_region rfl ?_
    refine ev_q rfl (q_assign (by conv => lhs; whnf) ?_)
    refine ev_nil (hK11 _ ?_); clear hK11
    refine good_ret ?_
    repeat (first | refine thenQ_ret ?_ | refine blockQ_ret ?_)
    refine ret_tmp (st := _) rfl (by conv => lhs; whnf) rfl ?_
    clear hK2
    first | exact fI e8.symm | exact fI (by rw [e8]; assumption) | exact fI (by rw [e8]; omega) | (exfalso; omega)

-- laws.r8Wide
set_option maxRecDepth 20000 in
set_option maxHeartbeats 2000000 in
theorem D_laws_r8Wide (cs : List Int) (k n : Int) (hc : cs.length ≤ 17592186044416) (hb : byteL cs) (hk : 0 ≤ k ∧ k ≤ 100) (hn : 1 ≤ n ∧ n ≤ 100000) : Den Tryz.prog 21 [.lst 1 (cs.map cb), .s (.int .i64 k), .s (.int .i64 n)] (.s (.int .i64 (r8w cs k n))) := by
  have b1 := r8a_bd (cs := cs) (k := k)
  have b2 := r8a_bd (cs := cs) (k := k + 1)
  refine den_of_good Tryz.func21 (by decide) rfl (Nat.le_of_ble_eq_true rfl) (Nat.le_of_ble_eq_true rfl) ?_
  refine good_seq fun K1 hK1 => ?_
  refine good_region rfl ?_
  refine ev_q rfl (q_assign (by conv => lhs; whnf) ?_)
  refine ev_nil (hK1 _ ?_); clear hK1
  refine good_seq fun K2 hK2 => ?_
  refine good_region rfl ?_
  refine ev_q rfl (q_move (by conv => lhs; whnf) ?_)
  refine ev_q rfl (q_move (by conv => lhs; whnf) ?_)
  refine ev_q rfl (q_callI rfl rfl (rfl) (D_laws_r8At cs k hc hb (by omega)) ?_)
  intro n3 hn3
  refine ev_q rfl (q_int rfl rfl ?_)
  intro n4 hn4
  replace hn4 := in64 hn4 (by omega) (by omega)
  refine ev_q rfl (q_move (by conv => lhs; whnf) ?_)
  refine ev_q rfl (q_move (by conv => lhs; whnf) ?_)
  refine ev_q rfl (q_int rfl rfl ?_)
  intro n5 hn5
  replace hn5 := in64 hn5 (by omega) (by omega)
  refine ev_q rfl (q_callI rfl rfl (by change ([.lst 1 (cs.map cb), .s (.int .i64 (n5)), .s (.int .i64 256)] : List AV) = _; rw [hn5]) (D_laws_r8At cs (k + 1) hc hb (by omega)) ?_)
  intro n6 hn6
  refine ev_q rfl (q_int rfl rfl ?_)
  intro n7 hn7
  replace hn7 := in64 hn7 (by omega) (by omega)
  refine ev_q rfl (q_move (by conv => lhs; whnf) ?_)
  refine ev_q rfl (q_int rfl rfl ⟨by omega, ?_⟩)
  intro n8 hn8
  replace hn8 := remE hn8 (by omega)
  refine ev_q rfl (q_assign (by conv => lhs; whnf) ?_)
  refine ev_nil (hK2 _ ?_); clear hK2
  refine good_ret ?_
  repeat (first | refine thenQ_ret ?_ | refine blockQ_ret ?_)
  refine ret_tmp (st := _) rfl (by conv => lhs; whnf) rfl ?_
  exact fI (by unfold r8w; rw [hn8]; congr 1; omega)

end Go.Proofs.YtodghlkodiidaaaGreatDoor.DFnWaves
