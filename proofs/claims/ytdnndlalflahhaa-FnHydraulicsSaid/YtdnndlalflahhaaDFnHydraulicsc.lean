/- Walks through the functions that FnHydraulics reaches: what each answers. -/
import Derived.Test.YtdnndlalflahhaaDFnHydraulicsb
set_option linter.unusedVariables false
set_option linter.unusedSimpArgs false
set_option maxRecDepth 20000
set_option maxHeartbeats 2000000
namespace Go.Proofs.Ytdnndlalflahhaa.DFnHydraulics
open Go Go.RowKit Go.Proofs Go.Proofs.Ytdnndlalflahhaa Go.Proofs.Ytdnndlalflahhaa.Ev
-- (impl.Network).treeFlows
theorem D_impl_Network_treeFlows (ns : List Int) (ps : List Pi) (s : Int) (ds : List Int) (hn : ns.length ≤ 17592186044416) (hp : ps.length ≤ 2513169434843) (hz : idSz ps) (ok : netOk ns ps) (hs : 0 ≤ s ∧ s < ns.length) (htr : treeP ns ps) (hdm : dmP ns ds) : Den Try.prog 37 [.agg [.lst 1 (ns.map ci), .lst 6 (ps.map piA)], .s (.int .i64 s), .lst 1 (ds.map ci)] (.lst 1 ((flL (ps.map pe) (smB (waysF (ps.map pe) ns.length s.toNat).2 ds) (waysF (ps.map pe) ns.length s.toNat).2).map ci)) := by
  have h16 := ok.1.1
  have h20 := ok.1.2.2
  have hdl := hdm.1
  have hwl := ways_le (s := s.toNat) (esF_lt ok) (by omega)
  refine den_of_goodW (n := 5) Try.func37 (by decide) rfl (Nat.le_of_ble_eq_true rfl) (Nat.le_of_ble_eq_true rfl) ?_
  refine goodW_seq fun K1 hK1 => ?_
  refine gr rfl ?_
  refine ev_n rfl (s_boxR (by conv=>lhs;whnf) rfl rfl rfl ?_)
  refine ea rfl (by conv=>lhs;whnf) ?_
  refine ev_nil (hK1 _ ?_); clear hK1
  refine goodW_join ({ env := upd (upd (upd (upd ((fun _ => .junk)) 1 (.s (.int .i64 s))) 3 (.rp [.lst 1 (ns.map ci), .lst 6 (ps.map piA)])) 7 (.ptr 7 0)) 8 (.ptr 8 0), H := upd (upd (upd (upd ((fun _ => none)) 16 (some (.row 2 1 ((tfA ps ds (waysF (ps.map pe) ns.length s.toNat).2 []).2.map ci)))) 900001 (some (.row 2 1 ((tfA ps ds (waysF (ps.map pe) ns.length s.toNat).2 []).1.map ci)))) 8 (some (.box 24 [.own 16 ps.length]))) 7 (some (.box 24 [.own 900001 ds.length])) }) ?_ ?_
  · refine good_any 10 (listed := #[false, false, false, false, false, false, false, false, false, false]) rfl rfl hmix rfl ?_
    refine tn_first_q (i := 0) (listed' := #[true, false, false, false, false, false, false, false, false, false]) rfl rfl (by kernel_rfl) rfl (q_move (by conv=>lhs;whnf) ?_)
    refine tn_first_q (i := 2) (listed' := #[true, false, true, false, false, false, false, false, false, false]) rfl rfl (by kernel_rfl) rfl (q_fieldAddr fO27_1 rfl rfl ?_)
    refine tn_firstS_q (i := 3) (listed' := #[true, false, true, true, false, false, false, false, false, false]) rfl rfl (by kernel_rfl) rfl rfl (q_load tA25 rfl ?_)
    refine tn_step [1, 4, 6, 7] (by kernel_rfl) rfl ?_
    refine ⟨?_, ?_, ?_, ?_, trivial⟩
    · refine tn_k (listed' := #[true, true, true, true, false, false, false, false, false, false]) rfl rfl rfl rfl (k_callX [(7, 900001)] (D_slices_Clone_int64_int64_X ds (by omega)) rfl (rfl) (rfl) trivial ⟨⟨rfl, show (900001 : Nat) < 1000000 by decide⟩, trivial⟩ rfl rfl rfl ?_)
      refine tn_step [4, 6, 7] (by kernel_rfl) rfl ?_
      refine ⟨?_, ?_, ?_, trivial⟩
      · refine tn_q (listed' := #[true, true, true, true, true, false, false, false, false, false]) rfl rfl rfl (q_len tEs25 rfl ?_)
        intro n3 hn3
        try simp only [List.length_map] at hn3
        refine tn_step [5, 6, 7] (by kernel_rfl) rfl ?_
        refine ⟨?_, ?_, ?_, trivial⟩
        · refine tn_k (listed' := #[true, true, true, true, true, true, false, false, false, false]) rfl rfl rfl rfl (k_make tE24 rfl rfl zA2 tBy2 rfl (by omega) (by omega) (by omega) rfl (by show _ = ps.length; omega) ?_)
          refine tn_step [6, 7] (by kernel_rfl) rfl ?_
          refine ⟨?_, ?_, trivial⟩
          · refine tn_k (listed' := #[true, true, true, true, true, true, true, false, false, false]) rfl rfl rfl rfl (k_alloc zA24 rfl ?_)
            refine tn_step [7] (by kernel_rfl) rfl ?_
            refine ⟨?_, trivial⟩
            refine tn_k (listed' := #[true, true, true, true, true, true, true, true, false, false]) rfl rfl rfl rfl (k_alloc zA24 rfl ?_)
            refine tn_step [8] (by kernel_rfl) rfl ?_
            refine ⟨?_, trivial⟩
            refine tn_k (listed' := #[true, true, true, true, true, true, true, true, true, false]) rfl rfl rfl rfl (k_store sz24 rfl (by conv=>lhs;whnf) rfl rfl rfl (Nat.le_of_ble_eq_true rfl) rfl ?_)
            refine tn_step [9] (by kernel_rfl) rfl ?_
            refine ⟨?_, trivial⟩
            refine tn_k (listed' := #[true, true, true, true, true, true, true, true, true, true]) rfl rfl rfl rfl (k_store sz24 rfl (by conv=>lhs;whnf) rfl rfl rfl (Nat.le_of_ble_eq_true rfl) rfl ?_)
            refine tn_end (by kernel_rfl) ?_
            refine sub_weak ?_ ?_
            · exact weakH_boxR (boxEq (rfl)) rfl (weakH_boxR (boxEq (rfl)) rfl (weakH_row (rowEq (rfl)) (weakH_row (rowEq (by first | rfl | (show List.replicate _ _ = List.map ci (List.replicate ps.length 0); rw [List.map_replicate]; rfl))) (weakH_none _))))
            · refine weakE_upd ?e8 ?r8 (weakE_upd ?e7 ?r7 (weakE_upd ?e3 ?r3 (weakE_upd ?e1 ?r1 (weakE_junk _ _))))
              case e1 => first | rfl | exact fI (by omega) | (rfl)
              case r1 => intro h hh; cases hh
              case e3 => first | rfl | exact fI (by omega) | (rfl)
              case r3 => intro h hh; cases hh
              case e7 => first | rfl | exact fI (by omega) | (rfl)
              case r7 => intro h hh; simp [refs] at hh; subst hh; rfl
              case e8 => first | rfl | exact fI (by omega) | (rfl)
              case r8 => intro h hh; simp [refs] at hh; subst hh; rfl
          · refine tn_k (listed' := #[true, true, true, true, true, true, false, true, false, false]) rfl rfl rfl rfl (k_alloc zA24 rfl ?_)
            refine tn_step [6] (by kernel_rfl) rfl ?_
            refine ⟨?_, trivial⟩
            refine tn_k (listed' := #[true, true, true, true, true, true, true, true, false, false]) rfl rfl rfl rfl (k_alloc zA24 rfl ?_)
            refine tn_step [8] (by kernel_rfl) rfl ?_
            refine ⟨?_, trivial⟩
            refine tn_k (listed' := #[true, true, true, true, true, true, true, true, true, false]) rfl rfl rfl rfl (k_store sz24 rfl (by conv=>lhs;whnf) rfl rfl rfl (Nat.le_of_ble_eq_true rfl) rfl ?_)
            refine tn_step [9] (by kernel_rfl) rfl ?_
            refine ⟨?_, trivial⟩
            refine tn_k (listed' := #[true, true, true, true, true, true, true, true, true, true]) rfl rfl rfl rfl (k_store sz24 rfl (by conv=>lhs;whnf) rfl rfl rfl (Nat.le_of_ble_eq_true rfl) rfl ?_)
            refine tn_end (by kernel_rfl) ?_
            refine sub_weak ?_ ?_
            · exact weakH_boxR (boxEq (rfl)) rfl (weakH_boxR (boxEq (rfl)) rfl (weakH_row (rowEq (rfl)) (weakH_row (rowEq (by first | rfl | (show List.replicate _ _ = List.map ci (List.replicate ps.length 0); rw [List.map_replicate]; rfl))) (weakH_none _))))
            · refine weakE_upd ?e8 ?r8 (weakE_upd ?e7 ?r7 (weakE_upd ?e3 ?r3 (weakE_upd ?e1 ?r1 (weakE_junk _ _))))
              case e1 => first | rfl | exact fI (by omega) | (rfl)
              case r1 => intro h hh; cases hh
              case e3 => first | rfl | exact fI (by omega) | (rfl)
              case r3 => intro h hh; cases hh
              case e7 => first | rfl | exact fI (by omega) | (rfl)
              case r7 => intro h hh; simp [refs] at hh; subst hh; rfl
              case e8 => first | rfl | exact fI (by omega) | (rfl)
              case r8 => intro h hh; simp [refs] at hh; subst hh; rfl
        · refine tn_k (listed' := #[true, true, true, true, true, false, true, false, false, false]) rfl rfl rfl rfl (k_alloc zA24 rfl ?_)
          refine tn_step [5, 7] (by kernel_rfl) rfl ?_
          refine ⟨?_, ?_, trivial⟩
          · refine tn_k (listed' := #[true, true, true, true, true, true, true, false, false, false]) rfl rfl rfl rfl (k_make tE24 rfl rfl zA2 tBy2 rfl (by omega) (by omega) (by omega) rfl (by show _ = ps.length; omega) ?_)
            refine tn_step [7] (by kernel_rfl) rfl ?_
            refine ⟨?_, trivial⟩
            refine tn_k (listed' := #[true, true, true, true, true, true, true, true, false, false]) rfl rfl rfl rfl (k_alloc zA24 rfl ?_)
            refine tn_step [8] (by kernel_rfl) rfl ?_
            refine ⟨?_, trivial⟩
            refine tn_k (listed' := #[true, true, true, true, true, true, true, true, true, false]) rfl rfl rfl rfl (k_store sz24 rfl (by conv=>lhs;whnf) rfl rfl rfl (Nat.le_of_ble_eq_true rfl) rfl ?_)
            refine tn_step [9] (by kernel_rfl) rfl ?_
            refine ⟨?_, trivial⟩
            refine tn_k (listed' := #[true, true, true, true, true, true, true, true, true, true]) rfl rfl rfl rfl (k_store sz24 rfl (by conv=>lhs;whnf) rfl rfl rfl (Nat.le_of_ble_eq_true rfl) rfl ?_)
            refine tn_end (by kernel_rfl) ?_
            refine sub_weak ?_ ?_
            · exact weakH_boxR (boxEq (rfl)) rfl (weakH_boxR (boxEq (rfl)) rfl (weakH_row (rowEq (rfl)) (weakH_row (rowEq (by first | rfl | (show List.replicate _ _ = List.map ci (List.replicate ps.length 0); rw [List.map_replicate]; rfl))) (weakH_none _))))
            · refine weakE_upd ?e8 ?r8 (weakE_upd ?e7 ?r7 (weakE_upd ?e3 ?r3 (weakE_upd ?e1 ?r1 (weakE_junk _ _))))
              case e1 => first | rfl | exact fI (by omega) | (rfl)
              case r1 => intro h hh; cases hh
              case e3 => first | rfl | exact fI (by omega) | (rfl)
              case r3 => intro h hh; cases hh
              case e7 => first | rfl | exact fI (by omega) | (rfl)
              case r7 => intro h hh; simp [refs] at hh; subst hh; rfl
              case e8 => first | rfl | exact fI (by omega) | (rfl)
              case r8 => intro h hh; simp [refs] at hh; subst hh; rfl
          · refine tn_k (listed' := #[true, true, true, true, true, false, true, true, false, false]) rfl rfl rfl rfl (k_alloc zA24 rfl ?_)
            refine tn_step [5, 8] (by kernel_rfl) rfl ?_
            refine ⟨?_, ?_, trivial⟩
            · refine tn_k (listed' := #[true, true, true, true, true, true, true, true, false, false]) rfl rfl rfl rfl (k_make tE24 rfl rfl zA2 tBy2 rfl (by omega) (by omega) (by omega) rfl (by show _ = ps.length; omega) ?_)
              refine tn_step [8] (by kernel_rfl) rfl ?_
              refine ⟨?_, trivial⟩
              refine tn_k (listed' := #[true, true, true, true, true, true, true, true, true, false]) rfl rfl rfl rfl (k_store sz24 rfl (by conv=>lhs;whnf) rfl rfl rfl (Nat.le_of_ble_eq_true rfl) rfl ?_)
              refine tn_step [9] (by kernel_rfl) rfl ?_
              refine ⟨?_, trivial⟩
              refine tn_k (listed' := #[true, true, true, true, true, true, true, true, true, true]) rfl rfl rfl rfl (k_store sz24 rfl (by conv=>lhs;whnf) rfl rfl rfl (Nat.le_of_ble_eq_true rfl) rfl ?_)
              refine tn_end (by kernel_rfl) ?_
              refine sub_weak ?_ ?_
              · exact weakH_boxR (boxEq (rfl)) rfl (weakH_boxR (boxEq (rfl)) rfl (weakH_row (rowEq (rfl)) (weakH_row (rowEq (by first | rfl | (show List.replicate _ _ = List.map ci (List.replicate ps.length 0); rw [List.map_replicate]; rfl))) (weakH_none _))))
              · refine weakE_upd ?e8 ?r8 (weakE_upd ?e7 ?r7 (weakE_upd ?e3 ?r3 (weakE_upd ?e1 ?r1 (weakE_junk _ _))))
                case e1 => first | rfl | exact fI (by omega) | (rfl)
                case r1 => intro h hh; cases hh
                case e3 => first | rfl | exact fI (by omega) | (rfl)
                case r3 => intro h hh; cases hh
                case e7 => first | rfl | exact fI (by omega) | (rfl)
                case r7 => intro h hh; simp [refs] at hh; subst hh; rfl
                case e8 => first | rfl | exact fI (by omega) | (rfl)
                case r8 => intro h hh; simp [refs] at hh; subst hh; rfl
            · refine tn_k (listed' := #[true, true, true, true, true, false, true, true, true, false]) rfl rfl rfl rfl (k_store sz24 rfl (by conv=>lhs;whnf) rfl rfl rfl (Nat.le_of_ble_eq_true rfl) rfl ?_)
              refine tn_step [5] (by kernel_rfl) rfl ?_
              refine ⟨?_, trivial⟩
              refine tn_k (listed' := #[true, true, true, true, true, true, true, true, true, false]) rfl rfl rfl rfl (k_make tE24 rfl rfl zA2 tBy2 rfl (by omega) (by omega) (by omega) rfl (by show _ = ps.length; omega) ?_)
              refine tn_step [9] (by kernel_rfl) rfl ?_
              refine ⟨?_, trivial⟩
              refine tn_k (listed' := #[true, true, true, true, true, true, true, true, true, true]) rfl rfl rfl rfl (k_store sz24 rfl (by conv=>lhs;whnf) rfl rfl rfl (Nat.le_of_ble_eq_true rfl) rfl ?_)
              refine tn_end (by kernel_rfl) ?_
              refine sub_weak ?_ ?_
              · exact weakH_boxR (boxEq (rfl)) rfl (weakH_boxR (boxEq (rfl)) rfl (weakH_row (rowEq (rfl)) (weakH_row (rowEq (by first | rfl | (show List.replicate _ _ = List.map ci (List.replicate ps.length 0); rw [List.map_replicate]; rfl))) (weakH_none _))))
              · refine weakE_upd ?e8 ?r8 (weakE_upd ?e7 ?r7 (weakE_upd ?e3 ?r3 (weakE_upd ?e1 ?r1 (weakE_junk _ _))))
                case e1 => first | rfl | exact fI (by omega) | (rfl)
                case r1 => intro h hh; cases hh
                case e3 => first | rfl | exact fI (by omega) | (rfl)
                case r3 => intro h hh; cases hh
                case e7 => first | rfl | exact fI (by omega) | (rfl)
                case r7 => intro h hh; simp [refs] at hh; subst hh; rfl
                case e8 => first | rfl | exact fI (by omega) | (rfl)
                case r8 => intro h hh; simp [refs] at hh; subst hh; rfl
        · refine tn_k (listed' := #[true, true, true, true, true, false, false, true, false, false]) rfl rfl rfl rfl (k_alloc zA24 rfl ?_)
          refine tn_step [5, 6] (by kernel_rfl) rfl ?_
          refine ⟨?_, ?_, trivial⟩
          · refine tn_k (listed' := #[true, true, true, true, true, true, false, true, false, false]) rfl rfl rfl rfl (k_make tE24 rfl rfl zA2 tBy2 rfl (by omega) (by omega) (by omega) rfl (by show _ = ps.length; omega) ?_)
            refine tn_step [6] (by kernel_rfl) rfl ?_
            refine ⟨?_, trivial⟩
            refine tn_k (listed' := #[true, true, true, true, true, true, true, true, false, false]) rfl rfl rfl rfl (k_alloc zA24 rfl ?_)
            refine tn_step [8] (by kernel_rfl) rfl ?_
            refine ⟨?_, trivial⟩
            refine tn_k (listed' := #[true, true, true, true, true, true, true, true, true, false]) rfl rfl rfl rfl (k_store sz24 rfl (by conv=>lhs;whnf) rfl rfl rfl (Nat.le_of_ble_eq_true rfl) rfl ?_)
            refine tn_step [9] (by kernel_rfl) rfl ?_
            refine ⟨?_, trivial⟩
            refine tn_k (listed' := #[true, true, true, true, true, true, true, true, true, true]) rfl rfl rfl rfl (k_store sz24 rfl (by conv=>lhs;whnf) rfl rfl rfl (Nat.le_of_ble_eq_true rfl) rfl ?_)
            refine tn_end (by kernel_rfl) ?_
            refine sub_weak ?_ ?_
            · exact weakH_boxR (boxEq (rfl)) rfl (weakH_boxR (boxEq (rfl)) rfl (weakH_row (rowEq (rfl)) (weakH_row (rowEq (by first | rfl | (show List.replicate _ _ = List.map ci (List.replicate ps.length 0); rw [List.map_replicate]; rfl))) (weakH_none _))))
            · refine weakE_upd ?e8 ?r8 (weakE_upd ?e7 ?r7 (weakE_upd ?e3 ?r3 (weakE_upd ?e1 ?r1 (weakE_junk _ _))))
              case e1 => first | rfl | exact fI (by omega) | (rfl)
              case r1 => intro h hh; cases hh
              case e3 => first | rfl | exact fI (by omega) | (rfl)
              case r3 => intro h hh; cases hh
              case e7 => first | rfl | exact fI (by omega) | (rfl)
              case r7 => intro h hh; simp [refs] at hh; subst hh; rfl
              case e8 => first | rfl | exact fI (by omega) | (rfl)
              case r8 => intro h hh; simp [refs] at hh; subst hh; rfl
          · refine tn_k (listed' := #[true, true, true, true, true, false, true, true, false, false]) rfl rfl rfl rfl (k_alloc zA24 rfl ?_)
            refine tn_step [5, 8] (by kernel_rfl) rfl ?_
            refine ⟨?_, ?_, trivial⟩
            · refine tn_k (listed' := #[true, true, true, true, true, true, true, true, false, false]) rfl rfl rfl rfl (k_make tE24 rfl rfl zA2 tBy2 rfl (by omega) (by omega) (by omega) rfl (by show _ = ps.length; omega) ?_)
              refine tn_step [8] (by kernel_rfl) rfl ?_
              refine ⟨?_, trivial⟩
              refine tn_k (listed' := #[true, true, true, true, true, true, true, true, true, false]) rfl rfl rfl rfl (k_store sz24 rfl (by conv=>lhs;whnf) rfl rfl rfl (Nat.le_of_ble_eq_true rfl) rfl ?_)
              refine tn_step [9] (by kernel_rfl) rfl ?_
              refine ⟨?_, trivial⟩
              refine tn_k (listed' := #[true, true, true, true, true, true, true, true, true, true]) rfl rfl rfl rfl (k_store sz24 rfl (by conv=>lhs;whnf) rfl rfl rfl (Nat.le_of_ble_eq_true rfl) rfl ?_)
              refine tn_end (by kernel_rfl) ?_
              refine sub_weak ?_ ?_
              · exact weakH_boxR (boxEq (rfl)) rfl (weakH_boxR (boxEq (rfl)) rfl (weakH_row (rowEq (rfl)) (weakH_row (rowEq (by first | rfl | (show List.replicate _ _ = List.map ci (List.replicate ps.length 0); rw [List.map_replicate]; rfl))) (weakH_none _))))
              · refine weakE_upd ?e8 ?r8 (weakE_upd ?e7 ?r7 (weakE_upd ?e3 ?r3 (weakE_upd ?e1 ?r1 (weakE_junk _ _))))
                case e1 => first | rfl | exact fI (by omega) | (rfl)
                case r1 => intro h hh; cases hh
                case e3 => first | rfl | exact fI (by omega) | (rfl)
                case r3 => intro h hh; cases hh
                case e7 => first | rfl | exact fI (by omega) | (rfl)
                case r7 => intro h hh; simp [refs] at hh; subst hh; rfl
                case e8 => first | rfl | exact fI (by omega) | (rfl)
                case r8 => intro h hh; simp [refs] at hh; subst hh; rfl
            · refine tn_k (listed' := #[true, true, true, true, true, false, true, true, true, false]) rfl rfl rfl rfl (k_store sz24 rfl (by conv=>lhs;whnf) rfl rfl rfl (Nat.le_of_ble_eq_true rfl) rfl ?_)
              refine tn_step [5] (by kernel_rfl) rfl ?_
              refine ⟨?_, trivial⟩
              refine tn_k (listed' := #[true, true, true, true, true, true, true, true, true, false]) rfl rfl rfl rfl (k_make tE24 rfl rfl zA2 tBy2 rfl (by omega) (by omega) (by omega) rfl (by show _ = ps.length; omega) ?_)
              refine tn_step [9] (by kernel_rfl) rfl ?_
              refine ⟨?_, trivial⟩
              refine tn_k (listed' := #[true, true, true, true, true, true, true, true, true, true]) rfl rfl rfl rfl (k_store sz24 rfl (by conv=>lhs;whnf) rfl rfl rfl (Nat.le_of_ble_eq_true rfl) rfl ?_)
              refine tn_end (by kernel_rfl) ?_
              refine sub_weak ?_ ?_
              · exact weakH_boxR (boxEq (rfl)) rfl (weakH_boxR (boxEq (rfl)) rfl (weakH_row (rowEq (rfl)) (weakH_row (rowEq (by first | rfl | (show List.replicate _ _ = List.map ci (List.replicate ps.length 0); rw [List.map_replicate]; rfl))) (weakH_none _))))
              · refine weakE_upd ?e8 ?r8 (weakE_upd ?e7 ?r7 (weakE_upd ?e3 ?r3 (weakE_upd ?e1 ?r1 (weakE_junk _ _))))
                case e1 => first | rfl | exact fI (by omega) | (rfl)
                case r1 => intro h hh; cases hh
                case e3 => first | rfl | exact fI (by omega) | (rfl)
                case r3 => intro h hh; cases hh
                case e7 => first | rfl | exact fI (by omega) | (rfl)
                case r7 => intro h hh; simp [refs] at hh; subst hh; rfl
                case e8 => first | rfl | exact fI (by omega) | (rfl)
                case r8 => intro h hh; simp [refs] at hh; subst hh; rfl
      · refine tn_k (listed' := #[true, true, true, true, false, false, true, false, false, false]) rfl rfl rfl rfl (k_alloc zA24 rfl ?_)
        refine tn_step [4, 7] (by kernel_rfl) rfl ?_
        refine ⟨?_, ?_, trivial⟩
        · refine tn_q (listed' := #[true, true, true, true, true, false, true, false, false, false]) rfl rfl rfl (q_len tEs25 rfl ?_)
          intro n4 hn4
          try simp only [List.length_map] at hn4
          refine tn_step [5, 7] (by kernel_rfl) rfl ?_
          refine ⟨?_, ?_, trivial⟩
          · refine tn_k (listed' := #[true, true, true, true, true, true, true, false, false, false]) rfl rfl rfl rfl (k_make tE24 rfl rfl zA2 tBy2 rfl (by omega) (by omega) (by omega) rfl (by show _ = ps.length; omega) ?_)
            refine tn_step [7] (by kernel_rfl) rfl ?_
            refine ⟨?_, trivial⟩
            refine tn_k (listed' := #[true, true, true, true, true, true, true, true, false, false]) rfl rfl rfl rfl (k_alloc zA24 rfl ?_)
            refine tn_step [8] (by kernel_rfl) rfl ?_
            refine ⟨?_, trivial⟩
            refine tn_k (listed' := #[true, true, true, true, true, true, true, true, true, false]) rfl rfl rfl rfl (k_store sz24 rfl (by conv=>lhs;whnf) rfl rfl rfl (Nat.le_of_ble_eq_true rfl) rfl ?_)
            refine tn_step [9] (by kernel_rfl) rfl ?_
            refine ⟨?_, trivial⟩
            refine tn_k (listed' := #[true, true, true, true, true, true, true, true, true, true]) rfl rfl rfl rfl (k_store sz24 rfl (by conv=>lhs;whnf) rfl rfl rfl (Nat.le_of_ble_eq_true rfl) rfl ?_)
            refine tn_end (by kernel_rfl) ?_
            refine sub_weak ?_ ?_
            · exact weakH_boxR (boxEq (rfl)) rfl (weakH_boxR (boxEq (rfl)) rfl (weakH_row (rowEq (rfl)) (weakH_row (rowEq (by first | rfl | (show List.replicate _ _ = List.map ci (List.replicate ps.length 0); rw [List.map_replicate]; rfl))) (weakH_none _))))
            · refine weakE_upd ?e8 ?r8 (weakE_upd ?e7 ?r7 (weakE_upd ?e3 ?r3 (weakE_upd ?e1 ?r1 (weakE_junk _ _))))
              case e1 => first | rfl | exact fI (by omega) | (rfl)
              case r1 => intro h hh; cases hh
              case e3 => first | rfl | exact fI (by omega) | (rfl)
              case r3 => intro h hh; cases hh
              case e7 => first | rfl | exact fI (by omega) | (rfl)
              case r7 => intro h hh; simp [refs] at hh; subst hh; rfl
              case e8 => first | rfl | exact fI (by omega) | (rfl)
              case r8 => intro h hh; simp [refs] at hh; subst hh; rfl
          · refine tn_k (listed' := #[true, true, true, true, true, false, true, true, false, false]) rfl rfl rfl rfl (k_alloc zA24 rfl ?_)
            refine tn_step [5, 8] (by kernel_rfl) rfl ?_
            refine ⟨?_, ?_, trivial⟩
            · refine tn_k (listed' := #[true, true, true, true, true, true, true, true, false, false]) rfl rfl rfl rfl (k_make tE24 rfl rfl zA2 tBy2 rfl (by omega) (by omega) (by omega) rfl (by show _ = ps.length; omega) ?_)
              refine tn_step [8] (by kernel_rfl) rfl ?_
              refine ⟨?_, trivial⟩
              refine tn_k (listed' := #[true, true, true, true, true, true, true, true, true, false]) rfl rfl rfl rfl (k_store sz24 rfl (by conv=>lhs;whnf) rfl rfl rfl (Nat.le_of_ble_eq_true rfl) rfl ?_)
              refine tn_step [9] (by kernel_rfl) rfl ?_
              refine ⟨?_, trivial⟩
              refine tn_k (listed' := #[true, true, true, true, true, true, true, true, true, true]) rfl rfl rfl rfl (k_store sz24 rfl (by conv=>lhs;whnf) rfl rfl rfl (Nat.le_of_ble_eq_true rfl) rfl ?_)
              refine tn_end (by kernel_rfl) ?_
              refine sub_weak ?_ ?_
              · exact weakH_boxR (boxEq (rfl)) rfl (weakH_boxR (boxEq (rfl)) rfl (weakH_row (rowEq (rfl)) (weakH_row (rowEq (by first | rfl | (show List.replicate _ _ = List.map ci (List.replicate ps.length 0); rw [List.map_replicate]; rfl))) (weakH_none _))))
              · refine weakE_upd ?e8 ?r8 (weakE_upd ?e7 ?r7 (weakE_upd ?e3 ?r3 (weakE_upd ?e1 ?r1 (weakE_junk _ _))))
                case e1 => first | rfl | exact fI (by omega) | (rfl)
                case r1 => intro h hh; cases hh
                case e3 => first | rfl | exact fI (by omega) | (rfl)
                case r3 => intro h hh; cases hh
                case e7 => first | rfl | exact fI (by omega) | (rfl)
                case r7 => intro h hh; simp [refs] at hh; subst hh; rfl
                case e8 => first | rfl | exact fI (by omega) | (rfl)
                case r8 => intro h hh; simp [refs] at hh; subst hh; rfl
            · refine tn_k (listed' := #[true, true, true, true, true, false, true, true, true, false]) rfl rfl rfl rfl (k_store sz24 rfl (by conv=>lhs;whnf) rfl rfl rfl (Nat.le_of_ble_eq_true rfl) rfl ?_)
              refine tn_step [5] (by kernel_rfl) rfl ?_
              refine ⟨?_, trivial⟩
              refine tn_k (listed' := #[true, true, true, true, true, true, true, true, true, false]) rfl rfl rfl rfl (k_make tE24 rfl rfl zA2 tBy2 rfl (by omega) (by omega) (by omega) rfl (by show _ = ps.length; omega) ?_)
              refine tn_step [9] (by kernel_rfl) rfl ?_
              refine ⟨?_, trivial⟩
              refine tn_k (listed' := #[true, true, true, true, true, true, true, true, true, true]) rfl rfl rfl rfl (k_store sz24 rfl (by conv=>lhs;whnf) rfl rfl rfl (Nat.le_of_ble_eq_true rfl) rfl ?_)
              refine tn_end (by kernel_rfl) ?_
              refine sub_weak ?_ ?_
              · exact weakH_boxR (boxEq (rfl)) rfl (weakH_boxR (boxEq (rfl)) rfl (weakH_row (rowEq (rfl)) (weakH_row (rowEq (by first | rfl | (show List.replicate _ _ = List.map ci (List.replicate ps.length 0); rw [List.map_replicate]; rfl))) (weakH_none _))))
              · refine weakE_upd ?e8 ?r8 (weakE_upd ?e7 ?r7 (weakE_upd ?e3 ?r3 (weakE_upd ?e1 ?r1 (weakE_junk _ _))))
                case e1 => first | rfl | exact fI (by omega) | (rfl)
                case r1 => intro h hh; cases hh
                case e3 => first | rfl | exact fI (by omega) | (rfl)
                case r3 => intro h hh; cases hh
                case e7 => first | rfl | exact fI (by omega) | (rfl)
                case r7 => intro h hh; simp [refs] at hh; subst hh; rfl
                case e8 => first | rfl | exact fI (by omega) | (rfl)
                case r8 => intro h hh; simp [refs] at hh; subst hh; rfl
        · refine tn_k (listed' := #[true, true, true, true, false, false, true, true, false, false]) rfl rfl rfl rfl (k_alloc zA24 rfl ?_)
          refine tn_step [4, 8] (by kernel_rfl) rfl ?_
          refine ⟨?_, ?_, trivial⟩
          · refine tn_q (listed' := #[true, true, true, true, true, false, true, true, false, false]) rfl rfl rfl (q_len tEs25 rfl ?_)
            intro n5 hn5
            try simp only [List.length_map] at hn5
            refine tn_step [5, 8] (by kernel_rfl) rfl ?_
            refine ⟨?_, ?_, trivial⟩
            · refine tn_k (listed' := #[true, true, true, true, true, true, true, true, false, false]) rfl rfl rfl rfl (k_make tE24 rfl rfl zA2 tBy2 rfl (by omega) (by omega) (by omega) rfl (by show _ = ps.length; omega) ?_)
              refine tn_step [8] (by kernel_rfl) rfl ?_
              refine ⟨?_, trivial⟩
              refine tn_k (listed' := #[true, true, true, true, true, true, true, true, true, false]) rfl rfl rfl rfl (k_store sz24 rfl (by conv=>lhs;whnf) rfl rfl rfl (Nat.le_of_ble_eq_true rfl) rfl ?_)
              refine tn_step [9] (by kernel_rfl) rfl ?_
              refine ⟨?_, trivial⟩
              refine tn_k (listed' := #[true, true, true, true, true, true, true, true, true, true]) rfl rfl rfl rfl (k_store sz24 rfl (by conv=>lhs;whnf) rfl rfl rfl (Nat.le_of_ble_eq_true rfl) rfl ?_)
              refine tn_end (by kernel_rfl) ?_
              refine sub_weak ?_ ?_
              · exact weakH_boxR (boxEq (rfl)) rfl (weakH_boxR (boxEq (rfl)) rfl (weakH_row (rowEq (rfl)) (weakH_row (rowEq (by first | rfl | (show List.replicate _ _ = List.map ci (List.replicate ps.length 0); rw [List.map_replicate]; rfl))) (weakH_none _))))
              · refine weakE_upd ?e8 ?r8 (weakE_upd ?e7 ?r7 (weakE_upd ?e3 ?r3 (weakE_upd ?e1 ?r1 (weakE_junk _ _))))
                case e1 => first | rfl | exact fI (by omega) | (rfl)
                case r1 => intro h hh; cases hh
                case e3 => first | rfl | exact fI (by omega) | (rfl)
                case r3 => intro h hh; cases hh
                case e7 => first | rfl | exact fI (by omega) | (rfl)
                case r7 => intro h hh; simp [refs] at hh; subst hh; rfl
                case e8 => first | rfl | exact fI (by omega) | (rfl)
                case r8 => intro h hh; simp [refs] at hh; subst hh; rfl
            · refine tn_k (listed' := #[true, true, true, true, true, false, true, true, true, false]) rfl rfl rfl rfl (k_store sz24 rfl (by conv=>lhs;whnf) rfl rfl rfl (Nat.le_of_ble_eq_true rfl) rfl ?_)
              refine tn_step [5] (by kernel_rfl) rfl ?_
              refine ⟨?_, trivial⟩
              refine tn_k (listed' := #[true, true, true, true, true, true, true, true, true, false]) rfl rfl rfl rfl (k_make tE24 rfl rfl zA2 tBy2 rfl (by omega) (by omega) (by omega) rfl (by show _ = ps.length; omega) ?_)
              refine tn_step [9] (by kernel_rfl) rfl ?_
              refine ⟨?_, trivial⟩
              refine tn_k (listed' := #[true, true, true, true, true, true, true, true, true, true]) rfl rfl rfl rfl (k_store sz24 rfl (by conv=>lhs;whnf) rfl rfl rfl (Nat.le_of_ble_eq_true rfl) rfl ?_)
              refine tn_end (by kernel_rfl) ?_
              refine sub_weak ?_ ?_
              · exact weakH_boxR (boxEq (rfl)) rfl (weakH_boxR (boxEq (rfl)) rfl (weakH_row (rowEq (rfl)) (weakH_row (rowEq (by first | rfl | (show List.replicate _ _ = List.map ci (List.replicate ps.length 0); rw [List.map_replicate]; rfl))) (weakH_none _))))
              · refine weakE_upd ?e8 ?r8 (weakE_upd ?e7 ?r7 (weakE_upd ?e3 ?r3 (weakE_upd ?e1 ?r1 (weakE_junk _ _))))
                case e1 => first | rfl | exact fI (by omega) | (rfl)
                case r1 => intro h hh; cases hh
                case e3 => first | rfl | exact fI (by omega) | (rfl)
                case r3 => intro h hh; cases hh
                case e7 => first | rfl | exact fI (by omega) | (rfl)
                case r7 => intro h hh; simp [refs] at hh; subst hh; rfl
                case e8 => first | rfl | exact fI (by omega) | (rfl)
                case r8 => intro h hh; simp [refs] at hh; subst hh; rfl
          · refine tn_k (listed' := #[true, true, true, true, false, false, true, true, true, false]) rfl rfl rfl rfl (k_store sz24 rfl (by conv=>lhs;whnf) rfl rfl rfl (Nat.le_of_ble_eq_true rfl) rfl ?_)
            refine tn_first_q (i := 4) (listed' := #[true, true, true, true, true, false, true, true, true, false]) rfl rfl (by kernel_rfl) rfl (q_len tEs25 rfl ?_)
            intro n6 hn6
            try simp only [List.length_map] at hn6
            refine tn_step [5] (by kernel_rfl) rfl ?_
            refine ⟨?_, trivial⟩
            refine tn_k (listed' := #[true, true, true, true, true, true, true, true, true, false]) rfl rfl rfl rfl (k_make tE24 rfl rfl zA2 tBy2 rfl (by omega) (by omega) (by omega) rfl (by show _ = ps.length; omega) ?_)
            refine tn_step [9] (by kernel_rfl) rfl ?_
            refine ⟨?_, trivial⟩
            refine tn_k (listed' := #[true, true, true, true, true, true, true, true, true, true]) rfl rfl rfl rfl (k_store sz24 rfl (by conv=>lhs;whnf) rfl rfl rfl (Nat.le_of_ble_eq_true rfl) rfl ?_)
            refine tn_end (by kernel_rfl) ?_
            refine sub_weak ?_ ?_
            · exact weakH_boxR (boxEq (rfl)) rfl (weakH_boxR (boxEq (rfl)) rfl (weakH_row (rowEq (rfl)) (weakH_row (rowEq (by first | rfl | (show List.replicate _ _ = List.map ci (List.replicate ps.length 0); rw [List.map_replicate]; rfl))) (weakH_none _))))
            · refine weakE_upd ?e8 ?r8 (weakE_upd ?e7 ?r7 (weakE_upd ?e3 ?r3 (weakE_upd ?e1 ?r1 (weakE_junk _ _))))
              case e1 => first | rfl | exact fI (by omega) | (rfl)
              case r1 => intro h hh; cases hh
              case e3 => first | rfl | exact fI (by omega) | (rfl)
              case r3 => intro h hh; cases hh
              case e7 => first | rfl | exact fI (by omega) | (rfl)
              case r7 => intro h hh; simp [refs] at hh; subst hh; rfl
              case e8 => first | rfl | exact fI (by omega) | (rfl)
              case r8 => intro h hh; simp [refs] at hh; subst hh; rfl
      · refine tn_k (listed' := #[true, true, true, true, false, false, false, true, false, false]) rfl rfl rfl rfl (k_alloc zA24 rfl ?_)
        refine tn_step [4, 6] (by kernel_rfl) rfl ?_
        refine ⟨?_, ?_, trivial⟩
        · refine tn_q (listed' := #[true, true, true, true, true, false, false, true, false, false]) rfl rfl rfl (q_len tEs25 rfl ?_)
          intro n7 hn7
          try simp only [List.length_map] at hn7
          refine tn_step [5, 6] (by kernel_rfl) rfl ?_
          refine ⟨?_, ?_, trivial⟩
          · refine tn_k (listed' := #[true, true, true, true, true, true, false, true, false, false]) rfl rfl rfl rfl (k_make tE24 rfl rfl zA2 tBy2 rfl (by omega) (by omega) (by omega) rfl (by show _ = ps.length; omega) ?_)
            refine tn_step [6] (by kernel_rfl) rfl ?_
            refine ⟨?_, trivial⟩
            refine tn_k (listed' := #[true, true, true, true, true, true, true, true, false, false]) rfl rfl rfl rfl (k_alloc zA24 rfl ?_)
            refine tn_step [8] (by kernel_rfl) rfl ?_
            refine ⟨?_, trivial⟩
            refine tn_k (listed' := #[true, true, true, true, true, true, true, true, true, false]) rfl rfl rfl rfl (k_store sz24 rfl (by conv=>lhs;whnf) rfl rfl rfl (Nat.le_of_ble_eq_true rfl) rfl ?_)
            refine tn_step [9] (by kernel_rfl) rfl ?_
            refine ⟨?_, trivial⟩
            refine tn_k (listed' := #[true, true, true, true, true, true, true, true, true, true]) rfl rfl rfl rfl (k_store sz24 rfl (by conv=>lhs;whnf) rfl rfl rfl (Nat.le_of_ble_eq_true rfl) rfl ?_)
            refine tn_end (by kernel_rfl) ?_
            refine sub_weak ?_ ?_
            · exact weakH_boxR (boxEq (rfl)) rfl (weakH_boxR (boxEq (rfl)) rfl (weakH_row (rowEq (rfl)) (weakH_row (rowEq (by first | rfl | (show List.replicate _ _ = List.map ci (List.replicate ps.length 0); rw [List.map_replicate]; rfl))) (weakH_none _))))
            · refine weakE_upd ?e8 ?r8 (weakE_upd ?e7 ?r7 (weakE_upd ?e3 ?r3 (weakE_upd ?e1 ?r1 (weakE_junk _ _))))
              case e1 => first | rfl | exact fI (by omega) | (rfl)
              case r1 => intro h hh; cases hh
              case e3 => first | rfl | exact fI (by omega) | (rfl)
              case r3 => intro h hh; cases hh
              case e7 => first | rfl | exact fI (by omega) | (rfl)
              case r7 => intro h hh; simp [refs] at hh; subst hh; rfl
              case e8 => first | rfl | exact fI (by omega) | (rfl)
              case r8 => intro h hh; simp [refs] at hh; subst hh; rfl
          · refine tn_k (listed' := #[true, true, true, true, true, false, true, true, false, false]) rfl rfl rfl rfl (k_alloc zA24 rfl ?_)
            refine tn_step [5, 8] (by kernel_rfl) rfl ?_
            refine ⟨?_, ?_, trivial⟩
            · refine tn_k (listed' := #[true, true, true, true, true, true, true, true, false, false]) rfl rfl rfl rfl (k_make tE24 rfl rfl zA2 tBy2 rfl (by omega) (by omega) (by omega) rfl (by show _ = ps.length; omega) ?_)
              refine tn_step [8] (by kernel_rfl) rfl ?_
              refine ⟨?_, trivial⟩
              refine tn_k (listed' := #[true, true, true, true, true, true, true, true, true, false]) rfl rfl rfl rfl (k_store sz24 rfl (by conv=>lhs;whnf) rfl rfl rfl (Nat.le_of_ble_eq_true rfl) rfl ?_)
              refine tn_step [9] (by kernel_rfl) rfl ?_
              refine ⟨?_, trivial⟩
              refine tn_k (listed' := #[true, true, true, true, true, true, true, true, true, true]) rfl rfl rfl rfl (k_store sz24 rfl (by conv=>lhs;whnf) rfl rfl rfl (Nat.le_of_ble_eq_true rfl) rfl ?_)
              refine tn_end (by kernel_rfl) ?_
              refine sub_weak ?_ ?_
              · exact weakH_boxR (boxEq (rfl)) rfl (weakH_boxR (boxEq (rfl)) rfl (weakH_row (rowEq (rfl)) (weakH_row (rowEq (by first | rfl | (show List.replicate _ _ = List.map ci (List.replicate ps.length 0); rw [List.map_replicate]; rfl))) (weakH_none _))))
              · refine weakE_upd ?e8 ?r8 (weakE_upd ?e7 ?r7 (weakE_upd ?e3 ?r3 (weakE_upd ?e1 ?r1 (weakE_junk _ _))))
                case e1 => first | rfl | exact fI (by omega) | (rfl)
                case r1 => intro h hh; cases hh
                case e3 => first | rfl | exact fI (by omega) | (rfl)
                case r3 => intro h hh; cases hh
                case e7 => first | rfl | exact fI (by omega) | (rfl)
                case r7 => intro h hh; simp [refs] at hh; subst hh; rfl
                case e8 => first | rfl | exact fI (by omega) | (rfl)
                case r8 => intro h hh; simp [refs] at hh; subst hh; rfl
            · refine tn_k (listed' := #[true, true, true, true, true, false, true, true, true, false]) rfl rfl rfl rfl (k_store sz24 rfl (by conv=>lhs;whnf) rfl rfl rfl (Nat.le_of_ble_eq_true rfl) rfl ?_)
              refine tn_step [5] (by kernel_rfl) rfl ?_
              refine ⟨?_, trivial⟩
              refine tn_k (listed' := #[true, true, true, true, true, true, true, true, true, false]) rfl rfl rfl rfl (k_make tE24 rfl rfl zA2 tBy2 rfl (by omega) (by omega) (by omega) rfl (by show _ = ps.length; omega) ?_)
              refine tn_step [9] (by kernel_rfl) rfl ?_
              refine ⟨?_, trivial⟩
              refine tn_k (listed' := #[true, true, true, true, true, true, true, true, true, true]) rfl rfl rfl rfl (k_store sz24 rfl (by conv=>lhs;whnf) rfl rfl rfl (Nat.le_of_ble_eq_true rfl) rfl ?_)
              refine tn_end (by kernel_rfl) ?_
              refine sub_weak ?_ ?_
              · exact weakH_boxR (boxEq (rfl)) rfl (weakH_boxR (boxEq (rfl)) rfl (weakH_row (rowEq (rfl)) (weakH_row (rowEq (by first | rfl | (show List.replicate _ _ = List.map ci (List.replicate ps.length 0); rw [List.map_replicate]; rfl))) (weakH_none _))))
              · refine weakE_upd ?e8 ?r8 (weakE_upd ?e7 ?r7 (weakE_upd ?e3 ?r3 (weakE_upd ?e1 ?r1 (weakE_junk _ _))))
                case e1 => first | rfl | exact fI (by omega) | (rfl)
                case r1 => intro h hh; cases hh
                case e3 => first | rfl | exact fI (by omega) | (rfl)
                case r3 => intro h hh; cases hh
                case e7 => first | rfl | exact fI (by omega) | (rfl)
                case r7 => intro h hh; simp [refs] at hh; subst hh; rfl
                case e8 => first | rfl | exact fI (by omega) | (rfl)
                case r8 => intro h hh; simp [refs] at hh; subst hh; rfl
        · refine tn_k (listed' := #[true, true, true, true, false, false, true, true, false, false]) rfl rfl rfl rfl (k_alloc zA24 rfl ?_)
          refine tn_step [4, 8] (by kernel_rfl) rfl ?_
          refine ⟨?_, ?_, trivial⟩
          · refine tn_q (listed' := #[true, true, true, true, true, false, true, true, false, false]) rfl rfl rfl (q_len tEs25 rfl ?_)
            intro n8 hn8
            try simp only [List.length_map] at hn8
            refine tn_step [5, 8] (by kernel_rfl) rfl ?_
            refine ⟨?_, ?_, trivial⟩
            · refine tn_k (listed' := #[true, true, true, true, true, true, true, true, false, false]) rfl rfl rfl rfl (k_make tE24 rfl rfl zA2 tBy2 rfl (by omega) (by omega) (by omega) rfl (by show _ = ps.length; omega) ?_)
              refine tn_step [8] (by kernel_rfl) rfl ?_
              refine ⟨?_, trivial⟩
              refine tn_k (listed' := #[true, true, true, true, true, true, true, true, true, false]) rfl rfl rfl rfl (k_store sz24 rfl (by conv=>lhs;whnf) rfl rfl rfl (Nat.le_of_ble_eq_true rfl) rfl ?_)
              refine tn_step [9] (by kernel_rfl) rfl ?_
              refine ⟨?_, trivial⟩
              refine tn_k (listed' := #[true, true, true, true, true, true, true, true, true, true]) rfl rfl rfl rfl (k_store sz24 rfl (by conv=>lhs;whnf) rfl rfl rfl (Nat.le_of_ble_eq_true rfl) rfl ?_)
              refine tn_end (by kernel_rfl) ?_
              refine sub_weak ?_ ?_
              · exact weakH_boxR (boxEq (rfl)) rfl (weakH_boxR (boxEq (rfl)) rfl (weakH_row (rowEq (rfl)) (weakH_row (rowEq (by first | rfl | (show List.replicate _ _ = List.map ci (List.replicate ps.length 0); rw [List.map_replicate]; rfl))) (weakH_none _))))
              · refine weakE_upd ?e8 ?r8 (weakE_upd ?e7 ?r7 (weakE_upd ?e3 ?r3 (weakE_upd ?e1 ?r1 (weakE_junk _ _))))
                case e1 => first | rfl | exact fI (by omega) | (rfl)
                case r1 => intro h hh; cases hh
                case e3 => first | rfl | exact fI (by omega) | (rfl)
                case r3 => intro h hh; cases hh
                case e7 => first | rfl | exact fI (by omega) | (rfl)
                case r7 => intro h hh; simp [refs] at hh; subst hh; rfl
                case e8 => first | rfl | exact fI (by omega) | (rfl)
                case r8 => intro h hh; simp [refs] at hh; subst hh; rfl
            · refine tn_k (listed' := #[true, true, true, true, true, false, true, true, true, false]) rfl rfl rfl rfl (k_store sz24 rfl (by conv=>lhs;whnf) rfl rfl rfl (Nat.le_of_ble_eq_true rfl) rfl ?_)
              refine tn_step [5] (by kernel_rfl) rfl ?_
              refine ⟨?_, trivial⟩
              refine tn_k (listed' := #[true, true, true, true, true, true, true, true, true, false]) rfl rfl rfl rfl (k_make tE24 rfl rfl zA2 tBy2 rfl (by omega) (by omega) (by omega) rfl (by show _ = ps.length; omega) ?_)
              refine tn_step [9] (by kernel_rfl) rfl ?_
              refine ⟨?_, trivial⟩
              refine tn_k (listed' := #[true, true, true, true, true, true, true, true, true, true]) rfl rfl rfl rfl (k_store sz24 rfl (by conv=>lhs;whnf) rfl rfl rfl (Nat.le_of_ble_eq_true rfl) rfl ?_)
              refine tn_end (by kernel_rfl) ?_
              refine sub_weak ?_ ?_
              · exact weakH_boxR (boxEq (rfl)) rfl (weakH_boxR (boxEq (rfl)) rfl (weakH_row (rowEq (rfl)) (weakH_row (rowEq (by first | rfl | (show List.replicate _ _ = List.map ci (List.replicate ps.length 0); rw [List.map_replicate]; rfl))) (weakH_none _))))
              · refine weakE_upd ?e8 ?r8 (weakE_upd ?e7 ?r7 (weakE_upd ?e3 ?r3 (weakE_upd ?e1 ?r1 (weakE_junk _ _))))
                case e1 => first | rfl | exact fI (by omega) | (rfl)
                case r1 => intro h hh; cases hh
                case e3 => first | rfl | exact fI (by omega) | (rfl)
                case r3 => intro h hh; cases hh
                case e7 => first | rfl | exact fI (by omega) | (rfl)
                case r7 => intro h hh; simp [refs] at hh; subst hh; rfl
                case e8 => first | rfl | exact fI (by omega) | (rfl)
                case r8 => intro h hh; simp [refs] at hh; subst hh; rfl
          · refine tn_k (listed' := #[true, true, true, true, false, false, true, true, true, false]) rfl rfl rfl rfl (k_store sz24 rfl (by conv=>lhs;whnf) rfl rfl rfl (Nat.le_of_ble_eq_true rfl) rfl ?_)
            refine tn_first_q (i := 4) (listed' := #[true, true, true, true, true, false, true, true, true, false]) rfl rfl (by kernel_rfl) rfl (q_len tEs25 rfl ?_)
            intro n9 hn9
            try simp only [List.length_map] at hn9
            refine tn_step [5] (by kernel_rfl) rfl ?_
            refine ⟨?_, trivial⟩
            refine tn_k (listed' := #[true, true, true, true, true, true, true, true, true, false]) rfl rfl rfl rfl (k_make tE24 rfl rfl zA2 tBy2 rfl (by omega) (by omega) (by omega) rfl (by show _ = ps.length; omega) ?_)
            refine tn_step [9] (by kernel_rfl) rfl ?_
            refine ⟨?_, trivial⟩
            refine tn_k (listed' := #[true, true, true, true, true, true, true, true, true, true]) rfl rfl rfl rfl (k_store sz24 rfl (by conv=>lhs;whnf) rfl rfl rfl (Nat.le_of_ble_eq_true rfl) rfl ?_)
            refine tn_end (by kernel_rfl) ?_
            refine sub_weak ?_ ?_
            · exact weakH_boxR (boxEq (rfl)) rfl (weakH_boxR (boxEq (rfl)) rfl (weakH_row (rowEq (rfl)) (weakH_row (rowEq (by first | rfl | (show List.replicate _ _ = List.map ci (List.replicate ps.length 0); rw [List.map_replicate]; rfl))) (weakH_none _))))
            · refine weakE_upd ?e8 ?r8 (weakE_upd ?e7 ?r7 (weakE_upd ?e3 ?r3 (weakE_upd ?e1 ?r1 (weakE_junk _ _))))
              case e1 => first | rfl | exact fI (by omega) | (rfl)
              case r1 => intro h hh; cases hh
              case e3 => first | rfl | exact fI (by omega) | (rfl)
              case r3 => intro h hh; cases hh
              case e7 => first | rfl | exact fI (by omega) | (rfl)
              case r7 => intro h hh; simp [refs] at hh; subst hh; rfl
              case e8 => first | rfl | exact fI (by omega) | (rfl)
              case r8 => intro h hh; simp [refs] at hh; subst hh; rfl
    · refine tn_q (listed' := #[true, false, true, true, true, false, false, false, false, false]) rfl rfl rfl (q_len tEs25 rfl ?_)
      intro n10 hn10
      try simp only [List.length_map] at hn10
      refine tn_step [1, 5, 6, 7] (by kernel_rfl) rfl ?_
      refine ⟨?_, ?_, ?_, ?_, trivial⟩
      · refine tn_k (listed' := #[true, true, true, true, true, false, false, false, false, false]) rfl rfl rfl rfl (k_callX [(7, 900001)] (D_slices_Clone_int64_int64_X ds (by omega)) rfl (rfl) (rfl) trivial ⟨⟨rfl, show (900001 : Nat) < 1000000 by decide⟩, trivial⟩ rfl rfl rfl ?_)
        refine tn_step [5, 6, 7] (by kernel_rfl) rfl ?_
        refine ⟨?_, ?_, ?_, trivial⟩
        · refine tn_k (listed' := #[true, true, true, true, true, true, false, false, false, false]) rfl rfl rfl rfl (k_make tE24 rfl rfl zA2 tBy2 rfl (by omega) (by omega) (by omega) rfl (by show _ = ps.length; omega) ?_)
          refine tn_step [6, 7] (by kernel_rfl) rfl ?_
          refine ⟨?_, ?_, trivial⟩
          · refine tn_k (listed' := #[true, true, true, true, true, true, true, false, false, false]) rfl rfl rfl rfl (k_alloc zA24 rfl ?_)
            refine tn_step [7] (by kernel_rfl) rfl ?_
            refine ⟨?_, trivial⟩
            refine tn_k (listed' := #[true, true, true, true, true, true, true, true, false, false]) rfl rfl rfl rfl (k_alloc zA24 rfl ?_)
            refine tn_step [8] (by kernel_rfl) rfl ?_
            refine ⟨?_, trivial⟩
            refine tn_k (listed' := #[true, true, true, true, true, true, true, true, true, false]) rfl rfl rfl rfl (k_store sz24 rfl (by conv=>lhs;whnf) rfl rfl rfl (Nat.le_of_ble_eq_true rfl) rfl ?_)
            refine tn_step [9] (by kernel_rfl) rfl ?_
            refine ⟨?_, trivial⟩
            refine tn_k (listed' := #[true, true, true, true, true, true, true, true, true, true]) rfl rfl rfl rfl (k_store sz24 rfl (by conv=>lhs;whnf) rfl rfl rfl (Nat.le_of_ble_eq_true rfl) rfl ?_)
            refine tn_end (by kernel_rfl) ?_
            refine sub_weak ?_ ?_
            · exact weakH_boxR (boxEq (rfl)) rfl (weakH_boxR (boxEq (rfl)) rfl (weakH_row (rowEq (rfl)) (weakH_row (rowEq (by first | rfl | (show List.replicate _ _ = List.map ci (List.replicate ps.length 0); rw [List.map_replicate]; rfl))) (weakH_none _))))
            · refine weakE_upd ?e8 ?r8 (weakE_upd ?e7 ?r7 (weakE_upd ?e3 ?r3 (weakE_upd ?e1 ?r1 (weakE_junk _ _))))
              case e1 => first | rfl | exact fI (by omega) | (rfl)
              case r1 => intro h hh; cases hh
              case e3 => first | rfl | exact fI (by omega) | (rfl)
              case r3 => intro h hh; cases hh
              case e7 => first | rfl | exact fI (by omega) | (rfl)
              case r7 => intro h hh; simp [refs] at hh; subst hh; rfl
              case e8 => first | rfl | exact fI (by omega) | (rfl)
              case r8 => intro h hh; simp [refs] at hh; subst hh; rfl
          · refine tn_k (listed' := #[true, true, true, true, true, true, false, true, false, false]) rfl rfl rfl rfl (k_alloc zA24 rfl ?_)
            refine tn_step [6] (by kernel_rfl) rfl ?_
            refine ⟨?_, trivial⟩
            refine tn_k (listed' := #[true, true, true, true, true, true, true, true, false, false]) rfl rfl rfl rfl (k_alloc zA24 rfl ?_)
            refine tn_step [8] (by kernel_rfl) rfl ?_
            refine ⟨?_, trivial⟩
            refine tn_k (listed' := #[true, true, true, true, true, true, true, true, true, false]) rfl rfl rfl rfl (k_store sz24 rfl (by conv=>lhs;whnf) rfl rfl rfl (Nat.le_of_ble_eq_true rfl) rfl ?_)
            refine tn_step [9] (by kernel_rfl) rfl ?_
            refine ⟨?_, trivial⟩
            refine tn_k (listed' := #[true, true, true, true, true, true, true, true, true, true]) rfl rfl rfl rfl (k_store sz24 rfl (by conv=>lhs;whnf) rfl rfl rfl (Nat.le_of_ble_eq_true rfl) rfl ?_)
            refine tn_end (by kernel_rfl) ?_
            refine sub_weak ?_ ?_
            · exact weakH_boxR (boxEq (rfl)) rfl (weakH_boxR (boxEq (rfl)) rfl (weakH_row (rowEq (rfl)) (weakH_row (rowEq (by first | rfl | (show List.replicate _ _ = List.map ci (List.replicate ps.length 0); rw [List.map_replicate]; rfl))) (weakH_none _))))
            · refine weakE_upd ?e8 ?r8 (weakE_upd ?e7 ?r7 (weakE_upd ?e3 ?r3 (weakE_upd ?e1 ?r1 (weakE_junk _ _))))
              case e1 => first | rfl | exact fI (by omega) | (rfl)
              case r1 => intro h hh; cases hh
              case e3 => first | rfl | exact fI (by omega) | (rfl)
              case r3 => intro h hh; cases hh
              case e7 => first | rfl | exact fI (by omega) | (rfl)
              case r7 => intro h hh; simp [refs] at hh; subst hh; rfl
              case e8 => first | rfl | exact fI (by omega) | (rfl)
              case r8 => intro h hh; simp [refs] at hh; subst hh; rfl
        · refine tn_k (listed' := #[true, true, true, true, true, false, true, false, false, false]) rfl rfl rfl rfl (k_alloc zA24 rfl ?_)
          refine tn_step [5, 7] (by kernel_rfl) rfl ?_
          refine ⟨?_, ?_, trivial⟩
          · refine tn_k (listed' := #[true, true, true, true, true, true, true, false, false, false]) rfl rfl rfl rfl (k_make tE24 rfl rfl zA2 tBy2 rfl (by omega) (by omega) (by omega) rfl (by show _ = ps.length; omega) ?_)
            refine tn_step [7] (by kernel_rfl) rfl ?_
            refine ⟨?_, trivial⟩
            refine tn_k (listed' := #[true, true, true, true, true, true, true, true, false, false]) rfl rfl rfl rfl (k_alloc zA24 rfl ?_)
            refine tn_step [8] (by kernel_rfl) rfl ?_
            refine ⟨?_, trivial⟩
            refine tn_k (listed' := #[true, true, true, true, true, true, true, true, true, false]) rfl rfl rfl rfl (k_store sz24 rfl (by conv=>lhs;whnf) rfl rfl rfl (Nat.le_of_ble_eq_true rfl) rfl ?_)
            refine tn_step [9] (by kernel_rfl) rfl ?_
            refine ⟨?_, trivial⟩
            refine tn_k (listed' := #[true, true, true, true, true, true, true, true, true, true]) rfl rfl rfl rfl (k_store sz24 rfl (by conv=>lhs;whnf) rfl rfl rfl (Nat.le_of_ble_eq_true rfl) rfl ?_)
            refine tn_end (by kernel_rfl) ?_
            refine sub_weak ?_ ?_
            · exact weakH_boxR (boxEq (rfl)) rfl (weakH_boxR (boxEq (rfl)) rfl (weakH_row (rowEq (rfl)) (weakH_row (rowEq (by first | rfl | (show List.replicate _ _ = List.map ci (List.replicate ps.length 0); rw [List.map_replicate]; rfl))) (weakH_none _))))
            · refine weakE_upd ?e8 ?r8 (weakE_upd ?e7 ?r7 (weakE_upd ?e3 ?r3 (weakE_upd ?e1 ?r1 (weakE_junk _ _))))
              case e1 => first | rfl | exact fI (by omega) | (rfl)
              case r1 => intro h hh; cases hh
              case e3 => first | rfl | exact fI (by omega) | (rfl)
              case r3 => intro h hh; cases hh
              case e7 => first | rfl | exact fI (by omega) | (rfl)
              case r7 => intro h hh; simp [refs] at hh; subst hh; rfl
              case e8 => first | rfl | exact fI (by omega) | (rfl)
              case r8 => intro h hh; simp [refs] at hh; subst hh; rfl
          · refine tn_k (listed' := #[true, true, true, true, true, false, true, true, false, false]) rfl rfl rfl rfl (k_alloc zA24 rfl ?_)
            refine tn_step [5, 8] (by kernel_rfl) rfl ?_
            refine ⟨?_, ?_, trivial⟩
            · refine tn_k (listed' := #[true, true, true, true, true, true, true, true, false, false]) rfl rfl rfl rfl (k_make tE24 rfl rfl zA2 tBy2 rfl (by omega) (by omega) (by omega) rfl (by show _ = ps.length; omega) ?_)
              refine tn_step [8] (by kernel_rfl) rfl ?_
              refine ⟨?_, trivial⟩
              refine tn_k (listed' := #[true, true, true, true, true, true, true, true, true, false]) rfl rfl rfl rfl (k_store sz24 rfl (by conv=>lhs;whnf) rfl rfl rfl (Nat.le_of_ble_eq_true rfl) rfl ?_)
              refine tn_step [9] (by kernel_rfl) rfl ?_
              refine ⟨?_, trivial⟩
              refine tn_k (listed' := #[true, true, true, true, true, true, true, true, true, true]) rfl rfl rfl rfl (k_store sz24 rfl (by conv=>lhs;whnf) rfl rfl rfl (Nat.le_of_ble_eq_true rfl) rfl ?_)
              refine tn_end (by kernel_rfl) ?_
              refine sub_weak ?_ ?_
              · exact weakH_boxR (boxEq (rfl)) rfl (weakH_boxR (boxEq (rfl)) rfl (weakH_row (rowEq (rfl)) (weakH_row (rowEq (by first | rfl | (show List.replicate _ _ = List.map ci (List.replicate ps.length 0); rw [List.map_replicate]; rfl))) (weakH_none _))))
              · refine weakE_upd ?e8 ?r8 (weakE_upd ?e7 ?r7 (weakE_upd ?e3 ?r3 (weakE_upd ?e1 ?r1 (weakE_junk _ _))))
                case e1 => first | rfl | exact fI (by omega) | (rfl)
                case r1 => intro h hh; cases hh
                case e3 => first | rfl | exact fI (by omega) | (rfl)
                case r3 => intro h hh; cases hh
                case e7 => first | rfl | exact fI (by omega) | (rfl)
                case r7 => intro h hh; simp [refs] at hh; subst hh; rfl
                case e8 => first | rfl | exact fI (by omega) | (rfl)
                case r8 => intro h hh; simp [refs] at hh; subst hh; rfl
            · refine tn_k (listed' := #[true, true, true, true, true, false, true, true, true, false]) rfl rfl rfl rfl (k_store sz24 rfl (by conv=>lhs;whnf) rfl rfl rfl (Nat.le_of_ble_eq_true rfl) rfl ?_)
              refine tn_step [5] (by kernel_rfl) rfl ?_
              refine ⟨?_, trivial⟩
              refine tn_k (listed' := #[true, true, true, true, true, true, true, true, true, false]) rfl rfl rfl rfl (k_make tE24 rfl rfl zA2 tBy2 rfl (by omega) (by omega) (by omega) rfl (by show _ = ps.length; omega) ?_)
              refine tn_step [9] (by kernel_rfl) rfl ?_
              refine ⟨?_, trivial⟩
              refine tn_k (listed' := #[true, true, true, true, true, true, true, true, true, true]) rfl rfl rfl rfl (k_store sz24 rfl (by conv=>lhs;whnf) rfl rfl rfl (Nat.le_of_ble_eq_true rfl) rfl ?_)
              refine tn_end (by kernel_rfl) ?_
              refine sub_weak ?_ ?_
              · exact weakH_boxR (boxEq (rfl)) rfl (weakH_boxR (boxEq (rfl)) rfl (weakH_row (rowEq (rfl)) (weakH_row (rowEq (by first | rfl | (show List.replicate _ _ = List.map ci (List.replicate ps.length 0); rw [List.map_replicate]; rfl))) (weakH_none _))))
              · refine weakE_upd ?e8 ?r8 (weakE_upd ?e7 ?r7 (weakE_upd ?e3 ?r3 (weakE_upd ?e1 ?r1 (weakE_junk _ _))))
                case e1 => first | rfl | exact fI (by omega) | (rfl)
                case r1 => intro h hh; cases hh
                case e3 => first | rfl | exact fI (by omega) | (rfl)
                case r3 => intro h hh; cases hh
                case e7 => first | rfl | exact fI (by omega) | (rfl)
                case r7 => intro h hh; simp [refs] at hh; subst hh; rfl
                case e8 => first | rfl | exact fI (by omega) | (rfl)
                case r8 => intro h hh; simp [refs] at hh; subst hh; rfl
        · refine tn_k (listed' := #[true, true, true, true, true, false, false, true, false, false]) rfl rfl rfl rfl (k_alloc zA24 rfl ?_)
          refine tn_step [5, 6] (by kernel_rfl) rfl ?_
          refine ⟨?_, ?_, trivial⟩
          · refine tn_k (listed' := #[true, true, true, true, true, true, false, true, false, false]) rfl rfl rfl rfl (k_make tE24 rfl rfl zA2 tBy2 rfl (by omega) (by omega) (by omega) rfl (by show _ = ps.length; omega) ?_)
            refine tn_step [6] (by kernel_rfl) rfl ?_
            refine ⟨?_, trivial⟩
            refine tn_k (listed' := #[true, true, true, true, true, true, true, true, false, false]) rfl rfl rfl rfl (k_alloc zA24 rfl ?_)
            refine tn_step [8] (by kernel_rfl) rfl ?_
            refine ⟨?_, trivial⟩
            refine tn_k (listed' := #[true, true, true, true, true, true, true, true, true, false]) rfl rfl rfl rfl (k_store sz24 rfl (by conv=>lhs;whnf) rfl rfl rfl (Nat.le_of_ble_eq_true rfl) rfl ?_)
            refine tn_step [9] (by kernel_rfl) rfl ?_
            refine ⟨?_, trivial⟩
            refine tn_k (listed' := #[true, true, true, true, true, true, true, true, true, true]) rfl rfl rfl rfl (k_store sz24 rfl (by conv=>lhs;whnf) rfl rfl rfl (Nat.le_of_ble_eq_true rfl) rfl ?_)
            refine tn_end (by kernel_rfl) ?_
            refine sub_weak ?_ ?_
            · exact weakH_boxR (boxEq (rfl)) rfl (weakH_boxR (boxEq (rfl)) rfl (weakH_row (rowEq (rfl)) (weakH_row (rowEq (by first | rfl | (show List.replicate _ _ = List.map ci (List.replicate ps.length 0); rw [List.map_replicate]; rfl))) (weakH_none _))))
            · refine weakE_upd ?e8 ?r8 (weakE_upd ?e7 ?r7 (weakE_upd ?e3 ?r3 (weakE_upd ?e1 ?r1 (weakE_junk _ _))))
              case e1 => first | rfl | exact fI (by omega) | (rfl)
              case r1 => intro h hh; cases hh
              case e3 => first | rfl | exact fI (by omega) | (rfl)
              case r3 => intro h hh; cases hh
              case e7 => first | rfl | exact fI (by omega) | (rfl)
              case r7 => intro h hh; simp [refs] at hh; subst hh; rfl
              case e8 => first | rfl | exact fI (by omega) | (rfl)
              case r8 => intro h hh; simp [refs] at hh; subst hh; rfl
          · refine tn_k (listed' := #[true, true, true, true, true, false, true, true, false, false]) rfl rfl rfl rfl (k_alloc zA24 rfl ?_)
            refine tn_step [5, 8] (by kernel_rfl) rfl ?_
            refine ⟨?_, ?_, trivial⟩
            · refine tn_k (listed' := #[true, true, true, true, true, true, true, true, false, false]) rfl rfl rfl rfl (k_make tE24 rfl rfl zA2 tBy2 rfl (by omega) (by omega) (by omega) rfl (by show _ = ps.length; omega) ?_)
              refine tn_step [8] (by kernel_rfl) rfl ?_
              refine ⟨?_, trivial⟩
              refine tn_k (listed' := #[true, true, true, true, true, true, true, true, true, false]) rfl rfl rfl rfl (k_store sz24 rfl (by conv=>lhs;whnf) rfl rfl rfl (Nat.le_of_ble_eq_true rfl) rfl ?_)
              refine tn_step [9] (by kernel_rfl) rfl ?_
              refine ⟨?_, trivial⟩
              refine tn_k (listed' := #[true, true, true, true, true, true, true, true, true, true]) rfl rfl rfl rfl (k_store sz24 rfl (by conv=>lhs;whnf) rfl rfl rfl (Nat.le_of_ble_eq_true rfl) rfl ?_)
              refine tn_end (by kernel_rfl) ?_
              refine sub_weak ?_ ?_
              · exact weakH_boxR (boxEq (rfl)) rfl (weakH_boxR (boxEq (rfl)) rfl (weakH_row (rowEq (rfl)) (weakH_row (rowEq (by first | rfl | (show List.replicate _ _ = List.map ci (List.replicate ps.length 0); rw [List.map_replicate]; rfl))) (weakH_none _))))
              · refine weakE_upd ?e8 ?r8 (weakE_upd ?e7 ?r7 (weakE_upd ?e3 ?r3 (weakE_upd ?e1 ?r1 (weakE_junk _ _))))
                case e1 => first | rfl | exact fI (by omega) | (rfl)
                case r1 => intro h hh; cases hh
                case e3 => first | rfl | exact fI (by omega) | (rfl)
                case r3 => intro h hh; cases hh
                case e7 => first | rfl | exact fI (by omega) | (rfl)
                case r7 => intro h hh; simp [refs] at hh; subst hh; rfl
                case e8 => first | rfl | exact fI (by omega) | (rfl)
                case r8 => intro h hh; simp [refs] at hh; subst hh; rfl
            · refine tn_k (listed' := #[true, true, true, true, true, false, true, true, true, false]) rfl rfl rfl rfl (k_store sz24 rfl (by conv=>lhs;whnf) rfl rfl rfl (Nat.le_of_ble_eq_true rfl) rfl ?_)
              refine tn_step [5] (by kernel_rfl) rfl ?_
              refine ⟨?_, trivial⟩
              refine tn_k (listed' := #[true, true, true, true, true, true, true, true, true, false]) rfl rfl rfl rfl (k_make tE24 rfl rfl zA2 tBy2 rfl (by omega) (by omega) (by omega) rfl (by show _ = ps.length; omega) ?_)
              refine tn_step [9] (by kernel_rfl) rfl ?_
              refine ⟨?_, trivial⟩
              refine tn_k (listed' := #[true, true, true, true, true, true, true, true, true, true]) rfl rfl rfl rfl (k_store sz24 rfl (by conv=>lhs;whnf) rfl rfl rfl (Nat.le_of_ble_eq_true rfl) rfl ?_)
              refine tn_end (by kernel_rfl) ?_
              refine sub_weak ?_ ?_
              · exact weakH_boxR (boxEq (rfl)) rfl (weakH_boxR (boxEq (rfl)) rfl (weakH_row (rowEq (rfl)) (weakH_row (rowEq (by first | rfl | (show List.replicate _ _ = List.map ci (List.replicate ps.length 0); rw [List.map_replicate]; rfl))) (weakH_none _))))
              · refine weakE_upd ?e8 ?r8 (weakE_upd ?e7 ?r7 (weakE_upd ?e3 ?r3 (weakE_upd ?e1 ?r1 (weakE_junk _ _))))
                case e1 => first | rfl | exact fI (by omega) | (rfl)
                case r1 => intro h hh; cases hh
                case e3 => first | rfl | exact fI (by omega) | (rfl)
                case r3 => intro h hh; cases hh
                case e7 => first | rfl | exact fI (by omega) | (rfl)
                case r7 => intro h hh; simp [refs] at hh; subst hh; rfl
                case e8 => first | rfl | exact fI (by omega) | (rfl)
                case r8 => intro h hh; simp [refs] at hh; subst hh; rfl
      · refine tn_k (listed' := #[true, false, true, true, true, true, false, false, false, false]) rfl rfl rfl rfl (k_make tE24 rfl rfl zA2 tBy2 rfl (by omega) (by omega) (by omega) rfl (by show _ = ps.length; omega) ?_)
        refine tn_step [1, 6, 7] (by kernel_rfl) rfl ?_
        refine ⟨?_, ?_, ?_, trivial⟩
        · refine tn_k (listed' := #[true, true, true, true, true, true, false, false, false, false]) rfl rfl rfl rfl (k_callX [(7, 900001)] (D_slices_Clone_int64_int64_X ds (by omega)) rfl (rfl) (rfl) trivial ⟨⟨rfl, show (900001 : Nat) < 1000000 by decide⟩, trivial⟩ rfl rfl rfl ?_)
          refine tn_step [6, 7] (by kernel_rfl) rfl ?_
          refine ⟨?_, ?_, trivial⟩
          · refine tn_k (listed' := #[true, true, true, true, true, true, true, false, false, false]) rfl rfl rfl rfl (k_alloc zA24 rfl ?_)
            refine tn_step [7] (by kernel_rfl) rfl ?_
            refine ⟨?_, trivial⟩
            refine tn_k (listed' := #[true, true, true, true, true, true, true, true, false, false]) rfl rfl rfl rfl (k_alloc zA24 rfl ?_)
            refine tn_step [8] (by kernel_rfl) rfl ?_
            refine ⟨?_, trivial⟩
            refine tn_k (listed' := #[true, true, true, true, true, true, true, true, true, false]) rfl rfl rfl rfl (k_store sz24 rfl (by conv=>lhs;whnf) rfl rfl rfl (Nat.le_of_ble_eq_true rfl) rfl ?_)
            refine tn_step [9] (by kernel_rfl) rfl ?_
            refine ⟨?_, trivial⟩
            refine tn_k (listed' := #[true, true, true, true, true, true, true, true, true, true]) rfl rfl rfl rfl (k_store sz24 rfl (by conv=>lhs;whnf) rfl rfl rfl (Nat.le_of_ble_eq_true rfl) rfl ?_)
            refine tn_end (by kernel_rfl) ?_
            refine sub_weak ?_ ?_
            · exact weakH_boxR (boxEq (rfl)) rfl (weakH_boxR (boxEq (rfl)) rfl (weakH_row (rowEq (rfl)) (weakH_row (rowEq (by first | rfl | (show List.replicate _ _ = List.map ci (List.replicate ps.length 0); rw [List.map_replicate]; rfl))) (weakH_none _))))
            · refine weakE_upd ?e8 ?r8 (weakE_upd ?e7 ?r7 (weakE_upd ?e3 ?r3 (weakE_upd ?e1 ?r1 (weakE_junk _ _))))
              case e1 => first | rfl | exact fI (by omega) | (rfl)
              case r1 => intro h hh; cases hh
              case e3 => first | rfl | exact fI (by omega) | (rfl)
              case r3 => intro h hh; cases hh
              case e7 => first | rfl | exact fI (by omega) | (rfl)
              case r7 => intro h hh; simp [refs] at hh; subst hh; rfl
              case e8 => first | rfl | exact fI (by omega) | (rfl)
              case r8 => intro h hh; simp [refs] at hh; subst hh; rfl
          · refine tn_k (listed' := #[true, true, true, true, true, true, false, true, false, false]) rfl rfl rfl rfl (k_alloc zA24 rfl ?_)
            refine tn_step [6] (by kernel_rfl) rfl ?_
            refine ⟨?_, trivial⟩
            refine tn_k (listed' := #[true, true, true, true, true, true, true, true, false, false]) rfl rfl rfl rfl (k_alloc zA24 rfl ?_)
            refine tn_step [8] (by kernel_rfl) rfl ?_
            refine ⟨?_, trivial⟩
            refine tn_k (listed' := #[true, true, true, true, true, true, true, true, true, false]) rfl rfl rfl rfl (k_store sz24 rfl (by conv=>lhs;whnf) rfl rfl rfl (Nat.le_of_ble_eq_true rfl) rfl ?_)
            refine tn_step [9] (by kernel_rfl) rfl ?_
            refine ⟨?_, trivial⟩
            refine tn_k (listed' := #[true, true, true, true, true, true, true, true, true, true]) rfl rfl rfl rfl (k_store sz24 rfl (by conv=>lhs;whnf) rfl rfl rfl (Nat.le_of_ble_eq_true rfl) rfl ?_)
            refine tn_end (by kernel_rfl) ?_
            refine sub_weak ?_ ?_
            · exact weakH_boxR (boxEq (rfl)) rfl (weakH_boxR (boxEq (rfl)) rfl (weakH_row (rowEq (rfl)) (weakH_row (rowEq (by first | rfl | (show List.replicate _ _ = List.map ci (List.replicate ps.length 0); rw [List.map_replicate]; rfl))) (weakH_none _))))
            · refine weakE_upd ?e8 ?r8 (weakE_upd ?e7 ?r7 (weakE_upd ?e3 ?r3 (weakE_upd ?e1 ?r1 (weakE_junk _ _))))
              case e1 => first | rfl | exact fI (by omega) | (rfl)
              case r1 => intro h hh; cases hh
              case e3 => first | rfl | exact fI (by omega) | (rfl)
              case r3 => intro h hh; cases hh
              case e7 => first | rfl | exact fI (by omega) | (rfl)
              case r7 => intro h hh; simp [refs] at hh; subst hh; rfl
              case e8 => first | rfl | exact fI (by omega) | (rfl)
              case r8 => intro h hh; simp [refs] at hh; subst hh; rfl
        · refine tn_k (listed' := #[true, false, true, true, true, true, true, false, false, false]) rfl rfl rfl rfl (k_alloc zA24 rfl ?_)
          refine tn_step [1, 7] (by kernel_rfl) rfl ?_
          refine ⟨?_, ?_, trivial⟩
          · refine tn_k (listed' := #[true, true, true, true, true, true, true, false, false, false]) rfl rfl rfl rfl (k_callX [(7, 900001)] (D_slices_Clone_int64_int64_X ds (by omega)) rfl (rfl) (rfl) trivial ⟨⟨rfl, show (900001 : Nat) < 1000000 by decide⟩, trivial⟩ rfl rfl rfl ?_)
            refine tn_step [7] (by kernel_rfl) rfl ?_
            refine ⟨?_, trivial⟩
            refine tn_k (listed' := #[true, true, true, true, true, true, true, true, false, false]) rfl rfl rfl rfl (k_alloc zA24 rfl ?_)
            refine tn_step [8] (by kernel_rfl) rfl ?_
            refine ⟨?_, trivial⟩
            refine tn_k (listed' := #[true, true, true, true, true, true, true, true, true, false]) rfl rfl rfl rfl (k_store sz24 rfl (by conv=>lhs;whnf) rfl rfl rfl (Nat.le_of_ble_eq_true rfl) rfl ?_)
            refine tn_step [9] (by kernel_rfl) rfl ?_
            refine ⟨?_, trivial⟩
            refine tn_k (listed' := #[true, true, true, true, true, true, true, true, true, true]) rfl rfl rfl rfl (k_store sz24 rfl (by conv=>lhs;whnf) rfl rfl rfl (Nat.le_of_ble_eq_true rfl) rfl ?_)
            refine tn_end (by kernel_rfl) ?_
            refine sub_weak ?_ ?_
            · exact weakH_boxR (boxEq (rfl)) rfl (weakH_boxR (boxEq (rfl)) rfl (weakH_row (rowEq (rfl)) (weakH_row (rowEq (by first | rfl | (show List.replicate _ _ = List.map ci (List.replicate ps.length 0); rw [List.map_replicate]; rfl))) (weakH_none _))))
            · refine weakE_upd ?e8 ?r8 (weakE_upd ?e7 ?r7 (weakE_upd ?e3 ?r3 (weakE_upd ?e1 ?r1 (weakE_junk _ _))))
              case e1 => first | rfl | exact fI (by omega) | (rfl)
              case r1 => intro h hh; cases hh
              case e3 => first | rfl | exact fI (by omega) | (rfl)
              case r3 => intro h hh; cases hh
              case e7 => first | rfl | exact fI (by omega) | (rfl)
              case r7 => intro h hh; simp [refs] at hh; subst hh; rfl
              case e8 => first | rfl | exact fI (by omega) | (rfl)
              case r8 => intro h hh; simp [refs] at hh; subst hh; rfl
          · refine tn_k (listed' := #[true, false, true, true, true, true, true, true, false, false]) rfl rfl rfl rfl (k_alloc zA24 rfl ?_)
            refine tn_step [1] (by kernel_rfl) rfl ?_
            refine ⟨?_, trivial⟩
            refine tn_k (listed' := #[true, true, true, true, true, true, true, true, false, false]) rfl rfl rfl rfl (k_callX [(7, 900001)] (D_slices_Clone_int64_int64_X ds (by omega)) rfl (rfl) (rfl) trivial ⟨⟨rfl, show (900001 : Nat) < 1000000 by decide⟩, trivial⟩ rfl rfl rfl ?_)
            refine tn_step [8] (by kernel_rfl) rfl ?_
            refine ⟨?_, trivial⟩
            refine tn_k (listed' := #[true, true, true, true, true, true, true, true, true, false]) rfl rfl rfl rfl (k_store sz24 rfl (by conv=>lhs;whnf) rfl rfl rfl (Nat.le_of_ble_eq_true rfl) rfl ?_)
            refine tn_step [9] (by kernel_rfl) rfl ?_
            refine ⟨?_, trivial⟩
            refine tn_k (listed' := #[true, true, true, true, true, true, true, true, true, true]) rfl rfl rfl rfl (k_store sz24 rfl (by conv=>lhs;whnf) rfl rfl rfl (Nat.le_of_ble_eq_true rfl) rfl ?_)
            refine tn_end (by kernel_rfl) ?_
            refine sub_weak ?_ ?_
            · exact weakH_boxR (boxEq (rfl)) rfl (weakH_boxR (boxEq (rfl)) rfl (weakH_row (rowEq (rfl)) (weakH_row (rowEq (by first | rfl | (show List.replicate _ _ = List.map ci (List.replicate ps.length 0); rw [List.map_replicate]; rfl))) (weakH_none _))))
            · refine weakE_upd ?e8 ?r8 (weakE_upd ?e7 ?r7 (weakE_upd ?e3 ?r3 (weakE_upd ?e1 ?r1 (weakE_junk _ _))))
              case e1 => first | rfl | exact fI (by omega) | (rfl)
              case r1 => intro h hh; cases hh
              case e3 => first | rfl | exact fI (by omega) | (rfl)
              case r3 => intro h hh; cases hh
              case e7 => first | rfl | exact fI (by omega) | (rfl)
              case r7 => intro h hh; simp [refs] at hh; subst hh; rfl
              case e8 => first | rfl | exact fI (by omega) | (rfl)
              case r8 => intro h hh; simp [refs] at hh; subst hh; rfl
        · refine tn_k (listed' := #[true, false, true, true, true, true, false, true, false, false]) rfl rfl rfl rfl (k_alloc zA24 rfl ?_)
          refine tn_step [1, 6] (by kernel_rfl) rfl ?_
          refine ⟨?_, ?_, trivial⟩
          · refine tn_k (listed' := #[true, true, true, true, true, true, false, true, false, false]) rfl rfl rfl rfl (k_callX [(7, 900001)] (D_slices_Clone_int64_int64_X ds (by omega)) rfl (rfl) (rfl) trivial ⟨⟨rfl, show (900001 : Nat) < 1000000 by decide⟩, trivial⟩ rfl rfl rfl ?_)
            refine tn_step [6] (by kernel_rfl) rfl ?_
            refine ⟨?_, trivial⟩
            refine tn_k (listed' := #[true, true, true, true, true, true, true, true, false, false]) rfl rfl rfl rfl (k_alloc zA24 rfl ?_)
            refine tn_step [8] (by kernel_rfl) rfl ?_
            refine ⟨?_, trivial⟩
            refine tn_k (listed' := #[true, true, true, true, true, true, true, true, true, false]) rfl rfl rfl rfl (k_store sz24 rfl (by conv=>lhs;whnf) rfl rfl rfl (Nat.le_of_ble_eq_true rfl) rfl ?_)
            refine tn_step [9] (by kernel_rfl) rfl ?_
            refine ⟨?_, trivial⟩
            refine tn_k (listed' := #[true, true, true, true, true, true, true, true, true, true]) rfl rfl rfl rfl (k_store sz24 rfl (by conv=>lhs;whnf) rfl rfl rfl (Nat.le_of_ble_eq_true rfl) rfl ?_)
            refine tn_end (by kernel_rfl) ?_
            refine sub_weak ?_ ?_
            · exact weakH_boxR (boxEq (rfl)) rfl (weakH_boxR (boxEq (rfl)) rfl (weakH_row (rowEq (rfl)) (weakH_row (rowEq (by first | rfl | (show List.replicate _ _ = List.map ci (List.replicate ps.length 0); rw [List.map_replicate]; rfl))) (weakH_none _))))
            · refine weakE_upd ?e8 ?r8 (weakE_upd ?e7 ?r7 (weakE_upd ?e3 ?r3 (weakE_upd ?e1 ?r1 (weakE_junk _ _))))
              case e1 => first | rfl | exact fI (by omega) | (rfl)
              case r1 => intro h hh; cases hh
              case e3 => first | rfl | exact fI (by omega) | (rfl)
              case r3 => intro h hh; cases hh
              case e7 => first | rfl | exact fI (by omega) | (rfl)
              case r7 => intro h hh; simp [refs] at hh; subst hh; rfl
              case e8 => first | rfl | exact fI (by omega) | (rfl)
              case r8 => intro h hh; simp [refs] at hh; subst hh; rfl
          · refine tn_k (listed' := #[true, false, true, true, true, true, true, true, false, false]) rfl rfl rfl rfl (k_alloc zA24 rfl ?_)
            refine tn_step [1] (by kernel_rfl) rfl ?_
            refine ⟨?_, trivial⟩
            refine tn_k (listed' := #[true, true, true, true, true, true, true, true, false, false]) rfl rfl rfl rfl (k_callX [(7, 900001)] (D_slices_Clone_int64_int64_X ds (by omega)) rfl (rfl) (rfl) trivial ⟨⟨rfl, show (900001 : Nat) < 1000000 by decide⟩, trivial⟩ rfl rfl rfl ?_)
            refine tn_step [8] (by kernel_rfl) rfl ?_
            refine ⟨?_, trivial⟩
            refine tn_k (listed' := #[true, true, true, true, true, true, true, true, true, false]) rfl rfl rfl rfl (k_store sz24 rfl (by conv=>lhs;whnf) rfl rfl rfl (Nat.le_of_ble_eq_true rfl) rfl ?_)
            refine tn_step [9] (by kernel_rfl) rfl ?_
            refine ⟨?_, trivial⟩
            refine tn_k (listed' := #[true, true, true, true, true, true, true, true, true, true]) rfl rfl rfl rfl (k_store sz24 rfl (by conv=>lhs;whnf) rfl rfl rfl (Nat.le_of_ble_eq_true rfl) rfl ?_)
            refine tn_end (by kernel_rfl) ?_
            refine sub_weak ?_ ?_
            · exact weakH_boxR (boxEq (rfl)) rfl (weakH_boxR (boxEq (rfl)) rfl (weakH_row (rowEq (rfl)) (weakH_row (rowEq (by first | rfl | (show List.replicate _ _ = List.map ci (List.replicate ps.length 0); rw [List.map_replicate]; rfl))) (weakH_none _))))
            · refine weakE_upd ?e8 ?r8 (weakE_upd ?e7 ?r7 (weakE_upd ?e3 ?r3 (weakE_upd ?e1 ?r1 (weakE_junk _ _))))
              case e1 => first | rfl | exact fI (by omega) | (rfl)
              case r1 => intro h hh; cases hh
              case e3 => first | rfl | exact fI (by omega) | (rfl)
              case r3 => intro h hh; cases hh
              case e7 => first | rfl | exact fI (by omega) | (rfl)
              case r7 => intro h hh; simp [refs] at hh; subst hh; rfl
              case e8 => first | rfl | exact fI (by omega) | (rfl)
              case r8 => intro h hh; simp [refs] at hh; subst hh; rfl
      · refine tn_k (listed' := #[true, false, true, true, true, false, true, false, false, false]) rfl rfl rfl rfl (k_alloc zA24 rfl ?_)
        refine tn_step [1, 5, 7] (by kernel_rfl) rfl ?_
        refine ⟨?_, ?_, ?_, trivial⟩
        · refine tn_k (listed' := #[true, true, true, true, true, false, true, false, false, false]) rfl rfl rfl rfl (k_callX [(7, 900001)] (D_slices_Clone_int64_int64_X ds (by omega)) rfl (rfl) (rfl) trivial ⟨⟨rfl, show (900001 : Nat) < 1000000 by decide⟩, trivial⟩ rfl rfl rfl ?_)
          refine tn_step [5, 7] (by kernel_rfl) rfl ?_
          refine ⟨?_, ?_, trivial⟩
          · refine tn_k (listed' := #[true, true, true, true, true, true, true, false, false, false]) rfl rfl rfl rfl (k_make tE24 rfl rfl zA2 tBy2 rfl (by omega) (by omega) (by omega) rfl (by show _ = ps.length; omega) ?_)
            refine tn_step [7] (by kernel_rfl) rfl ?_
            refine ⟨?_, trivial⟩
            refine tn_k (listed' := #[true, true, true, true, true, true, true, true, false, false]) rfl rfl rfl rfl (k_alloc zA24 rfl ?_)
            refine tn_step [8] (by kernel_rfl) rfl ?_
            refine ⟨?_, trivial⟩
            refine tn_k (listed' := #[true, true, true, true, true, true, true, true, true, false]) rfl rfl rfl rfl (k_store sz24 rfl (by conv=>lhs;whnf) rfl rfl rfl (Nat.le_of_ble_eq_true rfl) rfl ?_)
            refine tn_step [9] (by kernel_rfl) rfl ?_
            refine ⟨?_, trivial⟩
            refine tn_k (listed' := #[true, true, true, true, true, true, true, true, true, true]) rfl rfl rfl rfl (k_store sz24 rfl (by conv=>lhs;whnf) rfl rfl rfl (Nat.le_of_ble_eq_true rfl) rfl ?_)
            refine tn_end (by kernel_rfl) ?_
            refine sub_weak ?_ ?_
            · exact weakH_boxR (boxEq (rfl)) rfl (weakH_boxR (boxEq (rfl)) rfl (weakH_row (rowEq (rfl)) (weakH_row (rowEq (by first | rfl | (show List.replicate _ _ = List.map ci (List.replicate ps.length 0); rw [List.map_replicate]; rfl))) (weakH_none _))))
            · refine weakE_upd ?e8 ?r8 (weakE_upd ?e7 ?r7 (weakE_upd ?e3 ?r3 (weakE_upd ?e1 ?r1 (weakE_junk _ _))))
              case e1 => first | rfl | exact fI (by omega) | (rfl)
              case r1 => intro h hh; cases hh
              case e3 => first | rfl | exact fI (by omega) | (rfl)
              case r3 => intro h hh; cases hh
              case e7 => first | rfl | exact fI (by omega) | (rfl)
              case r7 => intro h hh; simp [refs] at hh; subst hh; rfl
              case e8 => first | rfl | exact fI (by omega) | (rfl)
              case r8 => intro h hh; simp [refs] at hh; subst hh; rfl
          · refine tn_k (listed' := #[true, true, true, true, true, false, true, true, false, false]) rfl rfl rfl rfl (k_alloc zA24 rfl ?_)
            refine tn_step [5, 8] (by kernel_rfl) rfl ?_
            refine ⟨?_, ?_, trivial⟩
            · refine tn_k (listed' := #[true, true, true, true, true, true, true, true, false, false]) rfl rfl rfl rfl (k_make tE24 rfl rfl zA2 tBy2 rfl (by omega) (by omega) (by omega) rfl (by show _ = ps.length; omega) ?_)
              refine tn_step [8] (by kernel_rfl) rfl ?_
              refine ⟨?_, trivial⟩
              refine tn_k (listed' := #[true, true, true, true, true, true, true, true, true, false]) rfl rfl rfl rfl (k_store sz24 rfl (by conv=>lhs;whnf) rfl rfl rfl (Nat.le_of_ble_eq_true rfl) rfl ?_)
              refine tn_step [9] (by kernel_rfl) rfl ?_
              refine ⟨?_, trivial⟩
              refine tn_k (listed' := #[true, true, true, true, true, true, true, true, true, true]) rfl rfl rfl rfl (k_store sz24 rfl (by conv=>lhs;whnf) rfl rfl rfl (Nat.le_of_ble_eq_true rfl) rfl ?_)
              refine tn_end (by kernel_rfl) ?_
              refine sub_weak ?_ ?_
              · exact weakH_boxR (boxEq (rfl)) rfl (weakH_boxR (boxEq (rfl)) rfl (weakH_row (rowEq (rfl)) (weakH_row (rowEq (by first | rfl | (show List.replicate _ _ = List.map ci (List.replicate ps.length 0); rw [List.map_replicate]; rfl))) (weakH_none _))))
              · refine weakE_upd ?e8 ?r8 (weakE_upd ?e7 ?r7 (weakE_upd ?e3 ?r3 (weakE_upd ?e1 ?r1 (weakE_junk _ _))))
                case e1 => first | rfl | exact fI (by omega) | (rfl)
                case r1 => intro h hh; cases hh
                case e3 => first | rfl | exact fI (by omega) | (rfl)
                case r3 => intro h hh; cases hh
                case e7 => first | rfl | exact fI (by omega) | (rfl)
                case r7 => intro h hh; simp [refs] at hh; subst hh; rfl
                case e8 => first | rfl | exact fI (by omega) | (rfl)
                case r8 => intro h hh; simp [refs] at hh; subst hh; rfl
            · refine tn_k (listed' := #[true, true, true, true, true, false, true, true, true, false]) rfl rfl rfl rfl (k_store sz24 rfl (by conv=>lhs;whnf) rfl rfl rfl (Nat.le_of_ble_eq_true rfl) rfl ?_)
              refine tn_step [5] (by kernel_rfl) rfl ?_
              refine ⟨?_, trivial⟩
              refine tn_k (listed' := #[true, true, true, true, true, true, true, true, true, false]) rfl rfl rfl rfl (k_make tE24 rfl rfl zA2 tBy2 rfl (by omega) (by omega) (by omega) rfl (by show _ = ps.length; omega) ?_)
              refine tn_step [9] (by kernel_rfl) rfl ?_
              refine ⟨?_, trivial⟩
              refine tn_k (listed' := #[true, true, true, true, true, true, true, true, true, true]) rfl rfl rfl rfl (k_store sz24 rfl (by conv=>lhs;whnf) rfl rfl rfl (Nat.le_of_ble_eq_true rfl) rfl ?_)
              refine tn_end (by kernel_rfl) ?_
              refine sub_weak ?_ ?_
              · exact weakH_boxR (boxEq (rfl)) rfl (weakH_boxR (boxEq (rfl)) rfl (weakH_row (rowEq (rfl)) (weakH_row (rowEq (by first | rfl | (show List.replicate _ _ = List.map ci (List.replicate ps.length 0); rw [List.map_replicate]; rfl))) (weakH_none _))))
              · refine weakE_upd ?e8 ?r8 (weakE_upd ?e7 ?r7 (weakE_upd ?e3 ?r3 (weakE_upd ?e1 ?r1 (weakE_junk _ _))))
                case e1 => first | rfl | exact fI (by omega) | (rfl)
                case r1 => intro h hh; cases hh
                case e3 => first | rfl | exact fI (by omega) | (rfl)
                case r3 => intro h hh; cases hh
                case e7 => first | rfl | exact fI (by omega) | (rfl)
                case r7 => intro h hh; simp [refs] at hh; subst hh; rfl
                case e8 => first | rfl | exact fI (by omega) | (rfl)
                case r8 => intro h hh; simp [refs] at hh; subst hh; rfl
        · refine tn_k (listed' := #[true, false, true, true, true, true, true, false, false, false]) rfl rfl rfl rfl (k_make tE24 rfl rfl zA2 tBy2 rfl (by omega) (by omega) (by omega) rfl (by show _ = ps.length; omega) ?_)
          refine tn_step [1, 7] (by kernel_rfl) rfl ?_
          refine ⟨?_, ?_, trivial⟩
          · refine tn_k (listed' := #[true, true, true, true, true, true, true, false, false, false]) rfl rfl rfl rfl (k_callX [(7, 900001)] (D_slices_Clone_int64_int64_X ds (by omega)) rfl (rfl) (rfl) trivial ⟨⟨rfl, show (900001 : Nat) < 1000000 by decide⟩, trivial⟩ rfl rfl rfl ?_)
            refine tn_step [7] (by kernel_rfl) rfl ?_
            refine ⟨?_, trivial⟩
            refine tn_k (listed' := #[true, true, true, true, true, true, true, true, false, false]) rfl rfl rfl rfl (k_alloc zA24 rfl ?_)
            refine tn_step [8] (by kernel_rfl) rfl ?_
            refine ⟨?_, trivial⟩
            refine tn_k (listed' := #[true, true, true, true, true, true, true, true, true, false]) rfl rfl rfl rfl (k_store sz24 rfl (by conv=>lhs;whnf) rfl rfl rfl (Nat.le_of_ble_eq_true rfl) rfl ?_)
            refine tn_step [9] (by kernel_rfl) rfl ?_
            refine ⟨?_, trivial⟩
            refine tn_k (listed' := #[true, true, true, true, true, true, true, true, true, true]) rfl rfl rfl rfl (k_store sz24 rfl (by conv=>lhs;whnf) rfl rfl rfl (Nat.le_of_ble_eq_true rfl) rfl ?_)
            refine tn_end (by kernel_rfl) ?_
            refine sub_weak ?_ ?_
            · exact weakH_boxR (boxEq (rfl)) rfl (weakH_boxR (boxEq (rfl)) rfl (weakH_row (rowEq (rfl)) (weakH_row (rowEq (by first | rfl | (show List.replicate _ _ = List.map ci (List.replicate ps.length 0); rw [List.map_replicate]; rfl))) (weakH_none _))))
            · refine weakE_upd ?e8 ?r8 (weakE_upd ?e7 ?r7 (weakE_upd ?e3 ?r3 (weakE_upd ?e1 ?r1 (weakE_junk _ _))))
              case e1 => first | rfl | exact fI (by omega) | (rfl)
              case r1 => intro h hh; cases hh
              case e3 => first | rfl | exact fI (by omega) | (rfl)
              case r3 => intro h hh; cases hh
              case e7 => first | rfl | exact fI (by omega) | (rfl)
              case r7 => intro h hh; simp [refs] at hh; subst hh; rfl
              case e8 => first | rfl | exact fI (by omega) | (rfl)
              case r8 => intro h hh; simp [refs] at hh; subst hh; rfl
          · refine tn_k (listed' := #[true, false, true, true, true, true, true, true, false, false]) rfl rfl rfl rfl (k_alloc zA24 rfl ?_)
            refine tn_step [1] (by kernel_rfl) rfl ?_
            refine ⟨?_, trivial⟩
            refine tn_k (listed' := #[true, true, true, true, true, true, true, true, false, false]) rfl rfl rfl rfl (k_callX [(7, 900001)] (D_slices_Clone_int64_int64_X ds (by omega)) rfl (rfl) (rfl) trivial ⟨⟨rfl, show (900001 : Nat) < 1000000 by decide⟩, trivial⟩ rfl rfl rfl ?_)
            refine tn_step [8] (by kernel_rfl) rfl ?_
            refine ⟨?_, trivial⟩
            refine tn_k (listed' := #[true, true, true, true, true, true, true, true, true, false]) rfl rfl rfl rfl (k_store sz24 rfl (by conv=>lhs;whnf) rfl rfl rfl (Nat.le_of_ble_eq_true rfl) rfl ?_)
            refine tn_step [9] (by kernel_rfl) rfl ?_
            refine ⟨?_, trivial⟩
            refine tn_k (listed' := #[true, true, true, true, true, true, true, true, true, true]) rfl rfl rfl rfl (k_store sz24 rfl (by conv=>lhs;whnf) rfl rfl rfl (Nat.le_of_ble_eq_true rfl) rfl ?_)
            refine tn_end (by kernel_rfl) ?_
            refine sub_weak ?_ ?_
            · exact weakH_boxR (boxEq (rfl)) rfl (weakH_boxR (boxEq (rfl)) rfl (weakH_row (rowEq (rfl)) (weakH_row (rowEq (by first | rfl | (show List.replicate _ _ = List.map ci (List.replicate ps.length 0); rw [List.map_replicate]; rfl))) (weakH_none _))))
            · refine weakE_upd ?e8 ?r8 (weakE_upd ?e7 ?r7 (weakE_upd ?e3 ?r3 (weakE_upd ?e1 ?r1 (weakE_junk _ _))))
              case e1 => first | rfl | exact fI (by omega) | (rfl)
              case r1 => intro h hh; cases hh
              case e3 => first | rfl | exact fI (by omega) | (rfl)
              case r3 => intro h hh; cases hh
              case e7 => first | rfl | exact fI (by omega) | (rfl)
              case r7 => intro h hh; simp [refs] at hh; subst hh; rfl
              case e8 => first | rfl | exact fI (by omega) | (rfl)
              case r8 => intro h hh; simp [refs] at hh; subst hh; rfl
        · refine tn_k (listed' := #[true, false, true, true, true, false, true, true, false, false]) rfl rfl rfl rfl (k_alloc zA24 rfl ?_)
          refine tn_step [1, 5] (by kernel_rfl) rfl ?_
          refine ⟨?_, ?_, trivial⟩
          · refine tn_k (listed' := #[true, true, true, true, true, false, true, true, false, false]) rfl rfl rfl rfl (k_callX [(7, 900001)] (D_slices_Clone_int64_int64_X ds (by omega)) rfl (rfl) (rfl) trivial ⟨⟨rfl, show (900001 : Nat) < 1000000 by decide⟩, trivial⟩ rfl rfl rfl ?_)
            refine tn_step [5, 8] (by kernel_rfl) rfl ?_
            refine ⟨?_, ?_, trivial⟩
            · refine tn_k (listed' := #[true, true, true, true, true, true, true, true, false, false]) rfl rfl rfl rfl (k_make tE24 rfl rfl zA2 tBy2 rfl (by omega) (by omega) (by omega) rfl (by show _ = ps.length; omega) ?_)
              refine tn_step [8] (by kernel_rfl) rfl ?_
              refine ⟨?_, trivial⟩
              refine tn_k (listed' := #[true, true, true, true, true, true, true, true, true, false]) rfl rfl rfl rfl (k_store sz24 rfl (by conv=>lhs;whnf) rfl rfl rfl (Nat.le_of_ble_eq_true rfl) rfl ?_)
              refine tn_step [9] (by kernel_rfl) rfl ?_
              refine ⟨?_, trivial⟩
              refine tn_k (listed' := #[true, true, true, true, true, true, true, true, true, true]) rfl rfl rfl rfl (k_store sz24 rfl (by conv=>lhs;whnf) rfl rfl rfl (Nat.le_of_ble_eq_true rfl) rfl ?_)
              refine tn_end (by kernel_rfl) ?_
              refine sub_weak ?_ ?_
              · exact weakH_boxR (boxEq (rfl)) rfl (weakH_boxR (boxEq (rfl)) rfl (weakH_row (rowEq (rfl)) (weakH_row (rowEq (by first | rfl | (show List.replicate _ _ = List.map ci (List.replicate ps.length 0); rw [List.map_replicate]; rfl))) (weakH_none _))))
              · refine weakE_upd ?e8 ?r8 (weakE_upd ?e7 ?r7 (weakE_upd ?e3 ?r3 (weakE_upd ?e1 ?r1 (weakE_junk _ _))))
                case e1 => first | rfl | exact fI (by omega) | (rfl)
                case r1 => intro h hh; cases hh
                case e3 => first | rfl | exact fI (by omega) | (rfl)
                case r3 => intro h hh; cases hh
                case e7 => first | rfl | exact fI (by omega) | (rfl)
                case r7 => intro h hh; simp [refs] at hh; subst hh; rfl
                case e8 => first | rfl | exact fI (by omega) | (rfl)
                case r8 => intro h hh; simp [refs] at hh; subst hh; rfl
            · refine tn_k (listed' := #[true, true, true, true, true, false, true, true, true, false]) rfl rfl rfl rfl (k_store sz24 rfl (by conv=>lhs;whnf) rfl rfl rfl (Nat.le_of_ble_eq_true rfl) rfl ?_)
              refine tn_step [5] (by kernel_rfl) rfl ?_
              refine ⟨?_, trivial⟩
              refine tn_k (listed' := #[true, true, true, true, true, true, true, true, true, false]) rfl rfl rfl rfl (k_make tE24 rfl rfl zA2 tBy2 rfl (by omega) (by omega) (by omega) rfl (by show _ = ps.length; omega) ?_)
              refine tn_step [9] (by kernel_rfl) rfl ?_
              refine ⟨?_, trivial⟩
              refine tn_k (listed' := #[true, true, true, true, true, true, true, true, true, true]) rfl rfl rfl rfl (k_store sz24 rfl (by conv=>lhs;whnf) rfl rfl rfl (Nat.le_of_ble_eq_true rfl) rfl ?_)
              refine tn_end (by kernel_rfl) ?_
              refine sub_weak ?_ ?_
              · exact weakH_boxR (boxEq (rfl)) rfl (weakH_boxR (boxEq (rfl)) rfl (weakH_row (rowEq (rfl)) (weakH_row (rowEq (by first | rfl | (show List.replicate _ _ = List.map ci (List.replicate ps.length 0); rw [List.map_replicate]; rfl))) (weakH_none _))))
              · refine weakE_upd ?e8 ?r8 (weakE_upd ?e7 ?r7 (weakE_upd ?e3 ?r3 (weakE_upd ?e1 ?r1 (weakE_junk _ _))))
                case e1 => first | rfl | exact fI (by omega) | (rfl)
                case r1 => intro h hh; cases hh
                case e3 => first | rfl | exact fI (by omega) | (rfl)
                case r3 => intro h hh; cases hh
                case e7 => first | rfl | exact fI (by omega) | (rfl)
                case r7 => intro h hh; simp [refs] at hh; subst hh; rfl
                case e8 => first | rfl | exact fI (by omega) | (rfl)
                case r8 => intro h hh; simp [refs] at hh; subst hh; rfl
          · refine tn_k (listed' := #[true, false, true, true, true, true, true, true, false, false]) rfl rfl rfl rfl (k_make tE24 rfl rfl zA2 tBy2 rfl (by omega) (by omega) (by omega) rfl (by show _ = ps.length; omega) ?_)
            refine tn_step [1] (by kernel_rfl) rfl ?_
            refine ⟨?_, trivial⟩
            refine tn_k (listed' := #[true, true, true, true, true, true, true, true, false, false]) rfl rfl rfl rfl (k_callX [(7, 900001)] (D_slices_Clone_int64_int64_X ds (by omega)) rfl (rfl) (rfl) trivial ⟨⟨rfl, show (900001 : Nat) < 1000000 by decide⟩, trivial⟩ rfl rfl rfl ?_)
            refine tn_step [8] (by kernel_rfl) rfl ?_
            refine ⟨?_, trivial⟩
            refine tn_k (listed' := #[true, true, true, true, true, true, true, true, true, false]) rfl rfl rfl rfl (k_store sz24 rfl (by conv=>lhs;whnf) rfl rfl rfl (Nat.le_of_ble_eq_true rfl) rfl ?_)
            refine tn_step [9] (by kernel_rfl) rfl ?_
            refine ⟨?_, trivial⟩
            refine tn_k (listed' := #[true, true, true, true, true, true, true, true, true, true]) rfl rfl rfl rfl (k_store sz24 rfl (by conv=>lhs;whnf) rfl rfl rfl (Nat.le_of_ble_eq_true rfl) rfl ?_)
            refine tn_end (by kernel_rfl) ?_
            refine sub_weak ?_ ?_
            · exact weakH_boxR (boxEq (rfl)) rfl (weakH_boxR (boxEq (rfl)) rfl (weakH_row (rowEq (rfl)) (weakH_row (rowEq (by first | rfl | (show List.replicate _ _ = List.map ci (List.replicate ps.length 0); rw [List.map_replicate]; rfl))) (weakH_none _))))
            · refine weakE_upd ?e8 ?r8 (weakE_upd ?e7 ?r7 (weakE_upd ?e3 ?r3 (weakE_upd ?e1 ?r1 (weakE_junk _ _))))
              case e1 => first | rfl | exact fI (by omega) | (rfl)
              case r1 => intro h hh; cases hh
              case e3 => first | rfl | exact fI (by omega) | (rfl)
              case r3 => intro h hh; cases hh
              case e7 => first | rfl | exact fI (by omega) | (rfl)
              case r7 => intro h hh; simp [refs] at hh; subst hh; rfl
              case e8 => first | rfl | exact fI (by omega) | (rfl)
              case r8 => intro h hh; simp [refs] at hh; subst hh; rfl
      · refine tn_k (listed' := #[true, false, true, true, true, false, false, true, false, false]) rfl rfl rfl rfl (k_alloc zA24 rfl ?_)
        refine tn_step [1, 5, 6] (by kernel_rfl) rfl ?_
        refine ⟨?_, ?_, ?_, trivial⟩
        · refine tn_k (listed' := #[true, true, true, true, true, false, false, true, false, false]) rfl rfl rfl rfl (k_callX [(7, 900001)] (D_slices_Clone_int64_int64_X ds (by omega)) rfl (rfl) (rfl) trivial ⟨⟨rfl, show (900001 : Nat) < 1000000 by decide⟩, trivial⟩ rfl rfl rfl ?_)
          refine tn_step [5, 6] (by kernel_rfl) rfl ?_
          refine ⟨?_, ?_, trivial⟩
          · refine tn_k (listed' := #[true, true, true, true, true, true, false, true, false, false]) rfl rfl rfl rfl (k_make tE24 rfl rfl zA2 tBy2 rfl (by omega) (by omega) (by omega) rfl (by show _ = ps.length; omega) ?_)
            refine tn_step [6] (by kernel_rfl) rfl ?_
            refine ⟨?_, trivial⟩
            refine tn_k (listed' := #[true, true, true, true, true, true, true, true, false, false]) rfl rfl rfl rfl (k_alloc zA24 rfl ?_)
            refine tn_step [8] (by kernel_rfl) rfl ?_
            refine ⟨?_, trivial⟩
            refine tn_k (listed' := #[true, true, true, true, true, true, true, true, true, false]) rfl rfl rfl rfl (k_store sz24 rfl (by conv=>lhs;whnf) rfl rfl rfl (Nat.le_of_ble_eq_true rfl) rfl ?_)
            refine tn_step [9] (by kernel_rfl) rfl ?_
            refine ⟨?_, trivial⟩
            refine tn_k (listed' := #[true, true, true, true, true, true, true, true, true, true]) rfl rfl rfl rfl (k_store sz24 rfl (by conv=>lhs;whnf) rfl rfl rfl (Nat.le_of_ble_eq_true rfl) rfl ?_)
            refine tn_end (by kernel_rfl) ?_
            refine sub_weak ?_ ?_
            · exact weakH_boxR (boxEq (rfl)) rfl (weakH_boxR (boxEq (rfl)) rfl (weakH_row (rowEq (rfl)) (weakH_row (rowEq (by first | rfl | (show List.replicate _ _ = List.map ci (List.replicate ps.length 0); rw [List.map_replicate]; rfl))) (weakH_none _))))
            · refine weakE_upd ?e8 ?r8 (weakE_upd ?e7 ?r7 (weakE_upd ?e3 ?r3 (weakE_upd ?e1 ?r1 (weakE_junk _ _))))
              case e1 => first | rfl | exact fI (by omega) | (rfl)
              case r1 => intro h hh; cases hh
              case e3 => first | rfl | exact fI (by omega) | (rfl)
              case r3 => intro h hh; cases hh
              case e7 => first | rfl | exact fI (by omega) | (rfl)
              case r7 => intro h hh; simp [refs] at hh; subst hh; rfl
              case e8 => first | rfl | exact fI (by omega) | (rfl)
              case r8 => intro h hh; simp [refs] at hh; subst hh; rfl
          · refine tn_k (listed' := #[true, true, true, true, true, false, true, true, false, false]) rfl rfl rfl rfl (k_alloc zA24 rfl ?_)
            refine tn_step [5, 8] (by kernel_rfl) rfl ?_
            refine ⟨?_, ?_, trivial⟩
            · refine tn_k (listed' := #[true, true, true, true, true, true, true, true, false, false]) rfl rfl rfl rfl (k_make tE24 rfl rfl zA2 tBy2 rfl (by omega) (by omega) (by omega) rfl (by show _ = ps.length; omega) ?_)
              refine tn_step [8] (by kernel_rfl) rfl ?_
              refine ⟨?_, trivial⟩
              refine tn_k (listed' := #[true, true, true, true, true, true, true, true, true, false]) rfl rfl rfl rfl (k_store sz24 rfl (by conv=>lhs;whnf) rfl rfl rfl (Nat.le_of_ble_eq_true rfl) rfl ?_)
              refine tn_step [9] (by kernel_rfl) rfl ?_
              refine ⟨?_, trivial⟩
              refine tn_k (listed' := #[true, true, true, true, true, true, true, true, true, true]) rfl rfl rfl rfl (k_store sz24 rfl (by conv=>lhs;whnf) rfl rfl rfl (Nat.le_of_ble_eq_true rfl) rfl ?_)
              refine tn_end (by kernel_rfl) ?_
              refine sub_weak ?_ ?_
              · exact weakH_boxR (boxEq (rfl)) rfl (weakH_boxR (boxEq (rfl)) rfl (weakH_row (rowEq (rfl)) (weakH_row (rowEq (by first | rfl | (show List.replicate _ _ = List.map ci (List.replicate ps.length 0); rw [List.map_replicate]; rfl))) (weakH_none _))))
              · refine weakE_upd ?e8 ?r8 (weakE_upd ?e7 ?r7 (weakE_upd ?e3 ?r3 (weakE_upd ?e1 ?r1 (weakE_junk _ _))))
                case e1 => first | rfl | exact fI (by omega) | (rfl)
                case r1 => intro h hh; cases hh
                case e3 => first | rfl | exact fI (by omega) | (rfl)
                case r3 => intro h hh; cases hh
                case e7 => first | rfl | exact fI (by omega) | (rfl)
                case r7 => intro h hh; simp [refs] at hh; subst hh; rfl
                case e8 => first | rfl | exact fI (by omega) | (rfl)
                case r8 => intro h hh; simp [refs] at hh; subst hh; rfl
            · refine tn_k (listed' := #[true, true, true, true, true, false, true, true, true, false]) rfl rfl rfl rfl (k_store sz24 rfl (by conv=>lhs;whnf) rfl rfl rfl (Nat.le_of_ble_eq_true rfl) rfl ?_)
              refine tn_step [5] (by kernel_rfl) rfl ?_
              refine ⟨?_, trivial⟩
              refine tn_k (listed' := #[true, true, true, true, true, true, true, true, true, false]) rfl rfl rfl rfl (k_make tE24 rfl rfl zA2 tBy2 rfl (by omega) (by omega) (by omega) rfl (by show _ = ps.length; omega) ?_)
              refine tn_step [9] (by kernel_rfl) rfl ?_
              refine ⟨?_, trivial⟩
              refine tn_k (listed' := #[true, true, true, true, true, true, true, true, true, true]) rfl rfl rfl rfl (k_store sz24 rfl (by conv=>lhs;whnf) rfl rfl rfl (Nat.le_of_ble_eq_true rfl) rfl ?_)
              refine tn_end (by kernel_rfl) ?_
              refine sub_weak ?_ ?_
              · exact weakH_boxR (boxEq (rfl)) rfl (weakH_boxR (boxEq (rfl)) rfl (weakH_row (rowEq (rfl)) (weakH_row (rowEq (by first | rfl | (show List.replicate _ _ = List.map ci (List.replicate ps.length 0); rw [List.map_replicate]; rfl))) (weakH_none _))))
              · refine weakE_upd ?e8 ?r8 (weakE_upd ?e7 ?r7 (weakE_upd ?e3 ?r3 (weakE_upd ?e1 ?r1 (weakE_junk _ _))))
                case e1 => first | rfl | exact fI (by omega) | (rfl)
                case r1 => intro h hh; cases hh
                case e3 => first | rfl | exact fI (by omega) | (rfl)
                case r3 => intro h hh; cases hh
                case e7 => first | rfl | exact fI (by omega) | (rfl)
                case r7 => intro h hh; simp [refs] at hh; subst hh; rfl
                case e8 => first | rfl | exact fI (by omega) | (rfl)
                case r8 => intro h hh; simp [refs] at hh; subst hh; rfl
        · refine tn_k (listed' := #[true, false, true, true, true, true, false, true, false, false]) rfl rfl rfl rfl (k_make tE24 rfl rfl zA2 tBy2 rfl (by omega) (by omega) (by omega) rfl (by show _ = ps.length; omega) ?_)
          refine tn_step [1, 6] (by kernel_rfl) rfl ?_
          refine ⟨?_, ?_, trivial⟩
          · refine tn_k (listed' := #[true, true, true, true, true, true, false, true, false, false]) rfl rfl rfl rfl (k_callX [(7, 900001)] (D_slices_Clone_int64_int64_X ds (by omega)) rfl (rfl) (rfl) trivial ⟨⟨rfl, show (900001 : Nat) < 1000000 by decide⟩, trivial⟩ rfl rfl rfl ?_)
            refine tn_step [6] (by kernel_rfl) rfl ?_
            refine ⟨?_, trivial⟩
            refine tn_k (listed' := #[true, true, true, true, true, true, true, true, false, false]) rfl rfl rfl rfl (k_alloc zA24 rfl ?_)
            refine tn_step [8] (by kernel_rfl) rfl ?_
            refine ⟨?_, trivial⟩
            refine tn_k (listed' := #[true, true, true, true, true, true, true, true, true, false]) rfl rfl rfl rfl (k_store sz24 rfl (by conv=>lhs;whnf) rfl rfl rfl (Nat.le_of_ble_eq_true rfl) rfl ?_)
            refine tn_step [9] (by kernel_rfl) rfl ?_
            refine ⟨?_, trivial⟩
            refine tn_k (listed' := #[true, true, true, true, true, true, true, true, true, true]) rfl rfl rfl rfl (k_store sz24 rfl (by conv=>lhs;whnf) rfl rfl rfl (Nat.le_of_ble_eq_true rfl) rfl ?_)
            refine tn_end (by kernel_rfl) ?_
            refine sub_weak ?_ ?_
            · exact weakH_boxR (boxEq (rfl)) rfl (weakH_boxR (boxEq (rfl)) rfl (weakH_row (rowEq (rfl)) (weakH_row (rowEq (by first | rfl | (show List.replicate _ _ = List.map ci (List.replicate ps.length 0); rw [List.map_replicate]; rfl))) (weakH_none _))))
            · refine weakE_upd ?e8 ?r8 (weakE_upd ?e7 ?r7 (weakE_upd ?e3 ?r3 (weakE_upd ?e1 ?r1 (weakE_junk _ _))))
              case e1 => first | rfl | exact fI (by omega) | (rfl)
              case r1 => intro h hh; cases hh
              case e3 => first | rfl | exact fI (by omega) | (rfl)
              case r3 => intro h hh; cases hh
              case e7 => first | rfl | exact fI (by omega) | (rfl)
              case r7 => intro h hh; simp [refs] at hh; subst hh; rfl
              case e8 => first | rfl | exact fI (by omega) | (rfl)
              case r8 => intro h hh; simp [refs] at hh; subst hh; rfl
          · refine tn_k (listed' := #[true, false, true, true, true, true, true, true, false, false]) rfl rfl rfl rfl (k_alloc zA24 rfl ?_)
            refine tn_step [1] (by kernel_rfl) rfl ?_
            refine ⟨?_, trivial⟩
            refine tn_k (listed' := #[true, true, true, true, true, true, true, true, false, false]) rfl rfl rfl rfl (k_callX [(7, 900001)] (D_slices_Clone_int64_int64_X ds (by omega)) rfl (rfl) (rfl) trivial ⟨⟨rfl, show (900001 : Nat) < 1000000 by decide⟩, trivial⟩ rfl rfl rfl ?_)
            refine tn_step [8] (by kernel_rfl) rfl ?_
            refine ⟨?_, trivial⟩
            refine tn_k (listed' := #[true, true, true, true, true, true, true, true, true, false]) rfl rfl rfl rfl (k_store sz24 rfl (by conv=>lhs;whnf) rfl rfl rfl (Nat.le_of_ble_eq_true rfl) rfl ?_)
            refine tn_step [9] (by kernel_rfl) rfl ?_
            refine ⟨?_, trivial⟩
            refine tn_k (listed' := #[true, true, true, true, true, true, true, true, true, true]) rfl rfl rfl rfl (k_store sz24 rfl (by conv=>lhs;whnf) rfl rfl rfl (Nat.le_of_ble_eq_true rfl) rfl ?_)
            refine tn_end (by kernel_rfl) ?_
            refine sub_weak ?_ ?_
            · exact weakH_boxR (boxEq (rfl)) rfl (weakH_boxR (boxEq (rfl)) rfl (weakH_row (rowEq (rfl)) (weakH_row (rowEq (by first | rfl | (show List.replicate _ _ = List.map ci (List.replicate ps.length 0); rw [List.map_replicate]; rfl))) (weakH_none _))))
            · refine weakE_upd ?e8 ?r8 (weakE_upd ?e7 ?r7 (weakE_upd ?e3 ?r3 (weakE_upd ?e1 ?r1 (weakE_junk _ _))))
              case e1 => first | rfl | exact fI (by omega) | (rfl)
              case r1 => intro h hh; cases hh
              case e3 => first | rfl | exact fI (by omega) | (rfl)
              case r3 => intro h hh; cases hh
              case e7 => first | rfl | exact fI (by omega) | (rfl)
              case r7 => intro h hh; simp [refs] at hh; subst hh; rfl
              case e8 => first | rfl | exact fI (by omega) | (rfl)
              case r8 => intro h hh; simp [refs] at hh; subst hh; rfl
        · refine tn_k (listed' := #[true, false, true, true, true, false, true, true, false, false]) rfl rfl rfl rfl (k_alloc zA24 rfl ?_)
          refine tn_step [1, 5] (by kernel_rfl) rfl ?_
          refine ⟨?_, ?_, trivial⟩
          · refine tn_k (listed' := #[true, true, true, true, true, false, true, true, false, false]) rfl rfl rfl rfl (k_callX [(7, 900001)] (D_slices_Clone_int64_int64_X ds (by omega)) rfl (rfl) (rfl) trivial ⟨⟨rfl, show (900001 : Nat) < 1000000 by decide⟩, trivial⟩ rfl rfl rfl ?_)
            refine tn_step [5, 8] (by kernel_rfl) rfl ?_
            refine ⟨?_, ?_, trivial⟩
            · refine tn_k (listed' := #[true, true, true, true, true, true, true, true, false, false]) rfl rfl rfl rfl (k_make tE24 rfl rfl zA2 tBy2 rfl (by omega) (by omega) (by omega) rfl (by show _ = ps.length; omega) ?_)
              refine tn_step [8] (by kernel_rfl) rfl ?_
              refine ⟨?_, trivial⟩
              refine tn_k (listed' := #[true, true, true, true, true, true, true, true, true, false]) rfl rfl rfl rfl (k_store sz24 rfl (by conv=>lhs;whnf) rfl rfl rfl (Nat.le_of_ble_eq_true rfl) rfl ?_)
              refine tn_step [9] (by kernel_rfl) rfl ?_
              refine ⟨?_, trivial⟩
              refine tn_k (listed' := #[true, true, true, true, true, true, true, true, true, true]) rfl rfl rfl rfl (k_store sz24 rfl (by conv=>lhs;whnf) rfl rfl rfl (Nat.le_of_ble_eq_true rfl) rfl ?_)
              refine tn_end (by kernel_rfl) ?_
              refine sub_weak ?_ ?_
              · exact weakH_boxR (boxEq (rfl)) rfl (weakH_boxR (boxEq (rfl)) rfl (weakH_row (rowEq (rfl)) (weakH_row (rowEq (by first | rfl | (show List.replicate _ _ = List.map ci (List.replicate ps.length 0); rw [List.map_replicate]; rfl))) (weakH_none _))))
              · refine weakE_upd ?e8 ?r8 (weakE_upd ?e7 ?r7 (weakE_upd ?e3 ?r3 (weakE_upd ?e1 ?r1 (weakE_junk _ _))))
                case e1 => first | rfl | exact fI (by omega) | (rfl)
                case r1 => intro h hh; cases hh
                case e3 => first | rfl | exact fI (by omega) | (rfl)
                case r3 => intro h hh; cases hh
                case e7 => first | rfl | exact fI (by omega) | (rfl)
                case r7 => intro h hh; simp [refs] at hh; subst hh; rfl
                case e8 => first | rfl | exact fI (by omega) | (rfl)
                case r8 => intro h hh; simp [refs] at hh; subst hh; rfl
            · refine tn_k (listed' := #[true, true, true, true, true, false, true, true, true, false]) rfl rfl rfl rfl (k_store sz24 rfl (by conv=>lhs;whnf) rfl rfl rfl (Nat.le_of_ble_eq_true rfl) rfl ?_)
              refine tn_step [5] (by kernel_rfl) rfl ?_
              refine ⟨?_, trivial⟩
              refine tn_k (listed' := #[true, true, true, true, true, true, true, true, true, false]) rfl rfl rfl rfl (k_make tE24 rfl rfl zA2 tBy2 rfl (by omega) (by omega) (by omega) rfl (by show _ = ps.length; omega) ?_)
              refine tn_step [9] (by kernel_rfl) rfl ?_
              refine ⟨?_, trivial⟩
              refine tn_k (listed' := #[true, true, true, true, true, true, true, true, true, true]) rfl rfl rfl rfl (k_store sz24 rfl (by conv=>lhs;whnf) rfl rfl rfl (Nat.le_of_ble_eq_true rfl) rfl ?_)
              refine tn_end (by kernel_rfl) ?_
              refine sub_weak ?_ ?_
              · exact weakH_boxR (boxEq (rfl)) rfl (weakH_boxR (boxEq (rfl)) rfl (weakH_row (rowEq (rfl)) (weakH_row (rowEq (by first | rfl | (show List.replicate _ _ = List.map ci (List.replicate ps.length 0); rw [List.map_replicate]; rfl))) (weakH_none _))))
              · refine weakE_upd ?e8 ?r8 (weakE_upd ?e7 ?r7 (weakE_upd ?e3 ?r3 (weakE_upd ?e1 ?r1 (weakE_junk _ _))))
                case e1 => first | rfl | exact fI (by omega) | (rfl)
                case r1 => intro h hh; cases hh
                case e3 => first | rfl | exact fI (by omega) | (rfl)
                case r3 => intro h hh; cases hh
                case e7 => first | rfl | exact fI (by omega) | (rfl)
                case r7 => intro h hh; simp [refs] at hh; subst hh; rfl
                case e8 => first | rfl | exact fI (by omega) | (rfl)
                case r8 => intro h hh; simp [refs] at hh; subst hh; rfl
          · refine tn_k (listed' := #[true, false, true, true, true, true, true, true, false, false]) rfl rfl rfl rfl (k_make tE24 rfl rfl zA2 tBy2 rfl (by omega) (by omega) (by omega) rfl (by show _ = ps.length; omega) ?_)
            refine tn_step [1] (by kernel_rfl) rfl ?_
            refine ⟨?_, trivial⟩
            refine tn_k (listed' := #[true, true, true, true, true, true, true, true, false, false]) rfl rfl rfl rfl (k_callX [(7, 900001)] (D_slices_Clone_int64_int64_X ds (by omega)) rfl (rfl) (rfl) trivial ⟨⟨rfl, show (900001 : Nat) < 1000000 by decide⟩, trivial⟩ rfl rfl rfl ?_)
            refine tn_step [8] (by kernel_rfl) rfl ?_
            refine ⟨?_, trivial⟩
            refine tn_k (listed' := #[true, true, true, true, true, true, true, true, true, false]) rfl rfl rfl rfl (k_store sz24 rfl (by conv=>lhs;whnf) rfl rfl rfl (Nat.le_of_ble_eq_true rfl) rfl ?_)
            refine tn_step [9] (by kernel_rfl) rfl ?_
            refine ⟨?_, trivial⟩
            refine tn_k (listed' := #[true, true, true, true, true, true, true, true, true, true]) rfl rfl rfl rfl (k_store sz24 rfl (by conv=>lhs;whnf) rfl rfl rfl (Nat.le_of_ble_eq_true rfl) rfl ?_)
            refine tn_end (by kernel_rfl) ?_
            refine sub_weak ?_ ?_
            · exact weakH_boxR (boxEq (rfl)) rfl (weakH_boxR (boxEq (rfl)) rfl (weakH_row (rowEq (rfl)) (weakH_row (rowEq (by first | rfl | (show List.replicate _ _ = List.map ci (List.replicate ps.length 0); rw [List.map_replicate]; rfl))) (weakH_none _))))
            · refine weakE_upd ?e8 ?r8 (weakE_upd ?e7 ?r7 (weakE_upd ?e3 ?r3 (weakE_upd ?e1 ?r1 (weakE_junk _ _))))
              case e1 => first | rfl | exact fI (by omega) | (rfl)
              case r1 => intro h hh; cases hh
              case e3 => first | rfl | exact fI (by omega) | (rfl)
              case r3 => intro h hh; cases hh
              case e7 => first | rfl | exact fI (by omega) | (rfl)
              case r7 => intro h hh; simp [refs] at hh; subst hh; rfl
              case e8 => first | rfl | exact fI (by omega) | (rfl)
              case r8 => intro h hh; simp [refs] at hh; subst hh; rfl
    · refine tn_k (listed' := #[true, false, true, true, false, false, true, false, false, false]) rfl rfl rfl rfl (k_alloc zA24 rfl ?_)
      refine tn_step [1, 4, 7] (by kernel_rfl) rfl ?_
      refine ⟨?_, ?_, ?_, trivial⟩
      · refine tn_k (listed' := #[true, true, true, true, false, false, true, false, false, false]) rfl rfl rfl rfl (k_callX [(7, 900001)] (D_slices_Clone_int64_int64_X ds (by omega)) rfl (rfl) (rfl) trivial ⟨⟨rfl, show (900001 : Nat) < 1000000 by decide⟩, trivial⟩ rfl rfl rfl ?_)
        refine tn_step [4, 7] (by kernel_rfl) rfl ?_
        refine ⟨?_, ?_, trivial⟩
        · refine tn_q (listed' := #[true, true, true, true, true, false, true, false, false, false]) rfl rfl rfl (q_len tEs25 rfl ?_)
          intro n11 hn11
          try simp only [List.length_map] at hn11
          refine tn_step [5, 7] (by kernel_rfl) rfl ?_
          refine ⟨?_, ?_, trivial⟩
          · refine tn_k (listed' := #[true, true, true, true, true, true, true, false, false, false]) rfl rfl rfl rfl (k_make tE24 rfl rfl zA2 tBy2 rfl (by omega) (by omega) (by omega) rfl (by show _ = ps.length; omega) ?_)
            refine tn_step [7] (by kernel_rfl) rfl ?_
            refine ⟨?_, trivial⟩
            refine tn_k (listed' := #[true, true, true, true, true, true, true, true, false, false]) rfl rfl rfl rfl (k_alloc zA24 rfl ?_)
            refine tn_step [8] (by kernel_rfl) rfl ?_
            refine ⟨?_, trivial⟩
            refine tn_k (listed' := #[true, true, true, true, true, true, true, true, true, false]) rfl rfl rfl rfl (k_store sz24 rfl (by conv=>lhs;whnf) rfl rfl rfl (Nat.le_of_ble_eq_true rfl) rfl ?_)
            refine tn_step [9] (by kernel_rfl) rfl ?_
            refine ⟨?_, trivial⟩
            refine tn_k (listed' := #[true, true, true, true, true, true, true, true, true, true]) rfl rfl rfl rfl (k_store sz24 rfl (by conv=>lhs;whnf) rfl rfl rfl (Nat.le_of_ble_eq_true rfl) rfl ?_)
            refine tn_end (by kernel_rfl) ?_
            refine sub_weak ?_ ?_
            · exact weakH_boxR (boxEq (rfl)) rfl (weakH_boxR (boxEq (rfl)) rfl (weakH_row (rowEq (rfl)) (weakH_row (rowEq (by first | rfl | (show List.replicate _ _ = List.map ci (List.replicate ps.length 0); rw [List.map_replicate]; rfl))) (weakH_none _))))
            · refine weakE_upd ?e8 ?r8 (weakE_upd ?e7 ?r7 (weakE_upd ?e3 ?r3 (weakE_upd ?e1 ?r1 (weakE_junk _ _))))
              case e1 => first | rfl | exact fI (by omega) | (rfl)
              case r1 => intro h hh; cases hh
              case e3 => first | rfl | exact fI (by omega) | (rfl)
              case r3 => intro h hh; cases hh
              case e7 => first | rfl | exact fI (by omega) | (rfl)
              case r7 => intro h hh; simp [refs] at hh; subst hh; rfl
              case e8 => first | rfl | exact fI (by omega) | (rfl)
              case r8 => intro h hh; simp [refs] at hh; subst hh; rfl
          · refine tn_k (listed' := #[true, true, true, true, true, false, true, true, false, false]) rfl rfl rfl rfl (k_alloc zA24 rfl ?_)
            refine tn_step [5, 8] (by kernel_rfl) rfl ?_
            refine ⟨?_, ?_, trivial⟩
            · refine tn_k (listed' := #[true, true, true, true, true, true, true, true, false, false]) rfl rfl rfl rfl (k_make tE24 rfl rfl zA2 tBy2 rfl (by omega) (by omega) (by omega) rfl (by show _ = ps.length; omega) ?_)
              refine tn_step [8] (by kernel_rfl) rfl ?_
              refine ⟨?_, trivial⟩
              refine tn_k (listed' := #[true, true, true, true, true, true, true, true, true, false]) rfl rfl rfl rfl (k_store sz24 rfl (by conv=>lhs;whnf) rfl rfl rfl (Nat.le_of_ble_eq_true rfl) rfl ?_)
              refine tn_step [9] (by kernel_rfl) rfl ?_
              refine ⟨?_, trivial⟩
              refine tn_k (listed' := #[true, true, true, true, true, true, true, true, true, true]) rfl rfl rfl rfl (k_store sz24 rfl (by conv=>lhs;whnf) rfl rfl rfl (Nat.le_of_ble_eq_true rfl) rfl ?_)
              refine tn_end (by kernel_rfl) ?_
              refine sub_weak ?_ ?_
              · exact weakH_boxR (boxEq (rfl)) rfl (weakH_boxR (boxEq (rfl)) rfl (weakH_row (rowEq (rfl)) (weakH_row (rowEq (by first | rfl | (show List.replicate _ _ = List.map ci (List.replicate ps.length 0); rw [List.map_replicate]; rfl))) (weakH_none _))))
              · refine weakE_upd ?e8 ?r8 (weakE_upd ?e7 ?r7 (weakE_upd ?e3 ?r3 (weakE_upd ?e1 ?r1 (weakE_junk _ _))))
                case e1 => first | rfl | exact fI (by omega) | (rfl)
                case r1 => intro h hh; cases hh
                case e3 => first | rfl | exact fI (by omega) | (rfl)
                case r3 => intro h hh; cases hh
                case e7 => first | rfl | exact fI (by omega) | (rfl)
                case r7 => intro h hh; simp [refs] at hh; subst hh; rfl
                case e8 => first | rfl | exact fI (by omega) | (rfl)
                case r8 => intro h hh; simp [refs] at hh; subst hh; rfl
            · refine tn_k (listed' := #[true, true, true, true, true, false, true, true, true, false]) rfl rfl rfl rfl (k_store sz24 rfl (by conv=>lhs;whnf) rfl rfl rfl (Nat.le_of_ble_eq_true rfl) rfl ?_)
              refine tn_step [5] (by kernel_rfl) rfl ?_
              refine ⟨?_, trivial⟩
              refine tn_k (listed' := #[true, true, true, true, true, true, true, true, true, false]) rfl rfl rfl rfl (k_make tE24 rfl rfl zA2 tBy2 rfl (by omega) (by omega) (by omega) rfl (by show _ = ps.length; omega) ?_)
              refine tn_step [9] (by kernel_rfl) rfl ?_
              refine ⟨?_, trivial⟩
              refine tn_k (listed' := #[true, true, true, true, true, true, true, true, true, true]) rfl rfl rfl rfl (k_store sz24 rfl (by conv=>lhs;whnf) rfl rfl rfl (Nat.le_of_ble_eq_true rfl) rfl ?_)
              refine tn_end (by kernel_rfl) ?_
              refine sub_weak ?_ ?_
              · exact weakH_boxR (boxEq (rfl)) rfl (weakH_boxR (boxEq (rfl)) rfl (weakH_row (rowEq (rfl)) (weakH_row (rowEq (by first | rfl | (show List.replicate _ _ = List.map ci (List.replicate ps.length 0); rw [List.map_replicate]; rfl))) (weakH_none _))))
              · refine weakE_upd ?e8 ?r8 (weakE_upd ?e7 ?r7 (weakE_upd ?e3 ?r3 (weakE_upd ?e1 ?r1 (weakE_junk _ _))))
                case e1 => first | rfl | exact fI (by omega) | (rfl)
                case r1 => intro h hh; cases hh
                case e3 => first | rfl | exact fI (by omega) | (rfl)
                case r3 => intro h hh; cases hh
                case e7 => first | rfl | exact fI (by omega) | (rfl)
                case r7 => intro h hh; simp [refs] at hh; subst hh; rfl
                case e8 => first | rfl | exact fI (by omega) | (rfl)
                case r8 => intro h hh; simp [refs] at hh; subst hh; rfl
        · refine tn_k (listed' := #[true, true, true, true, false, false, true, true, false, false]) rfl rfl rfl rfl (k_alloc zA24 rfl ?_)
          refine tn_step [4, 8] (by kernel_rfl) rfl ?_
          refine ⟨?_, ?_, trivial⟩
          · refine tn_q (listed' := #[true, true, true, true, true, false, true, true, false, false]) rfl rfl rfl (q_len tEs25 rfl ?_)
            intro n12 hn12
            try simp only [List.length_map] at hn12
            refine tn_step [5, 8] (by kernel_rfl) rfl ?_
            refine ⟨?_, ?_, trivial⟩
            · refine tn_k (listed' := #[true, true, true, true, true, true, true, true, false, false]) rfl rfl rfl rfl (k_make tE24 rfl rfl zA2 tBy2 rfl (by omega) (by omega) (by omega) rfl (by show _ = ps.length; omega) ?_)
              refine tn_step [8] (by kernel_rfl) rfl ?_
              refine ⟨?_, trivial⟩
              refine tn_k (listed' := #[true, true, true, true, true, true, true, true, true, false]) rfl rfl rfl rfl (k_store sz24 rfl (by conv=>lhs;whnf) rfl rfl rfl (Nat.le_of_ble_eq_true rfl) rfl ?_)
              refine tn_step [9] (by kernel_rfl) rfl ?_
              refine ⟨?_, trivial⟩
              refine tn_k (listed' := #[true, true, true, true, true, true, true, true, true, true]) rfl rfl rfl rfl (k_store sz24 rfl (by conv=>lhs;whnf) rfl rfl rfl (Nat.le_of_ble_eq_true rfl) rfl ?_)
              refine tn_end (by kernel_rfl) ?_
              refine sub_weak ?_ ?_
              · exact weakH_boxR (boxEq (rfl)) rfl (weakH_boxR (boxEq (rfl)) rfl (weakH_row (rowEq (rfl)) (weakH_row (rowEq (by first | rfl | (show List.replicate _ _ = List.map ci (List.replicate ps.length 0); rw [List.map_replicate]; rfl))) (weakH_none _))))
              · refine weakE_upd ?e8 ?r8 (weakE_upd ?e7 ?r7 (weakE_upd ?e3 ?r3 (weakE_upd ?e1 ?r1 (weakE_junk _ _))))
                case e1 => first | rfl | exact fI (by omega) | (rfl)
                case r1 => intro h hh; cases hh
                case e3 => first | rfl | exact fI (by omega) | (rfl)
                case r3 => intro h hh; cases hh
                case e7 => first | rfl | exact fI (by omega) | (rfl)
                case r7 => intro h hh; simp [refs] at hh; subst hh; rfl
                case e8 => first | rfl | exact fI (by omega) | (rfl)
                case r8 => intro h hh; simp [refs] at hh; subst hh; rfl
            · refine tn_k (listed' := #[true, true, true, true, true, false, true, true, true, false]) rfl rfl rfl rfl (k_store sz24 rfl (by conv=>lhs;whnf) rfl rfl rfl (Nat.le_of_ble_eq_true rfl) rfl ?_)
              refine tn_step [5] (by kernel_rfl) rfl ?_
              refine ⟨?_, trivial⟩
              refine tn_k (listed' := #[true, true, true, true, true, true, true, true, true, false]) rfl rfl rfl rfl (k_make tE24 rfl rfl zA2 tBy2 rfl (by omega) (by omega) (by omega) rfl (by show _ = ps.length; omega) ?_)
              refine tn_step [9] (by kernel_rfl) rfl ?_
              refine ⟨?_, trivial⟩
              refine tn_k (listed' := #[true, true, true, true, true, true, true, true, true, true]) rfl rfl rfl rfl (k_store sz24 rfl (by conv=>lhs;whnf) rfl rfl rfl (Nat.le_of_ble_eq_true rfl) rfl ?_)
              refine tn_end (by kernel_rfl) ?_
              refine sub_weak ?_ ?_
              · exact weakH_boxR (boxEq (rfl)) rfl (weakH_boxR (boxEq (rfl)) rfl (weakH_row (rowEq (rfl)) (weakH_row (rowEq (by first | rfl | (show List.replicate _ _ = List.map ci (List.replicate ps.length 0); rw [List.map_replicate]; rfl))) (weakH_none _))))
              · refine weakE_upd ?e8 ?r8 (weakE_upd ?e7 ?r7 (weakE_upd ?e3 ?r3 (weakE_upd ?e1 ?r1 (weakE_junk _ _))))
                case e1 => first | rfl | exact fI (by omega) | (rfl)
                case r1 => intro h hh; cases hh
                case e3 => first | rfl | exact fI (by omega) | (rfl)
                case r3 => intro h hh; cases hh
                case e7 => first | rfl | exact fI (by omega) | (rfl)
                case r7 => intro h hh; simp [refs] at hh; subst hh; rfl
                case e8 => first | rfl | exact fI (by omega) | (rfl)
                case r8 => intro h hh; simp [refs] at hh; subst hh; rfl
          · refine tn_k (listed' := #[true, true, true, true, false, false, true, true, true, false]) rfl rfl rfl rfl (k_store sz24 rfl (by conv=>lhs;whnf) rfl rfl rfl (Nat.le_of_ble_eq_true rfl) rfl ?_)
            refine tn_first_q (i := 4) (listed' := #[true, true, true, true, true, false, true, true, true, false]) rfl rfl (by kernel_rfl) rfl (q_len tEs25 rfl ?_)
            intro n13 hn13
            try simp only [List.length_map] at hn13
            refine tn_step [5] (by kernel_rfl) rfl ?_
            refine ⟨?_, trivial⟩
            refine tn_k (listed' := #[true, true, true, true, true, true, true, true, true, false]) rfl rfl rfl rfl (k_make tE24 rfl rfl zA2 tBy2 rfl (by omega) (by omega) (by omega) rfl (by show _ = ps.length; omega) ?_)
            refine tn_step [9] (by kernel_rfl) rfl ?_
            refine ⟨?_, trivial⟩
            refine tn_k (listed' := #[true, true, true, true, true, true, true, true, true, true]) rfl rfl rfl rfl (k_store sz24 rfl (by conv=>lhs;whnf) rfl rfl rfl (Nat.le_of_ble_eq_true rfl) rfl ?_)
            refine tn_end (by kernel_rfl) ?_
            refine sub_weak ?_ ?_
            · exact weakH_boxR (boxEq (rfl)) rfl (weakH_boxR (boxEq (rfl)) rfl (weakH_row (rowEq (rfl)) (weakH_row (rowEq (by first | rfl | (show List.replicate _ _ = List.map ci (List.replicate ps.length 0); rw [List.map_replicate]; rfl))) (weakH_none _))))
            · refine weakE_upd ?e8 ?r8 (weakE_upd ?e7 ?r7 (weakE_upd ?e3 ?r3 (weakE_upd ?e1 ?r1 (weakE_junk _ _))))
              case e1 => first | rfl | exact fI (by omega) | (rfl)
              case r1 => intro h hh; cases hh
              case e3 => first | rfl | exact fI (by omega) | (rfl)
              case r3 => intro h hh; cases hh
              case e7 => first | rfl | exact fI (by omega) | (rfl)
              case r7 => intro h hh; simp [refs] at hh; subst hh; rfl
              case e8 => first | rfl | exact fI (by omega) | (rfl)
              case r8 => intro h hh; simp [refs] at hh; subst hh; rfl
      · refine tn_q (listed' := #[true, false, true, true, true, false, true, false, false, false]) rfl rfl rfl (q_len tEs25 rfl ?_)
        intro n14 hn14
        try simp only [List.length_map] at hn14
        refine tn_step [1, 5, 7] (by kernel_rfl) rfl ?_
        refine ⟨?_, ?_, ?_, trivial⟩
        · refine tn_k (listed' := #[true, true, true, true, true, false, true, false, false, false]) rfl rfl rfl rfl (k_callX [(7, 900001)] (D_slices_Clone_int64_int64_X ds (by omega)) rfl (rfl) (rfl) trivial ⟨⟨rfl, show (900001 : Nat) < 1000000 by decide⟩, trivial⟩ rfl rfl rfl ?_)
          refine tn_step [5, 7] (by kernel_rfl) rfl ?_
          refine ⟨?_, ?_, trivial⟩
          · refine tn_k (listed' := #[true, true, true, true, true, true, true, false, false, false]) rfl rfl rfl rfl (k_make tE24 rfl rfl zA2 tBy2 rfl (by omega) (by omega) (by omega) rfl (by show _ = ps.length; omega) ?_)
            refine tn_step [7] (by kernel_rfl) rfl ?_
            refine ⟨?_, trivial⟩
            refine tn_k (listed' := #[true, true, true, true, true, true, true, true, false, false]) rfl rfl rfl rfl (k_alloc zA24 rfl ?_)
            refine tn_step [8] (by kernel_rfl) rfl ?_
            refine ⟨?_, trivial⟩
            refine tn_k (listed' := #[true, true, true, true, true, true, true, true, true, false]) rfl rfl rfl rfl (k_store sz24 rfl (by conv=>lhs;whnf) rfl rfl rfl (Nat.le_of_ble_eq_true rfl) rfl ?_)
            refine tn_step [9] (by kernel_rfl) rfl ?_
            refine ⟨?_, trivial⟩
            refine tn_k (listed' := #[true, true, true, true, true, true, true, true, true, true]) rfl rfl rfl rfl (k_store sz24 rfl (by conv=>lhs;whnf) rfl rfl rfl (Nat.le_of_ble_eq_true rfl) rfl ?_)
            refine tn_end (by kernel_rfl) ?_
            refine sub_weak ?_ ?_
            · exact weakH_boxR (boxEq (rfl)) rfl (weakH_boxR (boxEq (rfl)) rfl (weakH_row (rowEq (rfl)) (weakH_row (rowEq (by first | rfl | (show List.replicate _ _ = List.map ci (List.replicate ps.length 0); rw [List.map_replicate]; rfl))) (weakH_none _))))
            · refine weakE_upd ?e8 ?r8 (weakE_upd ?e7 ?r7 (weakE_upd ?e3 ?r3 (weakE_upd ?e1 ?r1 (weakE_junk _ _))))
              case e1 => first | rfl | exact fI (by omega) | (rfl)
              case r1 => intro h hh; cases hh
              case e3 => first | rfl | exact fI (by omega) | (rfl)
              case r3 => intro h hh; cases hh
              case e7 => first | rfl | exact fI (by omega) | (rfl)
              case r7 => intro h hh; simp [refs] at hh; subst hh; rfl
              case e8 => first | rfl | exact fI (by omega) | (rfl)
              case r8 => intro h hh; simp [refs] at hh; subst hh; rfl
          · refine tn_k (listed' := #[true, true, true, true, true, false, true, true, false, false]) rfl rfl rfl rfl (k_alloc zA24 rfl ?_)
            refine tn_step [5, 8] (by kernel_rfl) rfl ?_
            refine ⟨?_, ?_, trivial⟩
            · refine tn_k (listed' := #[true, true, true, true, true, true, true, true, false, false]) rfl rfl rfl rfl (k_make tE24 rfl rfl zA2 tBy2 rfl (by omega) (by omega) (by omega) rfl (by show _ = ps.length; omega) ?_)
              refine tn_step [8] (by kernel_rfl) rfl ?_
              refine ⟨?_, trivial⟩
              refine tn_k (listed' := #[true, true, true, true, true, true, true, true, true, false]) rfl rfl rfl rfl (k_store sz24 rfl (by conv=>lhs;whnf) rfl rfl rfl (Nat.le_of_ble_eq_true rfl) rfl ?_)
              refine tn_step [9] (by kernel_rfl) rfl ?_
              refine ⟨?_, trivial⟩
              refine tn_k (listed' := #[true, true, true, true, true, true, true, true, true, true]) rfl rfl rfl rfl (k_store sz24 rfl (by conv=>lhs;whnf) rfl rfl rfl (Nat.le_of_ble_eq_true rfl) rfl ?_)
              refine tn_end (by kernel_rfl) ?_
              refine sub_weak ?_ ?_
              · exact weakH_boxR (boxEq (rfl)) rfl (weakH_boxR (boxEq (rfl)) rfl (weakH_row (rowEq (rfl)) (weakH_row (rowEq (by first | rfl | (show List.replicate _ _ = List.map ci (List.replicate ps.length 0); rw [List.map_replicate]; rfl))) (weakH_none _))))
              · refine weakE_upd ?e8 ?r8 (weakE_upd ?e7 ?r7 (weakE_upd ?e3 ?r3 (weakE_upd ?e1 ?r1 (weakE_junk _ _))))
                case e1 => first | rfl | exact fI (by omega) | (rfl)
                case r1 => intro h hh; cases hh
                case e3 => first | rfl | exact fI (by omega) | (rfl)
                case r3 => intro h hh; cases hh
                case e7 => first | rfl | exact fI (by omega) | (rfl)
                case r7 => intro h hh; simp [refs] at hh; subst hh; rfl
                case e8 => first | rfl | exact fI (by omega) | (rfl)
                case r8 => intro h hh; simp [refs] at hh; subst hh; rfl
            · refine tn_k (listed' := #[true, true, true, true, true, false, true, true, true, false]) rfl rfl rfl rfl (k_store sz24 rfl (by conv=>lhs;whnf) rfl rfl rfl (Nat.le_of_ble_eq_true rfl) rfl ?_)
              refine tn_step [5] (by kernel_rfl) rfl ?_
              refine ⟨?_, trivial⟩
              refine tn_k (listed' := #[true, true, true, true, true, true, true, true, true, false]) rfl rfl rfl rfl (k_make tE24 rfl rfl zA2 tBy2 rfl (by omega) (by omega) (by omega) rfl (by show _ = ps.length; omega) ?_)
              refine tn_step [9] (by kernel_rfl) rfl ?_
              refine ⟨?_, trivial⟩
              refine tn_k (listed' := #[true, true, true, true, true, true, true, true, true, true]) rfl rfl rfl rfl (k_store sz24 rfl (by conv=>lhs;whnf) rfl rfl rfl (Nat.le_of_ble_eq_true rfl) rfl ?_)
              refine tn_end (by kernel_rfl) ?_
              refine sub_weak ?_ ?_
              · exact weakH_boxR (boxEq (rfl)) rfl (weakH_boxR (boxEq (rfl)) rfl (weakH_row (rowEq (rfl)) (weakH_row (rowEq (by first | rfl | (show List.replicate _ _ = List.map ci (List.replicate ps.length 0); rw [List.map_replicate]; rfl))) (weakH_none _))))
              · refine weakE_upd ?e8 ?r8 (weakE_upd ?e7 ?r7 (weakE_upd ?e3 ?r3 (weakE_upd ?e1 ?r1 (weakE_junk _ _))))
                case e1 => first | rfl | exact fI (by omega) | (rfl)
                case r1 => intro h hh; cases hh
                case e3 => first | rfl | exact fI (by omega) | (rfl)
                case r3 => intro h hh; cases hh
                case e7 => first | rfl | exact fI (by omega) | (rfl)
                case r7 => intro h hh; simp [refs] at hh; subst hh; rfl
                case e8 => first | rfl | exact fI (by omega) | (rfl)
                case r8 => intro h hh; simp [refs] at hh; subst hh; rfl
        · refine tn_k (listed' := #[true, false, true, true, true, true, true, false, false, false]) rfl rfl rfl rfl (k_make tE24 rfl rfl zA2 tBy2 rfl (by omega) (by omega) (by omega) rfl (by show _ = ps.length; omega) ?_)
          refine tn_step [1, 7] (by kernel_rfl) rfl ?_
          refine ⟨?_, ?_, trivial⟩
          · refine tn_k (listed' := #[true, true, true, true, true, true, true, false, false, false]) rfl rfl rfl rfl (k_callX [(7, 900001)] (D_slices_Clone_int64_int64_X ds (by omega)) rfl (rfl) (rfl) trivial ⟨⟨rfl, show (900001 : Nat) < 1000000 by decide⟩, trivial⟩ rfl rfl rfl ?_)
            refine tn_step [7] (by kernel_rfl) rfl ?_
            refine ⟨?_, trivial⟩
            refine tn_k (listed' := #[true, true, true, true, true, true, true, true, false, false]) rfl rfl rfl rfl (k_alloc zA24 rfl ?_)
            refine tn_step [8] (by kernel_rfl) rfl ?_
            refine ⟨?_, trivial⟩
            refine tn_k (listed' := #[true, true, true, true, true, true, true, true, true, false]) rfl rfl rfl rfl (k_store sz24 rfl (by conv=>lhs;whnf) rfl rfl rfl (Nat.le_of_ble_eq_true rfl) rfl ?_)
            refine tn_step [9] (by kernel_rfl) rfl ?_
            refine ⟨?_, trivial⟩
            refine tn_k (listed' := #[true, true, true, true, true, true, true, true, true, true]) rfl rfl rfl rfl (k_store sz24 rfl (by conv=>lhs;whnf) rfl rfl rfl (Nat.le_of_ble_eq_true rfl) rfl ?_)
            refine tn_end (by kernel_rfl) ?_
            refine sub_weak ?_ ?_
            · exact weakH_boxR (boxEq (rfl)) rfl (weakH_boxR (boxEq (rfl)) rfl (weakH_row (rowEq (rfl)) (weakH_row (rowEq (by first | rfl | (show List.replicate _ _ = List.map ci (List.replicate ps.length 0); rw [List.map_replicate]; rfl))) (weakH_none _))))
            · refine weakE_upd ?e8 ?r8 (weakE_upd ?e7 ?r7 (weakE_upd ?e3 ?r3 (weakE_upd ?e1 ?r1 (weakE_junk _ _))))
              case e1 => first | rfl | exact fI (by omega) | (rfl)
              case r1 => intro h hh; cases hh
              case e3 => first | rfl | exact fI (by omega) | (rfl)
              case r3 => intro h hh; cases hh
              case e7 => first | rfl | exact fI (by omega) | (rfl)
              case r7 => intro h hh; simp [refs] at hh; subst hh; rfl
              case e8 => first | rfl | exact fI (by omega) | (rfl)
              case r8 => intro h hh; simp [refs] at hh; subst hh; rfl
          · refine tn_k (listed' := #[true, false, true, true, true, true, true, true, false, false]) rfl rfl rfl rfl (k_alloc zA24 rfl ?_)
            refine tn_step [1] (by kernel_rfl) rfl ?_
            refine ⟨?_, trivial⟩
            refine tn_k (listed' := #[true, true, true, true, true, true, true, true, false, false]) rfl rfl rfl rfl (k_callX [(7, 900001)] (D_slices_Clone_int64_int64_X ds (by omega)) rfl (rfl) (rfl) trivial ⟨⟨rfl, show (900001 : Nat) < 1000000 by decide⟩, trivial⟩ rfl rfl rfl ?_)
            refine tn_step [8] (by kernel_rfl) rfl ?_
            refine ⟨?_, trivial⟩
            refine tn_k (listed' := #[true, true, true, true, true, true, true, true, true, false]) rfl rfl rfl rfl (k_store sz24 rfl (by conv=>lhs;whnf) rfl rfl rfl (Nat.le_of_ble_eq_true rfl) rfl ?_)
            refine tn_step [9] (by kernel_rfl) rfl ?_
            refine ⟨?_, trivial⟩
            refine tn_k (listed' := #[true, true, true, true, true, true, true, true, true, true]) rfl rfl rfl rfl (k_store sz24 rfl (by conv=>lhs;whnf) rfl rfl rfl (Nat.le_of_ble_eq_true rfl) rfl ?_)
            refine tn_end (by kernel_rfl) ?_
            refine sub_weak ?_ ?_
            · exact weakH_boxR (boxEq (rfl)) rfl (weakH_boxR (boxEq (rfl)) rfl (weakH_row (rowEq (rfl)) (weakH_row (rowEq (by first | rfl | (show List.replicate _ _ = List.map ci (List.replicate ps.length 0); rw [List.map_replicate]; rfl))) (weakH_none _))))
            · refine weakE_upd ?e8 ?r8 (weakE_upd ?e7 ?r7 (weakE_upd ?e3 ?r3 (weakE_upd ?e1 ?r1 (weakE_junk _ _))))
              case e1 => first | rfl | exact fI (by omega) | (rfl)
              case r1 => intro h hh; cases hh
              case e3 => first | rfl | exact fI (by omega) | (rfl)
              case r3 => intro h hh; cases hh
              case e7 => first | rfl | exact fI (by omega) | (rfl)
              case r7 => intro h hh; simp [refs] at hh; subst hh; rfl
              case e8 => first | rfl | exact fI (by omega) | (rfl)
              case r8 => intro h hh; simp [refs] at hh; subst hh; rfl
        · refine tn_k (listed' := #[true, false, true, true, true, false, true, true, false, false]) rfl rfl rfl rfl (k_alloc zA24 rfl ?_)
          refine tn_step [1, 5] (by kernel_rfl) rfl ?_
          refine ⟨?_, ?_, trivial⟩
          · refine tn_k (listed' := #[true, true, true, true, true, false, true, true, false, false]) rfl rfl rfl rfl (k_callX [(7, 900001)] (D_slices_Clone_int64_int64_X ds (by omega)) rfl (rfl) (rfl) trivial ⟨⟨rfl, show (900001 : Nat) < 1000000 by decide⟩, trivial⟩ rfl rfl rfl ?_)
            refine tn_step [5, 8] (by kernel_rfl) rfl ?_
            refine ⟨?_, ?_, trivial⟩
            · refine tn_k (listed' := #[true, true, true, true, true, true, true, true, false, false]) rfl rfl rfl rfl (k_make tE24 rfl rfl zA2 tBy2 rfl (by omega) (by omega) (by omega) rfl (by show _ = ps.length; omega) ?_)
              refine tn_step [8] (by kernel_rfl) rfl ?_
              refine ⟨?_, trivial⟩
              refine tn_k (listed' := #[true, true, true, true, true, true, true, true, true, false]) rfl rfl rfl rfl (k_store sz24 rfl (by conv=>lhs;whnf) rfl rfl rfl (Nat.le_of_ble_eq_true rfl) rfl ?_)
              refine tn_step [9] (by kernel_rfl) rfl ?_
              refine ⟨?_, trivial⟩
              refine tn_k (listed' := #[true, true, true, true, true, true, true, true, true, true]) rfl rfl rfl rfl (k_store sz24 rfl (by conv=>lhs;whnf) rfl rfl rfl (Nat.le_of_ble_eq_true rfl) rfl ?_)
              refine tn_end (by kernel_rfl) ?_
              refine sub_weak ?_ ?_
              · exact weakH_boxR (boxEq (rfl)) rfl (weakH_boxR (boxEq (rfl)) rfl (weakH_row (rowEq (rfl)) (weakH_row (rowEq (by first | rfl | (show List.replicate _ _ = List.map ci (List.replicate ps.length 0); rw [List.map_replicate]; rfl))) (weakH_none _))))
              · refine weakE_upd ?e8 ?r8 (weakE_upd ?e7 ?r7 (weakE_upd ?e3 ?r3 (weakE_upd ?e1 ?r1 (weakE_junk _ _))))
                case e1 => first | rfl | exact fI (by omega) | (rfl)
                case r1 => intro h hh; cases hh
                case e3 => first | rfl | exact fI (by omega) | (rfl)
                case r3 => intro h hh; cases hh
                case e7 => first | rfl | exact fI (by omega) | (rfl)
                case r7 => intro h hh; simp [refs] at hh; subst hh; rfl
                case e8 => first | rfl | exact fI (by omega) | (rfl)
                case r8 => intro h hh; simp [refs] at hh; subst hh; rfl
            · refine tn_k (listed' := #[true, true, true, true, true, false, true, true, true, false]) rfl rfl rfl rfl (k_store sz24 rfl (by conv=>lhs;whnf) rfl rfl rfl (Nat.le_of_ble_eq_true rfl) rfl ?_)
              refine tn_step [5] (by kernel_rfl) rfl ?_
              refine ⟨?_, trivial⟩
              refine tn_k (listed' := #[true, true, true, true, true, true, true, true, true, false]) rfl rfl rfl rfl (k_make tE24 rfl rfl zA2 tBy2 rfl (by omega) (by omega) (by omega) rfl (by show _ = ps.length; omega) ?_)
              refine tn_step [9] (by kernel_rfl) rfl ?_
              refine ⟨?_, trivial⟩
              refine tn_k (listed' := #[true, true, true, true, true, true, true, true, true, true]) rfl rfl rfl rfl (k_store sz24 rfl (by conv=>lhs;whnf) rfl rfl rfl (Nat.le_of_ble_eq_true rfl) rfl ?_)
              refine tn_end (by kernel_rfl) ?_
              refine sub_weak ?_ ?_
              · exact weakH_boxR (boxEq (rfl)) rfl (weakH_boxR (boxEq (rfl)) rfl (weakH_row (rowEq (rfl)) (weakH_row (rowEq (by first | rfl | (show List.replicate _ _ = List.map ci (List.replicate ps.length 0); rw [List.map_replicate]; rfl))) (weakH_none _))))
              · refine weakE_upd ?e8 ?r8 (weakE_upd ?e7 ?r7 (weakE_upd ?e3 ?r3 (weakE_upd ?e1 ?r1 (weakE_junk _ _))))
                case e1 => first | rfl | exact fI (by omega) | (rfl)
                case r1 => intro h hh; cases hh
                case e3 => first | rfl | exact fI (by omega) | (rfl)
                case r3 => intro h hh; cases hh
                case e7 => first | rfl | exact fI (by omega) | (rfl)
                case r7 => intro h hh; simp [refs] at hh; subst hh; rfl
                case e8 => first | rfl | exact fI (by omega) | (rfl)
                case r8 => intro h hh; simp [refs] at hh; subst hh; rfl
          · refine tn_k (listed' := #[true, false, true, true, true, true, true, true, false, false]) rfl rfl rfl rfl (k_make tE24 rfl rfl zA2 tBy2 rfl (by omega) (by omega) (by omega) rfl (by show _ = ps.length; omega) ?_)
            refine tn_step [1] (by kernel_rfl) rfl ?_
            refine ⟨?_, trivial⟩
            refine tn_k (listed' := #[true, true, true, true, true, true, true, true, false, false]) rfl rfl rfl rfl (k_callX [(7, 900001)] (D_slices_Clone_int64_int64_X ds (by omega)) rfl (rfl) (rfl) trivial ⟨⟨rfl, show (900001 : Nat) < 1000000 by decide⟩, trivial⟩ rfl rfl rfl ?_)
            refine tn_step [8] (by kernel_rfl) rfl ?_
            refine ⟨?_, trivial⟩
            refine tn_k (listed' := #[true, true, true, true, true, true, true, true, true, false]) rfl rfl rfl rfl (k_store sz24 rfl (by conv=>lhs;whnf) rfl rfl rfl (Nat.le_of_ble_eq_true rfl) rfl ?_)
            refine tn_step [9] (by kernel_rfl) rfl ?_
            refine ⟨?_, trivial⟩
            refine tn_k (listed' := #[true, true, true, true, true, true, true, true, true, true]) rfl rfl rfl rfl (k_store sz24 rfl (by conv=>lhs;whnf) rfl rfl rfl (Nat.le_of_ble_eq_true rfl) rfl ?_)
            refine tn_end (by kernel_rfl) ?_
            refine sub_weak ?_ ?_
            · exact weakH_boxR (boxEq (rfl)) rfl (weakH_boxR (boxEq (rfl)) rfl (weakH_row (rowEq (rfl)) (weakH_row (rowEq (by first | rfl | (show List.replicate _ _ = List.map ci (List.replicate ps.length 0); rw [List.map_replicate]; rfl))) (weakH_none _))))
            · refine weakE_upd ?e8 ?r8 (weakE_upd ?e7 ?r7 (weakE_upd ?e3 ?r3 (weakE_upd ?e1 ?r1 (weakE_junk _ _))))
              case e1 => first | rfl | exact fI (by omega) | (rfl)
              case r1 => intro h hh; cases hh
              case e3 => first | rfl | exact fI (by omega) | (rfl)
              case r3 => intro h hh; cases hh
              case e7 => first | rfl | exact fI (by omega) | (rfl)
              case r7 => intro h hh; simp [refs] at hh; subst hh; rfl
              case e8 => first | rfl | exact fI (by omega) | (rfl)
              case r8 => intro h hh; simp [refs] at hh; subst hh; rfl
      · refine tn_k (listed' := #[true, false, true, true, false, false, true, true, false, false]) rfl rfl rfl rfl (k_alloc zA24 rfl ?_)
        refine tn_step [1, 4] (by kernel_rfl) rfl ?_
        refine ⟨?_, ?_, trivial⟩
        · refine tn_k (listed' := #[true, true, true, true, false, false, true, true, false, false]) rfl rfl rfl rfl (k_callX [(7, 900001)] (D_slices_Clone_int64_int64_X ds (by omega)) rfl (rfl) (rfl) trivial ⟨⟨rfl, show (900001 : Nat) < 1000000 by decide⟩, trivial⟩ rfl rfl rfl ?_)
          refine tn_step [4, 8] (by kernel_rfl) rfl ?_
          refine ⟨?_, ?_, trivial⟩
          · refine tn_q (listed' := #[true, true, true, true, true, false, true, true, false, false]) rfl rfl rfl (q_len tEs25 rfl ?_)
            intro n15 hn15
            try simp only [List.length_map] at hn15
            refine tn_step [5, 8] (by kernel_rfl) rfl ?_
            refine ⟨?_, ?_, trivial⟩
            · refine tn_k (listed' := #[true, true, true, true, true, true, true, true, false, false]) rfl rfl rfl rfl (k_make tE24 rfl rfl zA2 tBy2 rfl (by omega) (by omega) (by omega) rfl (by show _ = ps.length; omega) ?_)
              refine tn_step [8] (by kernel_rfl) rfl ?_
              refine ⟨?_, trivial⟩
              refine tn_k (listed' := #[true, true, true, true, true, true, true, true, true, false]) rfl rfl rfl rfl (k_store sz24 rfl (by conv=>lhs;whnf) rfl rfl rfl (Nat.le_of_ble_eq_true rfl) rfl ?_)
              refine tn_step [9] (by kernel_rfl) rfl ?_
              refine ⟨?_, trivial⟩
              refine tn_k (listed' := #[true, true, true, true, true, true, true, true, true, true]) rfl rfl rfl rfl (k_store sz24 rfl (by conv=>lhs;whnf) rfl rfl rfl (Nat.le_of_ble_eq_true rfl) rfl ?_)
              refine tn_end (by kernel_rfl) ?_
              refine sub_weak ?_ ?_
              · exact weakH_boxR (boxEq (rfl)) rfl (weakH_boxR (boxEq (rfl)) rfl (weakH_row (rowEq (rfl)) (weakH_row (rowEq (by first | rfl | (show List.replicate _ _ = List.map ci (List.replicate ps.length 0); rw [List.map_replicate]; rfl))) (weakH_none _))))
              · refine weakE_upd ?e8 ?r8 (weakE_upd ?e7 ?r7 (weakE_upd ?e3 ?r3 (weakE_upd ?e1 ?r1 (weakE_junk _ _))))
                case e1 => first | rfl | exact fI (by omega) | (rfl)
                case r1 => intro h hh; cases hh
                case e3 => first | rfl | exact fI (by omega) | (rfl)
                case r3 => intro h hh; cases hh
                case e7 => first | rfl | exact fI (by omega) | (rfl)
                case r7 => intro h hh; simp [refs] at hh; subst hh; rfl
                case e8 => first | rfl | exact fI (by omega) | (rfl)
                case r8 => intro h hh; simp [refs] at hh; subst hh; rfl
            · refine tn_k (listed' := #[true, true, true, true, true, false, true, true, true, false]) rfl rfl rfl rfl (k_store sz24 rfl (by conv=>lhs;whnf) rfl rfl rfl (Nat.le_of_ble_eq_true rfl) rfl ?_)
              refine tn_step [5] (by kernel_rfl) rfl ?_
              refine ⟨?_, trivial⟩
              refine tn_k (listed' := #[true, true, true, true, true, true, true, true, true, false]) rfl rfl rfl rfl (k_make tE24 rfl rfl zA2 tBy2 rfl (by omega) (by omega) (by omega) rfl (by show _ = ps.length; omega) ?_)
              refine tn_step [9] (by kernel_rfl) rfl ?_
              refine ⟨?_, trivial⟩
              refine tn_k (listed' := #[true, true, true, true, true, true, true, true, true, true]) rfl rfl rfl rfl (k_store sz24 rfl (by conv=>lhs;whnf) rfl rfl rfl (Nat.le_of_ble_eq_true rfl) rfl ?_)
              refine tn_end (by kernel_rfl) ?_
              refine sub_weak ?_ ?_
              · exact weakH_boxR (boxEq (rfl)) rfl (weakH_boxR (boxEq (rfl)) rfl (weakH_row (rowEq (rfl)) (weakH_row (rowEq (by first | rfl | (show List.replicate _ _ = List.map ci (List.replicate ps.length 0); rw [List.map_replicate]; rfl))) (weakH_none _))))
              · refine weakE_upd ?e8 ?r8 (weakE_upd ?e7 ?r7 (weakE_upd ?e3 ?r3 (weakE_upd ?e1 ?r1 (weakE_junk _ _))))
                case e1 => first | rfl | exact fI (by omega) | (rfl)
                case r1 => intro h hh; cases hh
                case e3 => first | rfl | exact fI (by omega) | (rfl)
                case r3 => intro h hh; cases hh
                case e7 => first | rfl | exact fI (by omega) | (rfl)
                case r7 => intro h hh; simp [refs] at hh; subst hh; rfl
                case e8 => first | rfl | exact fI (by omega) | (rfl)
                case r8 => intro h hh; simp [refs] at hh; subst hh; rfl
          · refine tn_k (listed' := #[true, true, true, true, false, false, true, true, true, false]) rfl rfl rfl rfl (k_store sz24 rfl (by conv=>lhs;whnf) rfl rfl rfl (Nat.le_of_ble_eq_true rfl) rfl ?_)
            refine tn_first_q (i := 4) (listed' := #[true, true, true, true, true, false, true, true, true, false]) rfl rfl (by kernel_rfl) rfl (q_len tEs25 rfl ?_)
            intro n16 hn16
            try simp only [List.length_map] at hn16
            refine tn_step [5] (by kernel_rfl) rfl ?_
            refine ⟨?_, trivial⟩
            refine tn_k (listed' := #[true, true, true, true, true, true, true, true, true, false]) rfl rfl rfl rfl (k_make tE24 rfl rfl zA2 tBy2 rfl (by omega) (by omega) (by omega) rfl (by show _ = ps.length; omega) ?_)
            refine tn_step [9] (by kernel_rfl) rfl ?_
            refine ⟨?_, trivial⟩
            refine tn_k (listed' := #[true, true, true, true, true, true, true, true, true, true]) rfl rfl rfl rfl (k_store sz24 rfl (by conv=>lhs;whnf) rfl rfl rfl (Nat.le_of_ble_eq_true rfl) rfl ?_)
            refine tn_end (by kernel_rfl) ?_
            refine sub_weak ?_ ?_
            · exact weakH_boxR (boxEq (rfl)) rfl (weakH_boxR (boxEq (rfl)) rfl (weakH_row (rowEq (rfl)) (weakH_row (rowEq (by first | rfl | (show List.replicate _ _ = List.map ci (List.replicate ps.length 0); rw [List.map_replicate]; rfl))) (weakH_none _))))
            · refine weakE_upd ?e8 ?r8 (weakE_upd ?e7 ?r7 (weakE_upd ?e3 ?r3 (weakE_upd ?e1 ?r1 (weakE_junk _ _))))
              case e1 => first | rfl | exact fI (by omega) | (rfl)
              case r1 => intro h hh; cases hh
              case e3 => first | rfl | exact fI (by omega) | (rfl)
              case r3 => intro h hh; cases hh
              case e7 => first | rfl | exact fI (by omega) | (rfl)
              case r7 => intro h hh; simp [refs] at hh; subst hh; rfl
              case e8 => first | rfl | exact fI (by omega) | (rfl)
              case r8 => intro h hh; simp [refs] at hh; subst hh; rfl
        · refine tn_q (listed' := #[true, false, true, true, true, false, true, true, false, false]) rfl rfl rfl (q_len tEs25 rfl ?_)
          intro n17 hn17
          try simp only [List.length_map] at hn17
          refine tn_step [1, 5] (by kernel_rfl) rfl ?_
          refine ⟨?_, ?_, trivial⟩
          · refine tn_k (listed' := #[true, true, true, true, true, false, true, true, false, false]) rfl rfl rfl rfl (k_callX [(7, 900001)] (D_slices_Clone_int64_int64_X ds (by omega)) rfl (rfl) (rfl) trivial ⟨⟨rfl, show (900001 : Nat) < 1000000 by decide⟩, trivial⟩ rfl rfl rfl ?_)
            refine tn_step [5, 8] (by kernel_rfl) rfl ?_
            refine ⟨?_, ?_, trivial⟩
            · refine tn_k (listed' := #[true, true, true, true, true, true, true, true, false, false]) rfl rfl rfl rfl (k_make tE24 rfl rfl zA2 tBy2 rfl (by omega) (by omega) (by omega) rfl (by show _ = ps.length; omega) ?_)
              refine tn_step [8] (by kernel_rfl) rfl ?_
              refine ⟨?_, trivial⟩
              refine tn_k (listed' := #[true, true, true, true, true, true, true, true, true, false]) rfl rfl rfl rfl (k_store sz24 rfl (by conv=>lhs;whnf) rfl rfl rfl (Nat.le_of_ble_eq_true rfl) rfl ?_)
              refine tn_step [9] (by kernel_rfl) rfl ?_
              refine ⟨?_, trivial⟩
              refine tn_k (listed' := #[true, true, true, true, true, true, true, true, true, true]) rfl rfl rfl rfl (k_store sz24 rfl (by conv=>lhs;whnf) rfl rfl rfl (Nat.le_of_ble_eq_true rfl) rfl ?_)
              refine tn_end (by kernel_rfl) ?_
              refine sub_weak ?_ ?_
              · exact weakH_boxR (boxEq (rfl)) rfl (weakH_boxR (boxEq (rfl)) rfl (weakH_row (rowEq (rfl)) (weakH_row (rowEq (by first | rfl | (show List.replicate _ _ = List.map ci (List.replicate ps.length 0); rw [List.map_replicate]; rfl))) (weakH_none _))))
              · refine weakE_upd ?e8 ?r8 (weakE_upd ?e7 ?r7 (weakE_upd ?e3 ?r3 (weakE_upd ?e1 ?r1 (weakE_junk _ _))))
                case e1 => first | rfl | exact fI (by omega) | (rfl)
                case r1 => intro h hh; cases hh
                case e3 => first | rfl | exact fI (by omega) | (rfl)
                case r3 => intro h hh; cases hh
                case e7 => first | rfl | exact fI (by omega) | (rfl)
                case r7 => intro h hh; simp [refs] at hh; subst hh; rfl
                case e8 => first | rfl | exact fI (by omega) | (rfl)
                case r8 => intro h hh; simp [refs] at hh; subst hh; rfl
            · refine tn_k (listed' := #[true, true, true, true, true, false, true, true, true, false]) rfl rfl rfl rfl (k_store sz24 rfl (by conv=>lhs;whnf) rfl rfl rfl (Nat.le_of_ble_eq_true rfl) rfl ?_)
              refine tn_step [5] (by kernel_rfl) rfl ?_
              refine ⟨?_, trivial⟩
              refine tn_k (listed' := #[true, true, true, true, true, true, true, true, true, false]) rfl rfl rfl rfl (k_make tE24 rfl rfl zA2 tBy2 rfl (by omega) (by omega) (by omega) rfl (by show _ = ps.length; omega) ?_)
              refine tn_step [9] (by kernel_rfl) rfl ?_
              refine ⟨?_, trivial⟩
              refine tn_k (listed' := #[true, true, true, true, true, true, true, true, true, true]) rfl rfl rfl rfl (k_store sz24 rfl (by conv=>lhs;whnf) rfl rfl rfl (Nat.le_of_ble_eq_true rfl) rfl ?_)
              refine tn_end (by kernel_rfl) ?_
              refine sub_weak ?_ ?_
              · exact weakH_boxR (boxEq (rfl)) rfl (weakH_boxR (boxEq (rfl)) rfl (weakH_row (rowEq (rfl)) (weakH_row (rowEq (by first | rfl | (show List.replicate _ _ = List.map ci (List.replicate ps.length 0); rw [List.map_replicate]; rfl))) (weakH_none _))))
              · refine weakE_upd ?e8 ?r8 (weakE_upd ?e7 ?r7 (weakE_upd ?e3 ?r3 (weakE_upd ?e1 ?r1 (weakE_junk _ _))))
                case e1 => first | rfl | exact fI (by omega) | (rfl)
                case r1 => intro h hh; cases hh
                case e3 => first | rfl | exact fI (by omega) | (rfl)
                case r3 => intro h hh; cases hh
                case e7 => first | rfl | exact fI (by omega) | (rfl)
                case r7 => intro h hh; simp [refs] at hh; subst hh; rfl
                case e8 => first | rfl | exact fI (by omega) | (rfl)
                case r8 => intro h hh; simp [refs] at hh; subst hh; rfl
          · refine tn_k (listed' := #[true, false, true, true, true, true, true, true, false, false]) rfl rfl rfl rfl (k_make tE24 rfl rfl zA2 tBy2 rfl (by omega) (by omega) (by omega) rfl (by show _ = ps.length; omega) ?_)
            refine tn_step [1] (by kernel_rfl) rfl ?_
            refine ⟨?_, trivial⟩
            refine tn_k (listed' := #[true, true, true, true, true, true, true, true, false, false]) rfl rfl rfl rfl (k_callX [(7, 900001)] (D_slices_Clone_int64_int64_X ds (by omega)) rfl (rfl) (rfl) trivial ⟨⟨rfl, show (900001 : Nat) < 1000000 by decide⟩, trivial⟩ rfl rfl rfl ?_)
            refine tn_step [8] (by kernel_rfl) rfl ?_
            refine ⟨?_, trivial⟩
            refine tn_k (listed' := #[true, true, true, true, true, true, true, true, true, false]) rfl rfl rfl rfl (k_store sz24 rfl (by conv=>lhs;whnf) rfl rfl rfl (Nat.le_of_ble_eq_true rfl) rfl ?_)
            refine tn_step [9] (by kernel_rfl) rfl ?_
            refine ⟨?_, trivial⟩
            refine tn_k (listed' := #[true, true, true, true, true, true, true, true, true, true]) rfl rfl rfl rfl (k_store sz24 rfl (by conv=>lhs;whnf) rfl rfl rfl (Nat.le_of_ble_eq_true rfl) rfl ?_)
            refine tn_end (by kernel_rfl) ?_
            refine sub_weak ?_ ?_
            · exact weakH_boxR (boxEq (rfl)) rfl (weakH_boxR (boxEq (rfl)) rfl (weakH_row (rowEq (rfl)) (weakH_row (rowEq (by first | rfl | (show List.replicate _ _ = List.map ci (List.replicate ps.length 0); rw [List.map_replicate]; rfl))) (weakH_none _))))
            · refine weakE_upd ?e8 ?r8 (weakE_upd ?e7 ?r7 (weakE_upd ?e3 ?r3 (weakE_upd ?e1 ?r1 (weakE_junk _ _))))
              case e1 => first | rfl | exact fI (by omega) | (rfl)
              case r1 => intro h hh; cases hh
              case e3 => first | rfl | exact fI (by omega) | (rfl)
              case r3 => intro h hh; cases hh
              case e7 => first | rfl | exact fI (by omega) | (rfl)
              case r7 => intro h hh; simp [refs] at hh; subst hh; rfl
              case e8 => first | rfl | exact fI (by omega) | (rfl)
              case r8 => intro h hh; simp [refs] at hh; subst hh; rfl
    · refine tn_k (listed' := #[true, false, true, true, false, false, false, true, false, false]) rfl rfl rfl rfl (k_alloc zA24 rfl ?_)
      refine tn_step [1, 4, 6] (by kernel_rfl) rfl ?_
      refine ⟨?_, ?_, ?_, trivial⟩
      · refine tn_k (listed' := #[true, true, true, true, false, false, false, true, false, false]) rfl rfl rfl rfl (k_callX [(7, 900001)] (D_slices_Clone_int64_int64_X ds (by omega)) rfl (rfl) (rfl) trivial ⟨⟨rfl, show (900001 : Nat) < 1000000 by decide⟩, trivial⟩ rfl rfl rfl ?_)
        refine tn_step [4, 6] (by kernel_rfl) rfl ?_
        refine ⟨?_, ?_, trivial⟩
        · refine tn_q (listed' := #[true, true, true, true, true, false, false, true, false, false]) rfl rfl rfl (q_len tEs25 rfl ?_)
          intro n18 hn18
          try simp only [List.length_map] at hn18
          refine tn_step [5, 6] (by kernel_rfl) rfl ?_
          refine ⟨?_, ?_, trivial⟩
          · refine tn_k (listed' := #[true, true, true, true, true, true, false, true, false, false]) rfl rfl rfl rfl (k_make tE24 rfl rfl zA2 tBy2 rfl (by omega) (by omega) (by omega) rfl (by show _ = ps.length; omega) ?_)
            refine tn_step [6] (by kernel_rfl) rfl ?_
            refine ⟨?_, trivial⟩
            refine tn_k (listed' := #[true, true, true, true, true, true, true, true, false, false]) rfl rfl rfl rfl (k_alloc zA24 rfl ?_)
            refine tn_step [8] (by kernel_rfl) rfl ?_
            refine ⟨?_, trivial⟩
            refine tn_k (listed' := #[true, true, true, true, true, true, true, true, true, false]) rfl rfl rfl rfl (k_store sz24 rfl (by conv=>lhs;whnf) rfl rfl rfl (Nat.le_of_ble_eq_true rfl) rfl ?_)
            refine tn_step [9] (by kernel_rfl) rfl ?_
            refine ⟨?_, trivial⟩
            refine tn_k (listed' := #[true, true, true, true, true, true, true, true, true, true]) rfl rfl rfl rfl (k_store sz24 rfl (by conv=>lhs;whnf) rfl rfl rfl (Nat.le_of_ble_eq_true rfl) rfl ?_)
            refine tn_end (by kernel_rfl) ?_
            refine sub_weak ?_ ?_
            · exact weakH_boxR (boxEq (rfl)) rfl (weakH_boxR (boxEq (rfl)) rfl (weakH_row (rowEq (rfl)) (weakH_row (rowEq (by first | rfl | (show List.replicate _ _ = List.map ci (List.replicate ps.length 0); rw [List.map_replicate]; rfl))) (weakH_none _))))
            · refine weakE_upd ?e8 ?r8 (weakE_upd ?e7 ?r7 (weakE_upd ?e3 ?r3 (weakE_upd ?e1 ?r1 (weakE_junk _ _))))
              case e1 => first | rfl | exact fI (by omega) | (rfl)
              case r1 => intro h hh; cases hh
              case e3 => first | rfl | exact fI (by omega) | (rfl)
              case r3 => intro h hh; cases hh
              case e7 => first | rfl | exact fI (by omega) | (rfl)
              case r7 => intro h hh; simp [refs] at hh; subst hh; rfl
              case e8 => first | rfl | exact fI (by omega) | (rfl)
              case r8 => intro h hh; simp [refs] at hh; subst hh; rfl
          · refine tn_k (listed' := #[true, true, true, true, true, false, true, true, false, false]) rfl rfl rfl rfl (k_alloc zA24 rfl ?_)
            refine tn_step [5, 8] (by kernel_rfl) rfl ?_
            refine ⟨?_, ?_, trivial⟩
            · refine tn_k (listed' := #[true, true, true, true, true, true, true, true, false, false]) rfl rfl rfl rfl (k_make tE24 rfl rfl zA2 tBy2 rfl (by omega) (by omega) (by omega) rfl (by show _ = ps.length; omega) ?_)
              refine tn_step [8] (by kernel_rfl) rfl ?_
              refine ⟨?_, trivial⟩
              refine tn_k (listed' := #[true, true, true, true, true, true, true, true, true, false]) rfl rfl rfl rfl (k_store sz24 rfl (by conv=>lhs;whnf) rfl rfl rfl (Nat.le_of_ble_eq_true rfl) rfl ?_)
              refine tn_step [9] (by kernel_rfl) rfl ?_
              refine ⟨?_, trivial⟩
              refine tn_k (listed' := #[true, true, true, true, true, true, true, true, true, true]) rfl rfl rfl rfl (k_store sz24 rfl (by conv=>lhs;whnf) rfl rfl rfl (Nat.le_of_ble_eq_true rfl) rfl ?_)
              refine tn_end (by kernel_rfl) ?_
              refine sub_weak ?_ ?_
              · exact weakH_boxR (boxEq (rfl)) rfl (weakH_boxR (boxEq (rfl)) rfl (weakH_row (rowEq (rfl)) (weakH_row (rowEq (by first | rfl | (show List.replicate _ _ = List.map ci (List.replicate ps.length 0); rw [List.map_replicate]; rfl))) (weakH_none _))))
              · refine weakE_upd ?e8 ?r8 (weakE_upd ?e7 ?r7 (weakE_upd ?e3 ?r3 (weakE_upd ?e1 ?r1 (weakE_junk _ _))))
                case e1 => first | rfl | exact fI (by omega) | (rfl)
                case r1 => intro h hh; cases hh
                case e3 => first | rfl | exact fI (by omega) | (rfl)
                case r3 => intro h hh; cases hh
                case e7 => first | rfl | exact fI (by omega) | (rfl)
                case r7 => intro h hh; simp [refs] at hh; subst hh; rfl
                case e8 => first | rfl | exact fI (by omega) | (rfl)
                case r8 => intro h hh; simp [refs] at hh; subst hh; rfl
            · refine tn_k (listed' := #[true, true, true, true, true, false, true, true, true, false]) rfl rfl rfl rfl (k_store sz24 rfl (by conv=>lhs;whnf) rfl rfl rfl (Nat.le_of_ble_eq_true rfl) rfl ?_)
              refine tn_step [5] (by kernel_rfl) rfl ?_
              refine ⟨?_, trivial⟩
              refine tn_k (listed' := #[true, true, true, true, true, true, true, true, true, false]) rfl rfl rfl rfl (k_make tE24 rfl rfl zA2 tBy2 rfl (by omega) (by omega) (by omega) rfl (by show _ = ps.length; omega) ?_)
              refine tn_step [9] (by kernel_rfl) rfl ?_
              refine ⟨?_, trivial⟩
              refine tn_k (listed' := #[true, true, true, true, true, true, true, true, true, true]) rfl rfl rfl rfl (k_store sz24 rfl (by conv=>lhs;whnf) rfl rfl rfl (Nat.le_of_ble_eq_true rfl) rfl ?_)
              refine tn_end (by kernel_rfl) ?_
              refine sub_weak ?_ ?_
              · exact weakH_boxR (boxEq (rfl)) rfl (weakH_boxR (boxEq (rfl)) rfl (weakH_row (rowEq (rfl)) (weakH_row (rowEq (by first | rfl | (show List.replicate _ _ = List.map ci (List.replicate ps.length 0); rw [List.map_replicate]; rfl))) (weakH_none _))))
              · refine weakE_upd ?e8 ?r8 (weakE_upd ?e7 ?r7 (weakE_upd ?e3 ?r3 (weakE_upd ?e1 ?r1 (weakE_junk _ _))))
                case e1 => first | rfl | exact fI (by omega) | (rfl)
                case r1 => intro h hh; cases hh
                case e3 => first | rfl | exact fI (by omega) | (rfl)
                case r3 => intro h hh; cases hh
                case e7 => first | rfl | exact fI (by omega) | (rfl)
                case r7 => intro h hh; simp [refs] at hh; subst hh; rfl
                case e8 => first | rfl | exact fI (by omega) | (rfl)
                case r8 => intro h hh; simp [refs] at hh; subst hh; rfl
        · refine tn_k (listed' := #[true, true, true, true, false, false, true, true, false, false]) rfl rfl rfl rfl (k_alloc zA24 rfl ?_)
          refine tn_step [4, 8] (by kernel_rfl) rfl ?_
          refine ⟨?_, ?_, trivial⟩
          · refine tn_q (listed' := #[true, true, true, true, true, false, true, true, false, false]) rfl rfl rfl (q_len tEs25 rfl ?_)
            intro n19 hn19
            try simp only [List.length_map] at hn19
            refine tn_step [5, 8] (by kernel_rfl) rfl ?_
            refine ⟨?_, ?_, trivial⟩
            · refine tn_k (listed' := #[true, true, true, true, true, true, true, true, false, false]) rfl rfl rfl rfl (k_make tE24 rfl rfl zA2 tBy2 rfl (by omega) (by omega) (by omega) rfl (by show _ = ps.length; omega) ?_)
              refine tn_step [8] (by kernel_rfl) rfl ?_
              refine ⟨?_, trivial⟩
              refine tn_k (listed' := #[true, true, true, true, true, true, true, true, true, false]) rfl rfl rfl rfl (k_store sz24 rfl (by conv=>lhs;whnf) rfl rfl rfl (Nat.le_of_ble_eq_true rfl) rfl ?_)
              refine tn_step [9] (by kernel_rfl) rfl ?_
              refine ⟨?_, trivial⟩
              refine tn_k (listed' := #[true, true, true, true, true, true, true, true, true, true]) rfl rfl rfl rfl (k_store sz24 rfl (by conv=>lhs;whnf) rfl rfl rfl (Nat.le_of_ble_eq_true rfl) rfl ?_)
              refine tn_end (by kernel_rfl) ?_
              refine sub_weak ?_ ?_
              · exact weakH_boxR (boxEq (rfl)) rfl (weakH_boxR (boxEq (rfl)) rfl (weakH_row (rowEq (rfl)) (weakH_row (rowEq (by first | rfl | (show List.replicate _ _ = List.map ci (List.replicate ps.length 0); rw [List.map_replicate]; rfl))) (weakH_none _))))
              · refine weakE_upd ?e8 ?r8 (weakE_upd ?e7 ?r7 (weakE_upd ?e3 ?r3 (weakE_upd ?e1 ?r1 (weakE_junk _ _))))
                case e1 => first | rfl | exact fI (by omega) | (rfl)
                case r1 => intro h hh; cases hh
                case e3 => first | rfl | exact fI (by omega) | (rfl)
                case r3 => intro h hh; cases hh
                case e7 => first | rfl | exact fI (by omega) | (rfl)
                case r7 => intro h hh; simp [refs] at hh; subst hh; rfl
                case e8 => first | rfl | exact fI (by omega) | (rfl)
                case r8 => intro h hh; simp [refs] at hh; subst hh; rfl
            · refine tn_k (listed' := #[true, true, true, true, true, false, true, true, true, false]) rfl rfl rfl rfl (k_store sz24 rfl (by conv=>lhs;whnf) rfl rfl rfl (Nat.le_of_ble_eq_true rfl) rfl ?_)
              refine tn_step [5] (by kernel_rfl) rfl ?_
              refine ⟨?_, trivial⟩
              refine tn_k (listed' := #[true, true, true, true, true, true, true, true, true, false]) rfl rfl rfl rfl (k_make tE24 rfl rfl zA2 tBy2 rfl (by omega) (by omega) (by omega) rfl (by show _ = ps.length; omega) ?_)
              refine tn_step [9] (by kernel_rfl) rfl ?_
              refine ⟨?_, trivial⟩
              refine tn_k (listed' := #[true, true, true, true, true, true, true, true, true, true]) rfl rfl rfl rfl (k_store sz24 rfl (by conv=>lhs;whnf) rfl rfl rfl (Nat.le_of_ble_eq_true rfl) rfl ?_)
              refine tn_end (by kernel_rfl) ?_
              refine sub_weak ?_ ?_
              · exact weakH_boxR (boxEq (rfl)) rfl (weakH_boxR (boxEq (rfl)) rfl (weakH_row (rowEq (rfl)) (weakH_row (rowEq (by first | rfl | (show List.replicate _ _ = List.map ci (List.replicate ps.length 0); rw [List.map_replicate]; rfl))) (weakH_none _))))
              · refine weakE_upd ?e8 ?r8 (weakE_upd ?e7 ?r7 (weakE_upd ?e3 ?r3 (weakE_upd ?e1 ?r1 (weakE_junk _ _))))
                case e1 => first | rfl | exact fI (by omega) | (rfl)
                case r1 => intro h hh; cases hh
                case e3 => first | rfl | exact fI (by omega) | (rfl)
                case r3 => intro h hh; cases hh
                case e7 => first | rfl | exact fI (by omega) | (rfl)
                case r7 => intro h hh; simp [refs] at hh; subst hh; rfl
                case e8 => first | rfl | exact fI (by omega) | (rfl)
                case r8 => intro h hh; simp [refs] at hh; subst hh; rfl
          · refine tn_k (listed' := #[true, true, true, true, false, false, true, true, true, false]) rfl rfl rfl rfl (k_store sz24 rfl (by conv=>lhs;whnf) rfl rfl rfl (Nat.le_of_ble_eq_true rfl) rfl ?_)
            refine tn_first_q (i := 4) (listed' := #[true, true, true, true, true, false, true, true, true, false]) rfl rfl (by kernel_rfl) rfl (q_len tEs25 rfl ?_)
            intro n20 hn20
            try simp only [List.length_map] at hn20
            refine tn_step [5] (by kernel_rfl) rfl ?_
            refine ⟨?_, trivial⟩
            refine tn_k (listed' := #[true, true, true, true, true, true, true, true, true, false]) rfl rfl rfl rfl (k_make tE24 rfl rfl zA2 tBy2 rfl (by omega) (by omega) (by omega) rfl (by show _ = ps.length; omega) ?_)
            refine tn_step [9] (by kernel_rfl) rfl ?_
            refine ⟨?_, trivial⟩
            refine tn_k (listed' := #[true, true, true, true, true, true, true, true, true, true]) rfl rfl rfl rfl (k_store sz24 rfl (by conv=>lhs;whnf) rfl rfl rfl (Nat.le_of_ble_eq_true rfl) rfl ?_)
            refine tn_end (by kernel_rfl) ?_
            refine sub_weak ?_ ?_
            · exact weakH_boxR (boxEq (rfl)) rfl (weakH_boxR (boxEq (rfl)) rfl (weakH_row (rowEq (rfl)) (weakH_row (rowEq (by first | rfl | (show List.replicate _ _ = List.map ci (List.replicate ps.length 0); rw [List.map_replicate]; rfl))) (weakH_none _))))
            · refine weakE_upd ?e8 ?r8 (weakE_upd ?e7 ?r7 (weakE_upd ?e3 ?r3 (weakE_upd ?e1 ?r1 (weakE_junk _ _))))
              case e1 => first | rfl | exact fI (by omega) | (rfl)
              case r1 => intro h hh; cases hh
              case e3 => first | rfl | exact fI (by omega) | (rfl)
              case r3 => intro h hh; cases hh
              case e7 => first | rfl | exact fI (by omega) | (rfl)
              case r7 => intro h hh; simp [refs] at hh; subst hh; rfl
              case e8 => first | rfl | exact fI (by omega) | (rfl)
              case r8 => intro h hh; simp [refs] at hh; subst hh; rfl
      · refine tn_q (listed' := #[true, false, true, true, true, false, false, true, false, false]) rfl rfl rfl (q_len tEs25 rfl ?_)
        intro n21 hn21
        try simp only [List.length_map] at hn21
        refine tn_step [1, 5, 6] (by kernel_rfl) rfl ?_
        refine ⟨?_, ?_, ?_, trivial⟩
        · refine tn_k (listed' := #[true, true, true, true, true, false, false, true, false, false]) rfl rfl rfl rfl (k_callX [(7, 900001)] (D_slices_Clone_int64_int64_X ds (by omega)) rfl (rfl) (rfl) trivial ⟨⟨rfl, show (900001 : Nat) < 1000000 by decide⟩, trivial⟩ rfl rfl rfl ?_)
          refine tn_step [5, 6] (by kernel_rfl) rfl ?_
          refine ⟨?_, ?_, trivial⟩
          · refine tn_k (listed' := #[true, true, true, true, true, true, false, true, false, false]) rfl rfl rfl rfl (k_make tE24 rfl rfl zA2 tBy2 rfl (by omega) (by omega) (by omega) rfl (by show _ = ps.length; omega) ?_)
            refine tn_step [6] (by kernel_rfl) rfl ?_
            refine ⟨?_, trivial⟩
            refine tn_k (listed' := #[true, true, true, true, true, true, true, true, false, false]) rfl rfl rfl rfl (k_alloc zA24 rfl ?_)
            refine tn_step [8] (by kernel_rfl) rfl ?_
            refine ⟨?_, trivial⟩
            refine tn_k (listed' := #[true, true, true, true, true, true, true, true, true, false]) rfl rfl rfl rfl (k_store sz24 rfl (by conv=>lhs;whnf) rfl rfl rfl (Nat.le_of_ble_eq_true rfl) rfl ?_)
            refine tn_step [9] (by kernel_rfl) rfl ?_
            refine ⟨?_, trivial⟩
            refine tn_k (listed' := #[true, true, true, true, true, true, true, true, true, true]) rfl rfl rfl rfl (k_store sz24 rfl (by conv=>lhs;whnf) rfl rfl rfl (Nat.le_of_ble_eq_true rfl) rfl ?_)
            refine tn_end (by kernel_rfl) ?_
            refine sub_weak ?_ ?_
            · exact weakH_boxR (boxEq (rfl)) rfl (weakH_boxR (boxEq (rfl)) rfl (weakH_row (rowEq (rfl)) (weakH_row (rowEq (by first | rfl | (show List.replicate _ _ = List.map ci (List.replicate ps.length 0); rw [List.map_replicate]; rfl))) (weakH_none _))))
            · refine weakE_upd ?e8 ?r8 (weakE_upd ?e7 ?r7 (weakE_upd ?e3 ?r3 (weakE_upd ?e1 ?r1 (weakE_junk _ _))))
              case e1 => first | rfl | exact fI (by omega) | (rfl)
              case r1 => intro h hh; cases hh
              case e3 => first | rfl | exact fI (by omega) | (rfl)
              case r3 => intro h hh; cases hh
              case e7 => first | rfl | exact fI (by omega) | (rfl)
              case r7 => intro h hh; simp [refs] at hh; subst hh; rfl
              case e8 => first | rfl | exact fI (by omega) | (rfl)
              case r8 => intro h hh; simp [refs] at hh; subst hh; rfl
          · refine tn_k (listed' := #[true, true, true, true, true, false, true, true, false, false]) rfl rfl rfl rfl (k_alloc zA24 rfl ?_)
            refine tn_step [5, 8] (by kernel_rfl) rfl ?_
            refine ⟨?_, ?_, trivial⟩
            · refine tn_k (listed' := #[true, true, true, true, true, true, true, true, false, false]) rfl rfl rfl rfl (k_make tE24 rfl rfl zA2 tBy2 rfl (by omega) (by omega) (by omega) rfl (by show _ = ps.length; omega) ?_)
              refine tn_step [8] (by kernel_rfl) rfl ?_
              refine ⟨?_, trivial⟩
              refine tn_k (listed' := #[true, true, true, true, true, true, true, true, true, false]) rfl rfl rfl rfl (k_store sz24 rfl (by conv=>lhs;whnf) rfl rfl rfl (Nat.le_of_ble_eq_true rfl) rfl ?_)
              refine tn_step [9] (by kernel_rfl) rfl ?_
              refine ⟨?_, trivial⟩
              refine tn_k (listed' := #[true, true, true, true, true, true, true, true, true, true]) rfl rfl rfl rfl (k_store sz24 rfl (by conv=>lhs;whnf) rfl rfl rfl (Nat.le_of_ble_eq_true rfl) rfl ?_)
              refine tn_end (by kernel_rfl) ?_
              refine sub_weak ?_ ?_
              · exact weakH_boxR (boxEq (rfl)) rfl (weakH_boxR (boxEq (rfl)) rfl (weakH_row (rowEq (rfl)) (weakH_row (rowEq (by first | rfl | (show List.replicate _ _ = List.map ci (List.replicate ps.length 0); rw [List.map_replicate]; rfl))) (weakH_none _))))
              · refine weakE_upd ?e8 ?r8 (weakE_upd ?e7 ?r7 (weakE_upd ?e3 ?r3 (weakE_upd ?e1 ?r1 (weakE_junk _ _))))
                case e1 => first | rfl | exact fI (by omega) | (rfl)
                case r1 => intro h hh; cases hh
                case e3 => first | rfl | exact fI (by omega) | (rfl)
                case r3 => intro h hh; cases hh
                case e7 => first | rfl | exact fI (by omega) | (rfl)
                case r7 => intro h hh; simp [refs] at hh; subst hh; rfl
                case e8 => first | rfl | exact fI (by omega) | (rfl)
                case r8 => intro h hh; simp [refs] at hh; subst hh; rfl
            · refine tn_k (listed' := #[true, true, true, true, true, false, true, true, true, false]) rfl rfl rfl rfl (k_store sz24 rfl (by conv=>lhs;whnf) rfl rfl rfl (Nat.le_of_ble_eq_true rfl) rfl ?_)
              refine tn_step [5] (by kernel_rfl) rfl ?_
              refine ⟨?_, trivial⟩
              refine tn_k (listed' := #[true, true, true, true, true, true, true, true, true, false]) rfl rfl rfl rfl (k_make tE24 rfl rfl zA2 tBy2 rfl (by omega) (by omega) (by omega) rfl (by show _ = ps.length; omega) ?_)
              refine tn_step [9] (by kernel_rfl) rfl ?_
              refine ⟨?_, trivial⟩
              refine tn_k (listed' := #[true, true, true, true, true, true, true, true, true, true]) rfl rfl rfl rfl (k_store sz24 rfl (by conv=>lhs;whnf) rfl rfl rfl (Nat.le_of_ble_eq_true rfl) rfl ?_)
              refine tn_end (by kernel_rfl) ?_
              refine sub_weak ?_ ?_
              · exact weakH_boxR (boxEq (rfl)) rfl (weakH_boxR (boxEq (rfl)) rfl (weakH_row (rowEq (rfl)) (weakH_row (rowEq (by first | rfl | (show List.replicate _ _ = List.map ci (List.replicate ps.length 0); rw [List.map_replicate]; rfl))) (weakH_none _))))
              · refine weakE_upd ?e8 ?r8 (weakE_upd ?e7 ?r7 (weakE_upd ?e3 ?r3 (weakE_upd ?e1 ?r1 (weakE_junk _ _))))
                case e1 => first | rfl | exact fI (by omega) | (rfl)
                case r1 => intro h hh; cases hh
                case e3 => first | rfl | exact fI (by omega) | (rfl)
                case r3 => intro h hh; cases hh
                case e7 => first | rfl | exact fI (by omega) | (rfl)
                case r7 => intro h hh; simp [refs] at hh; subst hh; rfl
                case e8 => first | rfl | exact fI (by omega) | (rfl)
                case r8 => intro h hh; simp [refs] at hh; subst hh; rfl
        · refine tn_k (listed' := #[true, false, true, true, true, true, false, true, false, false]) rfl rfl rfl rfl (k_make tE24 rfl rfl zA2 tBy2 rfl (by omega) (by omega) (by omega) rfl (by show _ = ps.length; omega) ?_)
          refine tn_step [1, 6] (by kernel_rfl) rfl ?_
          refine ⟨?_, ?_, trivial⟩
          · refine tn_k (listed' := #[true, true, true, true, true, true, false, true, false, false]) rfl rfl rfl rfl (k_callX [(7, 900001)] (D_slices_Clone_int64_int64_X ds (by omega)) rfl (rfl) (rfl) trivial ⟨⟨rfl, show (900001 : Nat) < 1000000 by decide⟩, trivial⟩ rfl rfl rfl ?_)
            refine tn_step [6] (by kernel_rfl) rfl ?_
            refine ⟨?_, trivial⟩
            refine tn_k (listed' := #[true, true, true, true, true, true, true, true, false, false]) rfl rfl rfl rfl (k_alloc zA24 rfl ?_)
            refine tn_step [8] (by kernel_rfl) rfl ?_
            refine ⟨?_, trivial⟩
            refine tn_k (listed' := #[true, true, true, true, true, true, true, true, true, false]) rfl rfl rfl rfl (k_store sz24 rfl (by conv=>lhs;whnf) rfl rfl rfl (Nat.le_of_ble_eq_true rfl) rfl ?_)
            refine tn_step [9] (by kernel_rfl) rfl ?_
            refine ⟨?_, trivial⟩
            refine tn_k (listed' := #[true, true, true, true, true, true, true, true, true, true]) rfl rfl rfl rfl (k_store sz24 rfl (by conv=>lhs;whnf) rfl rfl rfl (Nat.le_of_ble_eq_true rfl) rfl ?_)
            refine tn_end (by kernel_rfl) ?_
            refine sub_weak ?_ ?_
            · exact weakH_boxR (boxEq (rfl)) rfl (weakH_boxR (boxEq (rfl)) rfl (weakH_row (rowEq (rfl)) (weakH_row (rowEq (by first | rfl | (show List.replicate _ _ = List.map ci (List.replicate ps.length 0); rw [List.map_replicate]; rfl))) (weakH_none _))))
            · refine weakE_upd ?e8 ?r8 (weakE_upd ?e7 ?r7 (weakE_upd ?e3 ?r3 (weakE_upd ?e1 ?r1 (weakE_junk _ _))))
              case e1 => first | rfl | exact fI (by omega) | (rfl)
              case r1 => intro h hh; cases hh
              case e3 => first | rfl | exact fI (by omega) | (rfl)
              case r3 => intro h hh; cases hh
              case e7 => first | rfl | exact fI (by omega) | (rfl)
              case r7 => intro h hh; simp [refs] at hh; subst hh; rfl
              case e8 => first | rfl | exact fI (by omega) | (rfl)
              case r8 => intro h hh; simp [refs] at hh; subst hh; rfl
          · refine tn_k (listed' := #[true, false, true, true, true, true, true, true, false, false]) rfl rfl rfl rfl (k_alloc zA24 rfl ?_)
            refine tn_step [1] (by kernel_rfl) rfl ?_
            refine ⟨?_, trivial⟩
            refine tn_k (listed' := #[true, true, true, true, true, true, true, true, false, false]) rfl rfl rfl rfl (k_callX [(7, 900001)] (D_slices_Clone_int64_int64_X ds (by omega)) rfl (rfl) (rfl) trivial ⟨⟨rfl, show (900001 : Nat) < 1000000 by decide⟩, trivial⟩ rfl rfl rfl ?_)
            refine tn_step [8] (by kernel_rfl) rfl ?_
            refine ⟨?_, trivial⟩
            refine tn_k (listed' := #[true, true, true, true, true, true, true, true, true, false]) rfl rfl rfl rfl (k_store sz24 rfl (by conv=>lhs;whnf) rfl rfl rfl (Nat.le_of_ble_eq_true rfl) rfl ?_)
            refine tn_step [9] (by kernel_rfl) rfl ?_
            refine ⟨?_, trivial⟩
            refine tn_k (listed' := #[true, true, true, true, true, true, true, true, true, true]) rfl rfl rfl rfl (k_store sz24 rfl (by conv=>lhs;whnf) rfl rfl rfl (Nat.le_of_ble_eq_true rfl) rfl ?_)
            refine tn_end (by kernel_rfl) ?_
            refine sub_weak ?_ ?_
            · exact weakH_boxR (boxEq (rfl)) rfl (weakH_boxR (boxEq (rfl)) rfl (weakH_row (rowEq (rfl)) (weakH_row (rowEq (by first | rfl | (show List.replicate _ _ = List.map ci (List.replicate ps.length 0); rw [List.map_replicate]; rfl))) (weakH_none _))))
            · refine weakE_upd ?e8 ?r8 (weakE_upd ?e7 ?r7 (weakE_upd ?e3 ?r3 (weakE_upd ?e1 ?r1 (weakE_junk _ _))))
              case e1 => first | rfl | exact fI (by omega) | (rfl)
              case r1 => intro h hh; cases hh
              case e3 => first | rfl | exact fI (by omega) | (rfl)
              case r3 => intro h hh; cases hh
              case e7 => first | rfl | exact fI (by omega) | (rfl)
              case r7 => intro h hh; simp [refs] at hh; subst hh; rfl
              case e8 => first | rfl | exact fI (by omega) | (rfl)
              case r8 => intro h hh; simp [refs] at hh; subst hh; rfl
        · refine tn_k (listed' := #[true, false, true, true, true, false, true, true, false, false]) rfl rfl rfl rfl (k_alloc zA24 rfl ?_)
          refine tn_step [1, 5] (by kernel_rfl) rfl ?_
          refine ⟨?_, ?_, trivial⟩
          · refine tn_k (listed' := #[true, true, true, true, true, false, true, true, false, false]) rfl rfl rfl rfl (k_callX [(7, 900001)] (D_slices_Clone_int64_int64_X ds (by omega)) rfl (rfl) (rfl) trivial ⟨⟨rfl, show (900001 : Nat) < 1000000 by decide⟩, trivial⟩ rfl rfl rfl ?_)
            refine tn_step [5, 8] (by kernel_rfl) rfl ?_
            refine ⟨?_, ?_, trivial⟩
            · refine tn_k (listed' := #[true, true, true, true, true, true, true, true, false, false]) rfl rfl rfl rfl (k_make tE24 rfl rfl zA2 tBy2 rfl (by omega) (by omega) (by omega) rfl (by show _ = ps.length; omega) ?_)
              refine tn_step [8] (by kernel_rfl) rfl ?_
              refine ⟨?_, trivial⟩
              refine tn_k (listed' := #[true, true, true, true, true, true, true, true, true, false]) rfl rfl rfl rfl (k_store sz24 rfl (by conv=>lhs;whnf) rfl rfl rfl (Nat.le_of_ble_eq_true rfl) rfl ?_)
              refine tn_step [9] (by kernel_rfl) rfl ?_
              refine ⟨?_, trivial⟩
              refine tn_k (listed' := #[true, true, true, true, true, true, true, true, true, true]) rfl rfl rfl rfl (k_store sz24 rfl (by conv=>lhs;whnf) rfl rfl rfl (Nat.le_of_ble_eq_true rfl) rfl ?_)
              refine tn_end (by kernel_rfl) ?_
              refine sub_weak ?_ ?_
              · exact weakH_boxR (boxEq (rfl)) rfl (weakH_boxR (boxEq (rfl)) rfl (weakH_row (rowEq (rfl)) (weakH_row (rowEq (by first | rfl | (show List.replicate _ _ = List.map ci (List.replicate ps.length 0); rw [List.map_replicate]; rfl))) (weakH_none _))))
              · refine weakE_upd ?e8 ?r8 (weakE_upd ?e7 ?r7 (weakE_upd ?e3 ?r3 (weakE_upd ?e1 ?r1 (weakE_junk _ _))))
                case e1 => first | rfl | exact fI (by omega) | (rfl)
                case r1 => intro h hh; cases hh
                case e3 => first | rfl | exact fI (by omega) | (rfl)
                case r3 => intro h hh; cases hh
                case e7 => first | rfl | exact fI (by omega) | (rfl)
                case r7 => intro h hh; simp [refs] at hh; subst hh; rfl
                case e8 => first | rfl | exact fI (by omega) | (rfl)
                case r8 => intro h hh; simp [refs] at hh; subst hh; rfl
            · refine tn_k (listed' := #[true, true, true, true, true, false, true, true, true, false]) rfl rfl rfl rfl (k_store sz24 rfl (by conv=>lhs;whnf) rfl rfl rfl (Nat.le_of_ble_eq_true rfl) rfl ?_)
              refine tn_step [5] (by kernel_rfl) rfl ?_
              refine ⟨?_, trivial⟩
              refine tn_k (listed' := #[true, true, true, true, true, true, true, true, true, false]) rfl rfl rfl rfl (k_make tE24 rfl rfl zA2 tBy2 rfl (by omega) (by omega) (by omega) rfl (by show _ = ps.length; omega) ?_)
              refine tn_step [9] (by kernel_rfl) rfl ?_
              refine ⟨?_, trivial⟩
              refine tn_k (listed' := #[true, true, true, true, true, true, true, true, true, true]) rfl rfl rfl rfl (k_store sz24 rfl (by conv=>lhs;whnf) rfl rfl rfl (Nat.le_of_ble_eq_true rfl) rfl ?_)
              refine tn_end (by kernel_rfl) ?_
              refine sub_weak ?_ ?_
              · exact weakH_boxR (boxEq (rfl)) rfl (weakH_boxR (boxEq (rfl)) rfl (weakH_row (rowEq (rfl)) (weakH_row (rowEq (by first | rfl | (show List.replicate _ _ = List.map ci (List.replicate ps.length 0); rw [List.map_replicate]; rfl))) (weakH_none _))))
              · refine weakE_upd ?e8 ?r8 (weakE_upd ?e7 ?r7 (weakE_upd ?e3 ?r3 (weakE_upd ?e1 ?r1 (weakE_junk _ _))))
                case e1 => first | rfl | exact fI (by omega) | (rfl)
                case r1 => intro h hh; cases hh
                case e3 => first | rfl | exact fI (by omega) | (rfl)
                case r3 => intro h hh; cases hh
                case e7 => first | rfl | exact fI (by omega) | (rfl)
                case r7 => intro h hh; simp [refs] at hh; subst hh; rfl
                case e8 => first | rfl | exact fI (by omega) | (rfl)
                case r8 => intro h hh; simp [refs] at hh; subst hh; rfl
          · refine tn_k (listed' := #[true, false, true, true, true, true, true, true, false, false]) rfl rfl rfl rfl (k_make tE24 rfl rfl zA2 tBy2 rfl (by omega) (by omega) (by omega) rfl (by show _ = ps.length; omega) ?_)
            refine tn_step [1] (by kernel_rfl) rfl ?_
            refine ⟨?_, trivial⟩
            refine tn_k (listed' := #[true, true, true, true, true, true, true, true, false, false]) rfl rfl rfl rfl (k_callX [(7, 900001)] (D_slices_Clone_int64_int64_X ds (by omega)) rfl (rfl) (rfl) trivial ⟨⟨rfl, show (900001 : Nat) < 1000000 by decide⟩, trivial⟩ rfl rfl rfl ?_)
            refine tn_step [8] (by kernel_rfl) rfl ?_
            refine ⟨?_, trivial⟩
            refine tn_k (listed' := #[true, true, true, true, true, true, true, true, true, false]) rfl rfl rfl rfl (k_store sz24 rfl (by conv=>lhs;whnf) rfl rfl rfl (Nat.le_of_ble_eq_true rfl) rfl ?_)
            refine tn_step [9] (by kernel_rfl) rfl ?_
            refine ⟨?_, trivial⟩
            refine tn_k (listed' := #[true, true, true, true, true, true, true, true, true, true]) rfl rfl rfl rfl (k_store sz24 rfl (by conv=>lhs;whnf) rfl rfl rfl (Nat.le_of_ble_eq_true rfl) rfl ?_)
            refine tn_end (by kernel_rfl) ?_
            refine sub_weak ?_ ?_
            · exact weakH_boxR (boxEq (rfl)) rfl (weakH_boxR (boxEq (rfl)) rfl (weakH_row (rowEq (rfl)) (weakH_row (rowEq (by first | rfl | (show List.replicate _ _ = List.map ci (List.replicate ps.length 0); rw [List.map_replicate]; rfl))) (weakH_none _))))
            · refine weakE_upd ?e8 ?r8 (weakE_upd ?e7 ?r7 (weakE_upd ?e3 ?r3 (weakE_upd ?e1 ?r1 (weakE_junk _ _))))
              case e1 => first | rfl | exact fI (by omega) | (rfl)
              case r1 => intro h hh; cases hh
              case e3 => first | rfl | exact fI (by omega) | (rfl)
              case r3 => intro h hh; cases hh
              case e7 => first | rfl | exact fI (by omega) | (rfl)
              case r7 => intro h hh; simp [refs] at hh; subst hh; rfl
              case e8 => first | rfl | exact fI (by omega) | (rfl)
              case r8 => intro h hh; simp [refs] at hh; subst hh; rfl
      · refine tn_k (listed' := #[true, false, true, true, false, false, true, true, false, false]) rfl rfl rfl rfl (k_alloc zA24 rfl ?_)
        refine tn_step [1, 4] (by kernel_rfl) rfl ?_
        refine ⟨?_, ?_, trivial⟩
        · refine tn_k (listed' := #[true, true, true, true, false, false, true, true, false, false]) rfl rfl rfl rfl (k_callX [(7, 900001)] (D_slices_Clone_int64_int64_X ds (by omega)) rfl (rfl) (rfl) trivial ⟨⟨rfl, show (900001 : Nat) < 1000000 by decide⟩, trivial⟩ rfl rfl rfl ?_)
          refine tn_step [4, 8] (by kernel_rfl) rfl ?_
          refine ⟨?_, ?_, trivial⟩
          · refine tn_q (listed' := #[true, true, true, true, true, false, true, true, false, false]) rfl rfl rfl (q_len tEs25 rfl ?_)
            intro n22 hn22
            try simp only [List.length_map] at hn22
            refine tn_step [5, 8] (by kernel_rfl) rfl ?_
            refine ⟨?_, ?_, trivial⟩
            · refine tn_k (listed' := #[true, true, true, true, true, true, true, true, false, false]) rfl rfl rfl rfl (k_make tE24 rfl rfl zA2 tBy2 rfl (by omega) (by omega) (by omega) rfl (by show _ = ps.length; omega) ?_)
              refine tn_step [8] (by kernel_rfl) rfl ?_
              refine ⟨?_, trivial⟩
              refine tn_k (listed' := #[true, true, true, true, true, true, true, true, true, false]) rfl rfl rfl rfl (k_store sz24 rfl (by conv=>lhs;whnf) rfl rfl rfl (Nat.le_of_ble_eq_true rfl) rfl ?_)
              refine tn_step [9] (by kernel_rfl) rfl ?_
              refine ⟨?_, trivial⟩
              refine tn_k (listed' := #[true, true, true, true, true, true, true, true, true, true]) rfl rfl rfl rfl (k_store sz24 rfl (by conv=>lhs;whnf) rfl rfl rfl (Nat.le_of_ble_eq_true rfl) rfl ?_)
              refine tn_end (by kernel_rfl) ?_
              refine sub_weak ?_ ?_
              · exact weakH_boxR (boxEq (rfl)) rfl (weakH_boxR (boxEq (rfl)) rfl (weakH_row (rowEq (rfl)) (weakH_row (rowEq (by first | rfl | (show List.replicate _ _ = List.map ci (List.replicate ps.length 0); rw [List.map_replicate]; rfl))) (weakH_none _))))
              · refine weakE_upd ?e8 ?r8 (weakE_upd ?e7 ?r7 (weakE_upd ?e3 ?r3 (weakE_upd ?e1 ?r1 (weakE_junk _ _))))
                case e1 => first | rfl | exact fI (by omega) | (rfl)
                case r1 => intro h hh; cases hh
                case e3 => first | rfl | exact fI (by omega) | (rfl)
                case r3 => intro h hh; cases hh
                case e7 => first | rfl | exact fI (by omega) | (rfl)
                case r7 => intro h hh; simp [refs] at hh; subst hh; rfl
                case e8 => first | rfl | exact fI (by omega) | (rfl)
                case r8 => intro h hh; simp [refs] at hh; subst hh; rfl
            · refine tn_k (listed' := #[true, true, true, true, true, false, true, true, true, false]) rfl rfl rfl rfl (k_store sz24 rfl (by conv=>lhs;whnf) rfl rfl rfl (Nat.le_of_ble_eq_true rfl) rfl ?_)
              refine tn_step [5] (by kernel_rfl) rfl ?_
              refine ⟨?_, trivial⟩
              refine tn_k (listed' := #[true, true, true, true, true, true, true, true, true, false]) rfl rfl rfl rfl (k_make tE24 rfl rfl zA2 tBy2 rfl (by omega) (by omega) (by omega) rfl (by show _ = ps.length; omega) ?_)
              refine tn_step [9] (by kernel_rfl) rfl ?_
              refine ⟨?_, trivial⟩
              refine tn_k (listed' := #[true, true, true, true, true, true, true, true, true, true]) rfl rfl rfl rfl (k_store sz24 rfl (by conv=>lhs;whnf) rfl rfl rfl (Nat.le_of_ble_eq_true rfl) rfl ?_)
              refine tn_end (by kernel_rfl) ?_
              refine sub_weak ?_ ?_
              · exact weakH_boxR (boxEq (rfl)) rfl (weakH_boxR (boxEq (rfl)) rfl (weakH_row (rowEq (rfl)) (weakH_row (rowEq (by first | rfl | (show List.replicate _ _ = List.map ci (List.replicate ps.length 0); rw [List.map_replicate]; rfl))) (weakH_none _))))
              · refine weakE_upd ?e8 ?r8 (weakE_upd ?e7 ?r7 (weakE_upd ?e3 ?r3 (weakE_upd ?e1 ?r1 (weakE_junk _ _))))
                case e1 => first | rfl | exact fI (by omega) | (rfl)
                case r1 => intro h hh; cases hh
                case e3 => first | rfl | exact fI (by omega) | (rfl)
                case r3 => intro h hh; cases hh
                case e7 => first | rfl | exact fI (by omega) | (rfl)
                case r7 => intro h hh; simp [refs] at hh; subst hh; rfl
                case e8 => first | rfl | exact fI (by omega) | (rfl)
                case r8 => intro h hh; simp [refs] at hh; subst hh; rfl
          · refine tn_k (listed' := #[true, true, true, true, false, false, true, true, true, false]) rfl rfl rfl rfl (k_store sz24 rfl (by conv=>lhs;whnf) rfl rfl rfl (Nat.le_of_ble_eq_true rfl) rfl ?_)
            refine tn_first_q (i := 4) (listed' := #[true, true, true, true, true, false, true, true, true, false]) rfl rfl (by kernel_rfl) rfl (q_len tEs25 rfl ?_)
            intro n23 hn23
            try simp only [List.length_map] at hn23
            refine tn_step [5] (by kernel_rfl) rfl ?_
            refine ⟨?_, trivial⟩
            refine tn_k (listed' := #[true, true, true, true, true, true, true, true, true, false]) rfl rfl rfl rfl (k_make tE24 rfl rfl zA2 tBy2 rfl (by omega) (by omega) (by omega) rfl (by show _ = ps.length; omega) ?_)
            refine tn_step [9] (by kernel_rfl) rfl ?_
            refine ⟨?_, trivial⟩
            refine tn_k (listed' := #[true, true, true, true, true, true, true, true, true, true]) rfl rfl rfl rfl (k_store sz24 rfl (by conv=>lhs;whnf) rfl rfl rfl (Nat.le_of_ble_eq_true rfl) rfl ?_)
            refine tn_end (by kernel_rfl) ?_
            refine sub_weak ?_ ?_
            · exact weakH_boxR (boxEq (rfl)) rfl (weakH_boxR (boxEq (rfl)) rfl (weakH_row (rowEq (rfl)) (weakH_row (rowEq (by first | rfl | (show List.replicate _ _ = List.map ci (List.replicate ps.length 0); rw [List.map_replicate]; rfl))) (weakH_none _))))
            · refine weakE_upd ?e8 ?r8 (weakE_upd ?e7 ?r7 (weakE_upd ?e3 ?r3 (weakE_upd ?e1 ?r1 (weakE_junk _ _))))
              case e1 => first | rfl | exact fI (by omega) | (rfl)
              case r1 => intro h hh; cases hh
              case e3 => first | rfl | exact fI (by omega) | (rfl)
              case r3 => intro h hh; cases hh
              case e7 => first | rfl | exact fI (by omega) | (rfl)
              case r7 => intro h hh; simp [refs] at hh; subst hh; rfl
              case e8 => first | rfl | exact fI (by omega) | (rfl)
              case r8 => intro h hh; simp [refs] at hh; subst hh; rfl
        · refine tn_q (listed' := #[true, false, true, true, true, false, true, true, false, false]) rfl rfl rfl (q_len tEs25 rfl ?_)
          intro n24 hn24
          try simp only [List.length_map] at hn24
          refine tn_step [1, 5] (by kernel_rfl) rfl ?_
          refine ⟨?_, ?_, trivial⟩
          · refine tn_k (listed' := #[true, true, true, true, true, false, true, true, false, false]) rfl rfl rfl rfl (k_callX [(7, 900001)] (D_slices_Clone_int64_int64_X ds (by omega)) rfl (rfl) (rfl) trivial ⟨⟨rfl, show (900001 : Nat) < 1000000 by decide⟩, trivial⟩ rfl rfl rfl ?_)
            refine tn_step [5, 8] (by kernel_rfl) rfl ?_
            refine ⟨?_, ?_, trivial⟩
            · refine tn_k (listed' := #[true, true, true, true, true, true, true, true, false, false]) rfl rfl rfl rfl (k_make tE24 rfl rfl zA2 tBy2 rfl (by omega) (by omega) (by omega) rfl (by show _ = ps.length; omega) ?_)
              refine tn_step [8] (by kernel_rfl) rfl ?_
              refine ⟨?_, trivial⟩
              refine tn_k (listed' := #[true, true, true, true, true, true, true, true, true, false]) rfl rfl rfl rfl (k_store sz24 rfl (by conv=>lhs;whnf) rfl rfl rfl (Nat.le_of_ble_eq_true rfl) rfl ?_)
              refine tn_step [9] (by kernel_rfl) rfl ?_
              refine ⟨?_, trivial⟩
              refine tn_k (listed' := #[true, true, true, true, true, true, true, true, true, true]) rfl rfl rfl rfl (k_store sz24 rfl (by conv=>lhs;whnf) rfl rfl rfl (Nat.le_of_ble_eq_true rfl) rfl ?_)
              refine tn_end (by kernel_rfl) ?_
              refine sub_weak ?_ ?_
              · exact weakH_boxR (boxEq (rfl)) rfl (weakH_boxR (boxEq (rfl)) rfl (weakH_row (rowEq (rfl)) (weakH_row (rowEq (by first | rfl | (show List.replicate _ _ = List.map ci (List.replicate ps.length 0); rw [List.map_replicate]; rfl))) (weakH_none _))))
              · refine weakE_upd ?e8 ?r8 (weakE_upd ?e7 ?r7 (weakE_upd ?e3 ?r3 (weakE_upd ?e1 ?r1 (weakE_junk _ _))))
                case e1 => first | rfl | exact fI (by omega) | (rfl)
                case r1 => intro h hh; cases hh
                case e3 => first | rfl | exact fI (by omega) | (rfl)
                case r3 => intro h hh; cases hh
                case e7 => first | rfl | exact fI (by omega) | (rfl)
                case r7 => intro h hh; simp [refs] at hh; subst hh; rfl
                case e8 => first | rfl | exact fI (by omega) | (rfl)
                case r8 => intro h hh; simp [refs] at hh; subst hh; rfl
            · refine tn_k (listed' := #[true, true, true, true, true, false, true, true, true, false]) rfl rfl rfl rfl (k_store sz24 rfl (by conv=>lhs;whnf) rfl rfl rfl (Nat.le_of_ble_eq_true rfl) rfl ?_)
              refine tn_step [5] (by kernel_rfl) rfl ?_
              refine ⟨?_, trivial⟩
              refine tn_k (listed' := #[true, true, true, true, true, true, true, true, true, false]) rfl rfl rfl rfl (k_make tE24 rfl rfl zA2 tBy2 rfl (by omega) (by omega) (by omega) rfl (by show _ = ps.length; omega) ?_)
              refine tn_step [9] (by kernel_rfl) rfl ?_
              refine ⟨?_, trivial⟩
              refine tn_k (listed' := #[true, true, true, true, true, true, true, true, true, true]) rfl rfl rfl rfl (k_store sz24 rfl (by conv=>lhs;whnf) rfl rfl rfl (Nat.le_of_ble_eq_true rfl) rfl ?_)
              refine tn_end (by kernel_rfl) ?_
              refine sub_weak ?_ ?_
              · exact weakH_boxR (boxEq (rfl)) rfl (weakH_boxR (boxEq (rfl)) rfl (weakH_row (rowEq (rfl)) (weakH_row (rowEq (by first | rfl | (show List.replicate _ _ = List.map ci (List.replicate ps.length 0); rw [List.map_replicate]; rfl))) (weakH_none _))))
              · refine weakE_upd ?e8 ?r8 (weakE_upd ?e7 ?r7 (weakE_upd ?e3 ?r3 (weakE_upd ?e1 ?r1 (weakE_junk _ _))))
                case e1 => first | rfl | exact fI (by omega) | (rfl)
                case r1 => intro h hh; cases hh
                case e3 => first | rfl | exact fI (by omega) | (rfl)
                case r3 => intro h hh; cases hh
                case e7 => first | rfl | exact fI (by omega) | (rfl)
                case r7 => intro h hh; simp [refs] at hh; subst hh; rfl
                case e8 => first | rfl | exact fI (by omega) | (rfl)
                case r8 => intro h hh; simp [refs] at hh; subst hh; rfl
          · refine tn_k (listed' := #[true, false, true, true, true, true, true, true, false, false]) rfl rfl rfl rfl (k_make tE24 rfl rfl zA2 tBy2 rfl (by omega) (by omega) (by omega) rfl (by show _ = ps.length; omega) ?_)
            refine tn_step [1] (by kernel_rfl) rfl ?_
            refine ⟨?_, trivial⟩
            refine tn_k (listed' := #[true, true, true, true, true, true, true, true, false, false]) rfl rfl rfl rfl (k_callX [(7, 900001)] (D_slices_Clone_int64_int64_X ds (by omega)) rfl (rfl) (rfl) trivial ⟨⟨rfl, show (900001 : Nat) < 1000000 by decide⟩, trivial⟩ rfl rfl rfl ?_)
            refine tn_step [8] (by kernel_rfl) rfl ?_
            refine ⟨?_, trivial⟩
            refine tn_k (listed' := #[true, true, true, true, true, true, true, true, true, false]) rfl rfl rfl rfl (k_store sz24 rfl (by conv=>lhs;whnf) rfl rfl rfl (Nat.le_of_ble_eq_true rfl) rfl ?_)
            refine tn_step [9] (by kernel_rfl) rfl ?_
            refine ⟨?_, trivial⟩
            refine tn_k (listed' := #[true, true, true, true, true, true, true, true, true, true]) rfl rfl rfl rfl (k_store sz24 rfl (by conv=>lhs;whnf) rfl rfl rfl (Nat.le_of_ble_eq_true rfl) rfl ?_)
            refine tn_end (by kernel_rfl) ?_
            refine sub_weak ?_ ?_
            · exact weakH_boxR (boxEq (rfl)) rfl (weakH_boxR (boxEq (rfl)) rfl (weakH_row (rowEq (rfl)) (weakH_row (rowEq (by first | rfl | (show List.replicate _ _ = List.map ci (List.replicate ps.length 0); rw [List.map_replicate]; rfl))) (weakH_none _))))
            · refine weakE_upd ?e8 ?r8 (weakE_upd ?e7 ?r7 (weakE_upd ?e3 ?r3 (weakE_upd ?e1 ?r1 (weakE_junk _ _))))
              case e1 => first | rfl | exact fI (by omega) | (rfl)
              case r1 => intro h hh; cases hh
              case e3 => first | rfl | exact fI (by omega) | (rfl)
              case r3 => intro h hh; cases hh
              case e7 => first | rfl | exact fI (by omega) | (rfl)
              case r7 => intro h hh; simp [refs] at hh; subst hh; rfl
              case e8 => first | rfl | exact fI (by omega) | (rfl)
              case r8 => intro h hh; simp [refs] at hh; subst hh; rfl
  · refine goodW_seq2 fun K25 hK25 => ?_
    refine gr rfl ?_
    refine ev_q rfl (q_loadA tA27 rfl rfl rfl ?_)
    refine em rfl (by conv=>lhs;whnf) ?_
    refine ev_q rfl (q_call rfl rfl (rfl) (D_waysL ns ps s hn hp hz ok hs) rfl ?_)
    refine ev_q rfl (q_call rfl rfl (rfl) (D_slices_Backward_impl_way_impl_way (waysF (ps.map pe) ns.length s.toNat).2) rfl ?_)
    refine ev_nil (hK25 _ ?_); clear hK25
    refine goodW_weak (st' := { env := upd (upd (upd (upd ((fun _ => .junk)) 3 (.rp [.lst 1 (ns.map ci), .lst 6 (ps.map piA)])) 7 (.ptr 7 0)) 8 (.ptr 8 0)) 20 (.fn 118 [.rp [.lst 3 ((waysF (ps.map pe) ns.length s.toNat).2.map wyA)]]), H := upd (upd (upd (upd ((fun _ => none)) 16 (some (.row 2 1 ((tfA ps ds (waysF (ps.map pe) ns.length s.toNat).2 []).2.map ci)))) 900001 (some (.row 2 1 ((tfA ps ds (waysF (ps.map pe) ns.length s.toNat).2 []).1.map ci)))) 8 (some (.box 24 [.own 16 ps.length]))) 7 (some (.box 24 [.own 900001 ds.length])) }) ?_ ?_
    · refine sub_weak ?_ ?_
      · exact weakH_boxR (boxEq (rfl)) rfl (weakH_boxR (boxEq (rfl)) rfl (weakH_row (rowEq (rfl)) (weakH_row (rowEq (by first | rfl | (show List.replicate _ _ = List.map ci (List.replicate ps.length 0); rw [List.map_replicate]; rfl))) (weakH_none _))))
      · refine weakE_upd ?e20 ?r20 (weakE_upd ?e8 ?r8 (weakE_upd ?e7 ?r7 (weakE_upd ?e3 ?r3 (weakE_junk _ _))))
        case e3 => first | rfl | exact fI (by omega) | (rfl)
        case r3 => intro h hh; cases hh
        case e7 => first | rfl | exact fI (by omega) | (rfl)
        case r7 => intro h hh; simp [refs] at hh; subst hh; rfl
        case e8 => first | rfl | exact fI (by omega) | (rfl)
        case r8 => intro h hh; simp [refs] at hh; subst hh; rfl
        case e20 => first | rfl | exact fI (by omega) | (rfl)
        case r20 => intro h hh; cases hh
    refine goodW_range (p0 := 21) (tv := 22) (tb := 10) (elem := 112) (Nn := (waysF (ps.map pe) ns.length s.toNat).2.length) (Hk := fun pre => upd (upd (upd (upd ((fun _ => none)) 16 (some (.row 2 1 ((tfA ps ds (waysF (ps.map pe) ns.length s.toNat).2 pre).2.map ci)))) 900001 (some (.row 2 1 ((tfA ps ds (waysF (ps.map pe) ns.length s.toNat).2 pre).1.map ci)))) 8 (some (.box 24 [.own 16 ps.length]))) 7 (some (.box 24 [.own 900001 ds.length]))) (vsx := vsw (waysF (ps.map pe) ns.length s.toNat).2) (S := fun xs => xs = dnL (waysF (ps.map pe) ns.length s.toNat).2.length (waysF (ps.map pe) ns.length s.toNat).2.length) (avx := fun x => [.s (.int .i64 ((wvA (waysF (ps.map pe) ns.length s.toNat).2 x).1 : Int)), .s (.int .i64 ((wvA (waysF (ps.map pe) ns.length s.toNat).2 x).2.1 : Int)), .s (.int .i64 ((wvA (waysF (ps.map pe) ns.length s.toNat).2 x).2.2 : Int))]) (by decide) ?hsm (dom_of_same ?hsm) (gf := 118) (enters Try.func118 (by decide) rfl) (fun C φ a w g => seqB g rfl (by omega)) zA112 (fun x => rfl) ?hv1 rfl rfl rfl rfl rfl rfl (by decide) (size_of_tAgg tA112) ⟨rfl, rfl⟩ ?hav ?hbody rfl ?htail
    case hsm => exact fun pre x => sameH_box rfl (sameH_box rfl (sameH_row (by simp [tfA_len]) (sameH_row (by simp [tfA_len]) (sameH_none))))
    case hv1 => exact fun x v hv => by simp [vsw] at hv; rcases hv with rfl | rfl | rfl <;> rfl
    case hav => exact fun x w ok => .cons (.s rfl) (.cons (.s rfl) (.cons (.s rfl) .nil))
    case htail =>
      intro xs hxs
      subst hxs
      refine ⟨rfl, q_load tA24 rfl ⟨rfl, q_assign rfl ?_⟩⟩
      unfold EVR
      refine ret_tmp (t := 6) (v := .own 16 ps.length) (v' := .lst 1 (List.take ps.length ((tfA ps ds (waysF (ps.map pe) ns.length s.toNat).2 (dnL (waysF (ps.map pe) ns.length s.toNat).2.length (waysF (ps.map pe) ns.length s.toNat).2.length)).2.map ci))) rfl rfl rfl ?_
      have hr := tfA_run ok (s := s.toNat) (by omega) hdm (waysF (ps.map pe) ns.length s.toNat).2.length (Nat.le_refl _)
      rw [Nat.sub_self, List.drop_zero] at hr
      show AV.lst 1 (List.take ps.length ((tfA ps ds (waysF (ps.map pe) ns.length s.toNat).2 (dnL (waysF (ps.map pe) ns.length s.toNat).2.length (waysF (ps.map pe) ns.length s.toNat).2.length)).2.map ci)) = _
      rw [hr, takeLen (by rw [List.length_map, flL_len, List.length_map]; exact Nat.le_refl _)]
    case hbody =>
      intro pre x hp
      · have hwm := wvA_mem (ws := (waysF (ps.map pe) ns.length s.toNat).2) (by omega) x
        obtain ⟨p, hW⟩ := wayOf ok (show s.toNat < ns.length by omega) hwm
        have hpp := hW.hp
        have hw1 := hW.l1
        have hw2 := hW.l2
        have hwn := hW.ne
        have hpl := (List.getElem?_eq_some_iff.1 hpp).1
        have htl := tfA_len (ps := ps) (ds := ds) (ws := (waysF (ps.map pe) ns.length s.toNat).2) pre
        have hst := tfA_app (ps := ps) (ds := ds) (ws := (waysF (ps.map pe) ns.length s.toNat).2) (pre := pre) (x := x)
        unfold tfw at hst
        rw [hpp] at hst
        dsimp only at hst
        refine goodR_weak (st' := { env := upd (upd (upd (upd ((fun _ => .junk)) 3 (.rp [.lst 1 (ns.map ci), .lst 6 (ps.map piA)])) 7 (.ptr 1000007 0)) 8 (.ptr 1000008 0)) 10 (.rp [.s (.int .i64 ((wvA (waysF (ps.map pe) ns.length s.toNat).2 x).1 : Int)), .s (.int .i64 ((wvA (waysF (ps.map pe) ns.length s.toNat).2 x).2.1 : Int)), .s (.int .i64 ((wvA (waysF (ps.map pe) ns.length s.toNat).2 x).2.2 : Int))]), H := upd (upd (upd (upd ((fun _ => none)) 1000016 (some (.row 2 1 ((tfA ps ds (waysF (ps.map pe) ns.length s.toNat).2 pre).2.map ci)))) 1900001 (some (.row 2 1 ((tfA ps ds (waysF (ps.map pe) ns.length s.toNat).2 pre).1.map ci)))) 1000008 (some (.box 24 [.own 1000016 ps.length]))) 1000007 (some (.box 24 [.own 1900001 ds.length])) }) ?_ ?_
        · refine sub_weak ?_ ?_
          · exact weakH_boxR (boxEq (rfl)) rfl (weakH_boxR (boxEq (rfl)) rfl (weakH_row (rowEq (rfl)) (weakH_row (rowEq (rfl)) (weakH_none _))))
          · refine weakE_upd ?e10 ?r10 (weakE_upd ?e8 ?r8 (weakE_upd ?e7 ?r7 (weakE_upd ?e3 ?r3 (weakE_junk _ _))))
            case e3 => first | rfl | exact fI (by omega) | (rfl)
            case r3 => intro h hh; cases hh
            case e7 => first | rfl | exact fI (by omega) | (rfl)
            case r7 => intro h hh; simp [refs] at hh; subst hh; rfl
            case e8 => first | rfl | exact fI (by omega) | (rfl)
            case r8 => intro h hh; simp [refs] at hh; subst hh; rfl
            case e10 => first | rfl | exact fI (by omega) | (rfl)
            case r10 => intro h hh; cases hh
        refine goodR_block ?_
        refine goodR_seq fun K26 hK26 => ?_
        refine goodR_draw 12 rfl hmix (by kernel_rfl) rfl ?_
        refine qo_q rfl (q_load tA24 rfl ?_)
        refine qo_q rfl (q_fieldAddr fO112_1 rfl rfl ?_)
        refine qo_q rfl (q_load tA2 rfl ?_)
        refine qo_q rfl (q_idxO tE24 rfl rfl rfl (by exact Int.natCast_nonneg _) (by first | omega | (simp; omega)) rfl ?_)
        refine qo_q rfl (q_loadE tA2 rfl rfl (by exact getG (t := (tfA ps ds (waysF (ps.map pe) ns.length s.toNat).2 pre).1) (v := (wvA (waysF (ps.map pe) ns.length s.toNat).2 x).2.1) (by omega)) rfl ?_)
        refine qo_q rfl (q_load tA24 rfl ?_)
        refine qo_q rfl (q_fieldAddr fO112_0 rfl rfl ?_)
        refine qo_q rfl (q_load tA2 rfl ?_)
        refine qo_q rfl (q_idxO tE24 rfl rfl rfl (by exact Int.natCast_nonneg _) (by first | omega | (simp; omega)) rfl ?_)
        refine qo_q rfl (q_loadE tA2 rfl rfl (by exact getG (t := (tfA ps ds (waysF (ps.map pe) ns.length s.toNat).2 pre).1) (v := (wvA (waysF (ps.map pe) ns.length s.toNat).2 x).1) (by omega)) rfl ?_)
        refine qo_q rfl (q_int rfl rfl ?_)
        intro n27 hn27
        refine qo_q rfl (q_idxO tE24 rfl rfl rfl (by exact Int.natCast_nonneg _) (by first | omega | (simp; omega)) rfl ?_)
        refine qo_nil ?_
        refine ev_k rfl (k_storeE sz2 rfl (by conv=>lhs;whnf) rfl rfl rfl (Nat.le_of_ble_eq_true rfl) rfl (by exact getG (t := (tfA ps ds (waysF (ps.map pe) ns.length s.toNat).2 pre).1) (v := (wvA (waysF (ps.map pe) ns.length s.toNat).2 x).2.1) (by omega)) (Nat.le_of_ble_eq_true rfl) rfl ?_)
        refine ev_nil (hK26 _ ?_); clear hK26
        refine goodR_seq fun K28 hK28 => ?_
        refine goodR_draw 9 rfl hmix (by kernel_rfl) rfl ?_
        have hS : ((tfA ps ds (waysF (ps.map pe) ns.length s.toNat).2 pre).1.map ci).set (wvA (waysF (ps.map pe) ns.length s.toNat).2 x).2.1 (ci n27) = ((tfA ps ds (waysF (ps.map pe) ns.length s.toNat).2 pre).1.set (wvA (waysF (ps.map pe) ns.length s.toNat).2 x).2.1 (wr ((tfA ps ds (waysF (ps.map pe) ns.length s.toNat).2 pre).1.getD (wvA (waysF (ps.map pe) ns.length s.toNat).2 x).2.1 0 + (tfA ps ds (waysF (ps.map pe) ns.length s.toNat).2 pre).1.getD (wvA (waysF (ps.map pe) ns.length s.toNat).2 x).1 0))).map ci := by rw [mapSet, hn27]; rfl
        refine qo_q rfl (q_load tA24 rfl ?_)
        refine qo_q rfl (q_fieldAddr fO112_2 rfl rfl ?_)
        refine qo_q rfl (q_load tA3 rfl ?_)
        refine qo_q rfl (q_load tA24 rfl ?_)
        refine qo_q rfl (q_fieldAddr fO112_0 rfl rfl ?_)
        refine qo_q rfl (q_load tA2 rfl ?_)
        refine qo_q rfl (q_idxO tE24 rfl rfl rfl (by exact Int.natCast_nonneg _) (by first | omega | (simp; omega)) rfl ?_)
        refine qo_q rfl (q_loadE tA2 rfl rfl (by have q := getG (t := ((tfA ps ds (waysF (ps.map pe) ns.length s.toNat).2 pre).1.set (wvA (waysF (ps.map pe) ns.length s.toNat).2 x).2.1 (wr ((tfA ps ds (waysF (ps.map pe) ns.length s.toNat).2 pre).1.getD (wvA (waysF (ps.map pe) ns.length s.toNat).2 x).2.1 0 + (tfA ps ds (waysF (ps.map pe) ns.length s.toNat).2 pre).1.getD (wvA (waysF (ps.map pe) ns.length s.toNat).2 x).1 0)))) (v := (wvA (waysF (ps.map pe) ns.length s.toNat).2 x).1) (by rw [List.length_set]; omega); rw [← hS] at q; exact q) rfl ?_)
        refine qo_q rfl (q_idxO tE24 rfl rfl rfl (by exact Int.natCast_nonneg _) (by first | omega | (simp; omega)) rfl ?_)
        refine qo_nil ?_
        refine ev_k rfl (k_storeE sz2 rfl (by conv=>lhs;whnf) rfl rfl rfl (Nat.le_of_ble_eq_true rfl) rfl (by exact getG (t := (tfA ps ds (waysF (ps.map pe) ns.length s.toNat).2 pre).2) (v := (wvA (waysF (ps.map pe) ns.length s.toNat).2 x).2.2) (by omega)) (Nat.le_of_ble_eq_true rfl) rfl ?_)
        refine ev_nil (hK28 _ ?_); clear hK28
        refine goodR_seq fun K29 hK29 => ?_
        refine goodR_draw 10 rfl hmix (by kernel_rfl) rfl ?_
        refine qo_q rfl (q_fieldAddr fO27_1 rfl rfl ?_)
        refine qo_q rfl (q_load tA25 rfl ?_)
        refine qo_q rfl (q_fieldAddr fO112_2 rfl rfl ?_)
        refine qo_q rfl (q_load tA3 rfl ?_)
        refine qo_q rfl (q_idx tE25 rfl rfl (by exact Int.natCast_nonneg _) (by exact map_get hpp) rfl ?_)
        refine qo_q rfl (q_fieldAddr fO73_1 rfl rfl ?_)
        refine qo_q rfl (q_load tA2 rfl ?_)
        refine qo_q rfl (q_fieldAddr fO112_0 rfl rfl ?_)
        refine qo_q rfl (q_load tA2 rfl ?_)
        refine qo_q rfl (q_int rfl rfl ?_)
        intro b30 hb30; cases b30
        · replace hb30 := eqF hb30
          refine qo_nil ?_
          refine ev_nil (hK29 _ ?_); clear hK29
          refine goodR_condF rfl ?_
          refine goodR_skip ?_
          refine And.intro rfl (fun h hh => ?_)
          rcases updS hh with rfl | hh
          · rfl
          rcases updS hh with rfl | hh
          · rfl
          rcases updS hh with rfl | hh
          · refine rowEq ?_
            rw [hst]
            exact hS
          rcases updS hh with rfl | hh
          · refine rowEq ?_
            rw [hst]
            first | (rw [if_pos (by omega), ← mapSet, ← mapSet, h?t62]; rfl) | (rw [if_neg (by omega), ← mapSet]; rfl)
          cases hh
        · replace hb30 := eqT hb30
          refine qo_nil ?_
          refine ev_nil (hK29 _ ?_); clear hK29
          refine goodR_condT rfl ?_
          refine goodR_draw 10 rfl hmix (by kernel_rfl) rfl ?_
          refine qo_q rfl (q_load tA24 rfl ?_)
          refine qo_q rfl (q_fieldAddr fO112_2 rfl rfl ?_)
          refine qo_q rfl (q_load tA3 rfl ?_)
          refine qo_q rfl (q_load tA24 rfl ?_)
          refine qo_q rfl (q_fieldAddr fO112_0 rfl rfl ?_)
          refine qo_q rfl (q_load tA2 rfl ?_)
          refine qo_q rfl (q_idxO tE24 rfl rfl rfl (by exact Int.natCast_nonneg _) (by first | omega | (simp; omega)) rfl ?_)
          refine qo_q rfl (q_loadE tA2 rfl rfl (by have q := getG (t := ((tfA ps ds (waysF (ps.map pe) ns.length s.toNat).2 pre).1.set (wvA (waysF (ps.map pe) ns.length s.toNat).2 x).2.1 (wr ((tfA ps ds (waysF (ps.map pe) ns.length s.toNat).2 pre).1.getD (wvA (waysF (ps.map pe) ns.length s.toNat).2 x).2.1 0 + (tfA ps ds (waysF (ps.map pe) ns.length s.toNat).2 pre).1.getD (wvA (waysF (ps.map pe) ns.length s.toNat).2 x).1 0)))) (v := (wvA (waysF (ps.map pe) ns.length s.toNat).2 x).1) (by rw [List.length_set]; omega); rw [← hS] at q; exact q) rfl ?_)
          refine qo_q rfl (q_neg rfl ?_)
          intro n31 hn31
          refine qo_q rfl (q_idxO tE24 rfl rfl rfl (by exact Int.natCast_nonneg _) (by first | omega | (simp; omega)) rfl ?_)
          refine qo_nil ?_
          refine ev_k rfl (k_storeE sz2 rfl (by conv=>lhs;whnf) rfl rfl rfl (Nat.le_of_ble_eq_true rfl) rfl (by exact List.getElem?_set_self (by rw [List.length_map]; omega)) (Nat.le_of_ble_eq_true rfl) rfl ?_)
          refine ev_nil ?_
          refine And.intro rfl (fun h hh => ?_)
          rcases updS hh with rfl | hh
          · rfl
          rcases updS hh with rfl | hh
          · rfl
          rcases updS hh with rfl | hh
          · refine rowEq ?_
            rw [hst]
            exact hS
          rcases updS hh with rfl | hh
          · refine rowEq ?_
            rw [hst]
            first | (rw [if_pos (by omega), ← mapSet, ← mapSet, hn31]; rfl) | (rw [if_neg (by omega), ← mapSet]; rfl)
          cases hh

-- impl.TreeFlows
theorem D_impl_TreeFlows (ns : List Int) (ps : List Pi) (s : Int) (ds : List Int) (hn : ns.length ≤ 17592186044416) (hp : ps.length ≤ 2513169434843) (hz : idSz ps) (ok : netOk ns ps) (hs : 0 ≤ s ∧ s < ns.length) (htr : treeP ns ps) (hdm : dmP ns ds) (hT : DrT ns ps) : Den Try.prog 10 [.agg [.lst 1 (ns.map ci), .lst 6 (ps.map piA)], .s (.int .i64 s), .lst 1 (ds.map ci)] (.tup [.lst 1 ((flT ns ps s.toNat ds).map ci), .s (.int .i64 0)]) := by
  have hdl := hdm.1
  have h16 := ok.1.1
  have hfk := flT_ok hT (s := s.toNat) (by omega) hdm
  have h20 := ok.1.2.2
  have hfl := hfk.1
  refine den_of_good Try.func10 (by decide) rfl (Nat.le_of_ble_eq_true rfl) (Nat.le_of_ble_eq_true rfl) ?_
  refine good_seq fun K1 hK1 => ?_
  refine gr rfl ?_
  refine ev_k rfl (k_box (by conv=>lhs;whnf) rfl rfl rfl ?_)
  refine ea rfl (by conv=>lhs;whnf) ?_
  refine ea rfl (by conv=>lhs;whnf) ?_
  refine ev_nil (hK1 _ ?_); clear hK1
  refine good_seq fun K2 hK2 => ?_
  refine good_seq fun K3 hK3 => ?_
  refine gr rfl ?_
  refine ev_q rfl (q_loadA tA27 rfl rfl rfl ?_)
  refine em rfl (by conv=>lhs;whnf) ?_
  refine em rfl (by conv=>lhs;whnf) ?_
  refine ev_q rfl (q_callI rfl rfl (rfl) (D_impl_treeCode_D ns ps s ds hn hp hz ok hs hdm htr (by omega)) ?_)
  intro n4 hn4
  refine ea rfl (by conv=>lhs;whnf) ?_
  refine ev_nil (hK3 _ ?_); clear hK3
  refine good_seq fun K5 hK5 => ?_
  refine gr rfl ?_
  refine em rfl (by conv=>lhs;whnf) ?_
  refine ei rfl rfl rfl ?_
  intro b6 hb6; cases b6
  rotate_left
  · replace hb6 := neT hb6
    exfalso; omega
  replace hb6 := neF hb6
  refine ev_nil (hK5 _ ?_); clear hK5
  refine good_condF rfl ?_
  refine good_skip (hK2 _ ?_); clear hK2
  refine good_seq fun K7 hK7 => ?_
  refine gr rfl ?_
  refine ev_q rfl (q_loadA tA27 rfl rfl rfl ?_)
  refine em rfl (by conv=>lhs;whnf) ?_
  refine em rfl (by conv=>lhs;whnf) ?_
  refine ev_q rfl (q_call rfl rfl (rfl) (D_impl_Network_treeFlows ns ps s ds hn hp hz ok hs htr hdm) rfl ?_)
  refine ea rfl (by conv=>lhs;whnf) ?_
  refine ev_nil (hK7 _ ?_); clear hK7
  refine good_seq fun K8 hK8 => ?_
  refine good_seq fun K9 hK9 => ?_
  refine gr rfl ?_
  refine em rfl (by conv=>lhs;whnf) ?_
  refine ev_q rfl (q_callB rfl rfl (rfl) (D_impl_allWithin (flT ns ps s.toNat ds) _ _ (by omega)) ?_)
  intro b10 hb10; cases b10
  · first | replace hb10 := dF hb10 | skip
    exfalso; exact absurd hfk.2 (by assumption)
  first | replace hb10 := dT hb10 | skip
  refine ev_q rfl (q_not rfl rfl ?_)
  refine ev_nil (hK9 _ ?_); clear hK9
  refine good_condF rfl ?_
  refine good_skip (hK8 _ ?_); clear hK8
  refine good_seq fun K11 hK11 => ?_
  refine gr rfl ?_
  refine em rfl (by conv=>lhs;whnf) ?_
  refine ea rfl (by conv=>lhs;whnf) ?_
  refine ea rfl (by conv=>lhs;whnf) ?_
  refine ev_nil (hK11 _ ?_); clear hK11
  refine good_ret ?_
  repeat first|refine thenQ_ret ?_|refine blockQ_ret ?_
  refine ret_many rfl ?_
  refine res_tmp (by conv=>lhs;whnf) rfl ?_
  refine res_tmp (by conv=>lhs;whnf) rfl ?_
  refine res_nil ?_
  rfl

-- impl.BalanceAt
theorem D_impl_BalanceAt (ns : List Int) (ps : List Pi) (fl : List Int) (j : Int) (hn : ns.length ≤ 17592186044416) (hp : ps.length ≤ 2513169434843) (hz : idSz ps) (hf : fl.length ≤ 17592186044416) : Den Try.prog 11 [.agg [.lst 1 (ns.map ci), .lst 6 (ps.map piA)], .lst 1 (fl.map ci), .s (.int .i64 j)] (.tup [.s (.int .i64 (baV ns ps fl j)), .s (.int .i64 (baC ns ps fl j))]) := by
  refine den_of_good Try.func11 (by decide) rfl (Nat.le_of_ble_eq_true rfl) (Nat.le_of_ble_eq_true rfl) ?_
  refine good_seq fun K1 hK1 => ?_
  refine gr rfl ?_
  refine ev_k rfl (k_box (by conv=>lhs;whnf) rfl rfl rfl ?_)
  refine ea rfl (by conv=>lhs;whnf) ?_
  refine ea rfl (by conv=>lhs;whnf) ?_
  refine ev_nil (hK1 _ ?_); clear hK1
  refine good_seq fun K2 hK2 => ?_
  refine good_block ?_
  refine good_seq fun K3 hK3 => ?_
  refine gr rfl ?_
  refine ev_q rfl (q_loadA tA27 rfl rfl rfl ?_)
  refine ev_q rfl (q_callB rfl rfl (rfl) (D_impl_ValidNetwork ns ps hn hp hz) ?_)
  intro b4 hb4; cases b4
  · first | replace hb4 := dF hb4 | skip
    refine ev_q rfl (q_not rfl rfl ?_)
    refine ea rfl (by conv=>lhs;whnf) ?_
    refine ev_nil (hK3 _ ?_); clear hK3
    refine good_condT rfl ?_
    refine good_seq fun K5 hK5 => ?_
    refine gr rfl ?_
    refine ea rfl (by conv=>lhs;whnf) ?_
    refine ea rfl (by conv=>lhs;whnf) ?_
    refine ev_nil (hK5 _ ?_); clear hK5
    refine good_ret ?_
    repeat first|refine thenQ_ret ?_|refine blockQ_ret ?_
    refine ret_many rfl ?_
    refine res_tmp (by conv=>lhs;whnf) rfl ?_
    refine res_tmp (by conv=>lhs;whnf) rfl ?_
    refine res_nil ?_
    clear hK2
    obtain ⟨e2, e⟩ := (by first | exact ba_1 (by assumption) | exact ba_2 (by assumption) (by omega) | exact ba_7 (by assumption) (by omega) (by assumption) | exact ba_0 ok (by omega) hfl (hB.trans (by rw [show i = ps.length by omega])) : baC ns ps fl j = _ ∧ baV ns ps fl j = _); exact fTup1 (fI (by omega)) (fTup1 (fI (by omega)) rfl)
  · first | replace hb4 := dT hb4 | skip
    refine ev_q rfl (q_not rfl rfl ?_)
    refine ea rfl (by conv=>lhs;whnf) ?_
    refine ev_nil (hK3 _ ?_); clear hK3
    refine good_condF rfl ?_
    refine good_seq fun K6 hK6 => ?_
    refine gr rfl ?_
    refine ev_q rfl (q_loadA tA27 rfl rfl rfl ?_)
    refine em rfl (by conv=>lhs;whnf) ?_
    refine ev_q rfl (q_callB rfl rfl (rfl) (D_impl_Network_hasNode _ _ _ hn) ?_)
    intro b7 hb7; cases b7
    · first | replace hb7 := dF hb7 | skip
      refine ev_q rfl (q_not rfl rfl ?_)
      refine ea rfl (by conv=>lhs;whnf) ?_
      refine ev_nil (hK6 _ ?_); clear hK6
      refine good_condT rfl ?_
      refine good_seq fun K8 hK8 => ?_
      refine gr rfl ?_
      refine ea rfl (by conv=>lhs;whnf) ?_
      refine ea rfl (by conv=>lhs;whnf) ?_
      refine ev_nil (hK8 _ ?_); clear hK8
      refine good_ret ?_
      repeat first|refine thenQ_ret ?_|refine blockQ_ret ?_
      refine ret_many rfl ?_
      refine res_tmp (by conv=>lhs;whnf) rfl ?_
      refine res_tmp (by conv=>lhs;whnf) rfl ?_
      refine res_nil ?_
      clear hK2
      obtain ⟨e2, e⟩ := (by first | exact ba_1 (by assumption) | exact ba_2 (by assumption) (by omega) | exact ba_7 (by assumption) (by omega) (by assumption) | exact ba_0 ok (by omega) hfl (hB.trans (by rw [show i = ps.length by omega])) : baC ns ps fl j = _ ∧ baV ns ps fl j = _); exact fTup1 (fI (by omega)) (fTup1 (fI (by omega)) rfl)
    · first | replace hb7 := dT hb7 | skip
      refine ev_q rfl (q_not rfl rfl ?_)
      refine ea rfl (by conv=>lhs;whnf) ?_
      refine ev_nil (hK6 _ ?_); clear hK6
      refine good_condF rfl ?_
      refine good_seq fun K9 hK9 => ?_
      refine gr rfl ?_
      refine ev_q rfl (q_loadA tA27 rfl rfl rfl ?_)
      refine em rfl (by conv=>lhs;whnf) ?_
      refine ev_q rfl (q_callB rfl rfl (rfl) (D_impl_Network_flowsOk ns ps fl hn hp hz hf) ?_)
      intro b10 hb10; cases b10
      · first | replace hb10 := dF hb10 | skip
        refine ev_q rfl (q_not rfl rfl ?_)
        refine ea rfl (by conv=>lhs;whnf) ?_
        refine ev_nil (hK9 _ ?_); clear hK9
        refine good_condT rfl ?_
        refine good_seq fun K11 hK11 => ?_
        refine gr rfl ?_
        refine ea rfl (by conv=>lhs;whnf) ?_
        refine ea rfl (by conv=>lhs;whnf) ?_
        refine ev_nil (hK11 _ ?_); clear hK11
        refine good_ret ?_
        repeat first|refine thenQ_ret ?_|refine blockQ_ret ?_
        refine ret_many rfl ?_
        refine res_tmp (by conv=>lhs;whnf) rfl ?_
        refine res_tmp (by conv=>lhs;whnf) rfl ?_
        refine res_nil ?_
        clear hK2
        obtain ⟨e2, e⟩ := (by first | exact ba_1 (by assumption) | exact ba_2 (by assumption) (by omega) | exact ba_7 (by assumption) (by omega) (by assumption) | exact ba_0 ok (by omega) hfl (hB.trans (by rw [show i = ps.length by omega])) : baC ns ps fl j = _ ∧ baV ns ps fl j = _); exact fTup1 (fI (by omega)) (fTup1 (fI (by omega)) rfl)
      · first | replace hb10 := dT hb10 | skip
        refine ev_q rfl (q_not rfl rfl ?_)
        refine ea rfl (by conv=>lhs;whnf) ?_
        refine ev_nil (hK9 _ ?_); clear hK9
        refine good_condF rfl ?_
        refine good_skip (hK2 _ ?_); clear hK2
        refine good_seq fun K12 hK12 => ?_
        refine gr rfl ?_
        refine ea rfl (by conv=>lhs;whnf) ?_
        refine ev_nil (hK12 _ ?_); clear hK12
        refine good_seq fun K13 hK13 => ?_
        refine good_seq fun K14 hK14 => ?_
        refine gr rfl ?_
        have ok : netOk ns ps := by assumption
        have hfl : flP ps fl := by assumption
        have h20 := ok.1.2.2
        refine ev_q rfl (q_fieldAddrP fO27_1 rfl rfl ?_)
        refine ev_q rfl (q_load tA25 rfl ?_)
        refine ev_q rfl (q_len tEs25 rfl ?_)
        intro n15 hn15
        try simp only [List.length_map] at hn15
        refine em rfl (by conv=>lhs;whnf) ?_
        refine ev_nil (hK14 _ ?_); clear hK14
        refine good_block ?_
        refine good_loop (α := Nat × Int) (fun (i, b) => { env := upd (upd (upd (upd (upd (upd ((fun _ => .junk)) 1 (.lst 1 (fl.map ci))) 2 (.s (.int .i64 j))) 8 (.s (.int .i64 b))) 26 (.lst 6 (ps.map piA))) 27 (.s (.int .i64 ((ps.length : Int))))) 28 (.s (.int .i64 ((i : Int)))), H := fun _ => none }) (fun (i, b) => i ≤ ps.length ∧ b = su (baS (ps.map pe) fl j.toNat) (List.range i) ∧ (-(100000 * (i : Int)) ≤ b ∧ b ≤ 100000 * i)) (fun (i, b) => ps.length - i) (0, 0) ?_ ?_ ?_
        · exact ⟨by omega, rfl, by omega⟩
        · refine sub_weak ?_ ?_
          · exact weakH_none _
          · refine weakE_upd ?e28 ?r28 (weakE_upd ?e27 ?r27 (weakE_upd ?e26 ?r26 (weakE_upd ?e8 ?r8 (weakE_upd ?e2 ?r2 (weakE_upd ?e1 ?r1 (weakE_junk _ _))))))
            case e1 => first | rfl | exact fI (by omega) | (simp_all)
            case r1 => intro h hh; cases hh
            case e2 => first | rfl | exact fI (by omega) | (simp_all)
            case r2 => intro h hh; cases hh
            case e8 => first | rfl | exact fI (by omega) | (simp_all)
            case r8 => intro h hh; cases hh
            case e26 => first | rfl | exact fI (by omega) | (simp_all)
            case r26 => intro h hh; cases hh
            case e27 => first | rfl | exact fI (by omega) | (simp_all)
            case r27 => intro h hh; cases hh
            case e28 => first | rfl | exact fI (by omega) | (simp_all)
            case r28 => intro h hh; cases hh
        · rintro ⟨i, b⟩ ⟨hI, hB, hbb⟩
          refine good_seq fun K16 hK16 => ?_
          refine gr rfl ?_
          refine ei rfl rfl rfl ?_
          intro b17 hb17; cases b17
          · replace hb17 := dF hb17
            refine ev_nil (hK16 _ ?_); clear hK16
            refine good_seq fun K18 hK18 => ?_
            refine good_condF rfl ?_
            refine good_exit ?_
            repeat first|refine thenQ_exit ?_|refine blockQ_pass rfl ?_
            refine blockQ_exit (hK13 _ ?_); clear hK13
            refine good_seq fun K19 hK19 => ?_
            refine gr rfl ?_
            refine em rfl (by conv=>lhs;whnf) ?_
            refine ea rfl (by conv=>lhs;whnf) ?_
            refine ea rfl (by conv=>lhs;whnf) ?_
            refine ev_nil (hK19 _ ?_); clear hK19
            refine good_ret ?_
            repeat first|refine thenQ_ret ?_|refine blockQ_ret ?_
            refine ret_many rfl ?_
            refine res_tmp (by conv=>lhs;whnf) rfl ?_
            refine res_tmp (by conv=>lhs;whnf) rfl ?_
            refine res_nil ?_
            clear hK18
            obtain ⟨e2, e⟩ := (by first | exact ba_1 (by assumption) | exact ba_2 (by assumption) (by omega) | exact ba_7 (by assumption) (by omega) (by assumption) | exact ba_0 ok (by omega) hfl (hB.trans (by rw [show i = ps.length by omega])) : baC ns ps fl j = _ ∧ baV ns ps fl j = _); exact fTup1 (fI (by omega)) (fTup1 (fI (by omega)) rfl)
          · replace hb17 := dT hb17
            obtain ⟨p, hpp⟩ := getL (xs := ps) (n := (i : Int)) (by omega) (by omega)
            replace hpp : ps[i]? = some p := hpp
            have hpl := (List.getElem?_eq_some_iff.1 hpp).1
            have hpo := (ok.2 _ p hpp).1
            have hp1 := hpo.1.2.1
            have hp2 := hpo.1.2.2.1
            have hp3 := hpo.1.2.2.2.1
            obtain ⟨l, hl⟩ : ∃ l, fl[i]? = some l := ⟨_, List.getElem?_eq_getElem (by have := hfl.1; omega)⟩
            have hlb := hfl.2 _ _ hl
            have hbs := baS_c (j := j.toNat) hpp hl
            have hrg := su_rg (f := baS (ps.map pe) fl j.toNat) (i := i)
            refine ev_nil (hK16 _ ?_); clear hK16
            refine good_seq fun K20 hK20 => ?_
            refine good_condT rfl ?_
            refine good_skip (hK20 _ ?_); clear hK20
            refine good_seq fun K21 hK21 => ?_
            refine good_block ?_
            refine good_seq fun K22 hK22 => ?_
            refine gr rfl ?_
            refine em rfl (by conv=>lhs;whnf) ?_
            refine ev_q rfl (q_idx tE25 rfl rfl (by first | exact Int.natCast_nonneg _ | omega) (by exact map_get hpp) rfl ?_)
            refine ev_q rfl (q_loadA tA73 rfl rfl rfl ?_)
            refine ev_k rfl (k_alloc zA73 rfl ?_)
            refine ea rfl (by conv=>lhs;whnf) ?_
            refine ev_k rfl (k_store sz73 rfl (by conv=>lhs;whnf) rfl rfl rfl (Nat.le_of_ble_eq_true rfl) rfl ?_)
            refine ev_nil (hK22 _ ?_); clear hK22
            refine good_seq fun K23 hK23 => ?_
            refine gr rfl ?_
            refine em rfl (by conv=>lhs;whnf) ?_
            refine ev_nil (hK23 _ ?_); clear hK23
            refine good_block ?_
            refine good_seq fun K24 hK24 => ?_
            refine gr rfl ?_
            refine ev_q rfl (q_fieldAddrP fO73_2 rfl rfl ?_)
            refine ev_q rfl (q_load tA2 rfl ?_)
            refine ei rfl rfl rfl ?_
            intro b25 hb25; cases b25
            · replace hb25 := eqF hb25
              refine ea rfl (by conv=>lhs;whnf) ?_
              refine ev_nil (hK24 _ ?_); clear hK24
              refine good_condF rfl ?_
              refine good_seq fun K26 hK26 => ?_
              refine gr rfl ?_
              refine ev_q rfl (q_fieldAddrP fO73_1 rfl rfl ?_)
              refine ev_q rfl (q_load tA2 rfl ?_)
              refine ei rfl rfl rfl ?_
              intro b27 hb27; cases b27
              · replace hb27 := eqF hb27
                refine ea rfl (by conv=>lhs;whnf) ?_
                refine ev_nil (hK26 _ ?_); clear hK26
                refine good_condF rfl ?_
                refine good_skip (hK21 _ ?_); clear hK21
                refine gr rfl ?_
                refine ei rfl rfl rfl ?_
                intro n28 hn28
                replace hn28 := in64 hn28 (by omega) (by omega)
                refine em rfl (by conv=>lhs;whnf) ?_
                refine ev_nil ?_
                clear hK13
                refine ⟨(i + 1, b), ?_, ?_, ?_⟩
                · refine ⟨by omega, ?_, by omega⟩
                  rw [hrg, hbs, ← hB]
                  show _ = b + _
                  rw [if_neg (by omega), if_neg (by omega)]; omega
                · show ps.length - (i + 1) < ps.length - i; omega
                · refine sub_weak ?_ ?_
                  · exact weakH_none _
                  · refine weakE_upd ?e28 ?r28 (weakE_upd ?e27 ?r27 (weakE_upd ?e26 ?r26 (weakE_upd ?e8 ?r8 (weakE_upd ?e2 ?r2 (weakE_upd ?e1 ?r1 (weakE_junk _ _))))))
                    case e1 => first | rfl | exact fI (by omega) | (simp_all)
                    case r1 => intro h hh; cases hh
                    case e2 => first | rfl | exact fI (by omega) | (simp_all)
                    case r2 => intro h hh; cases hh
                    case e8 => first | rfl | exact fI (by omega) | (simp_all)
                    case r8 => intro h hh; cases hh
                    case e26 => first | rfl | exact fI (by omega) | (simp_all)
                    case r26 => intro h hh; cases hh
                    case e27 => first | rfl | exact fI (by omega) | (simp_all)
                    case r27 => intro h hh; cases hh
                    case e28 => first | rfl | exact fI (by omega) | (simp_all)
                    case r28 => intro h hh; cases hh
              · replace hb27 := eqT hb27
                refine ea rfl (by conv=>lhs;whnf) ?_
                refine ev_nil (hK26 _ ?_); clear hK26
                refine good_condT rfl ?_
                refine gr rfl ?_
                refine em rfl (by conv=>lhs;whnf) ?_
                refine em rfl (by conv=>lhs;whnf) ?_
                refine em rfl (by conv=>lhs;whnf) ?_
                refine ev_q rfl (q_idx tE24 rfl rfl (by first | exact Int.natCast_nonneg _ | omega) (by exact map_get hl) rfl ?_)
                refine ev_q rfl (q_load tA2 rfl ?_)
                refine ei rfl rfl rfl ?_
                intro n29 hn29
                replace hn29 := in64 hn29 (by omega) (by omega)
                refine ea rfl (by conv=>lhs;whnf) ?_
                refine ev_nil (hK21 _ ?_); clear hK21
                refine gr rfl ?_
                refine ei rfl rfl rfl ?_
                intro n30 hn30
                replace hn30 := in64 hn30 (by omega) (by omega)
                refine em rfl (by conv=>lhs;whnf) ?_
                refine ev_nil ?_
                clear hK13
                refine ⟨(i + 1, n29), ?_, ?_, ?_⟩
                · refine ⟨by omega, ?_, by omega⟩
                  rw [hrg, hbs, ← hB]
                  show _ = b + _
                  rw [if_neg (by omega), if_pos (by omega)]; omega
                · show ps.length - (i + 1) < ps.length - i; omega
                · refine sub_weak ?_ ?_
                  · exact weakH_none _
                  · refine weakE_upd ?e28 ?r28 (weakE_upd ?e27 ?r27 (weakE_upd ?e26 ?r26 (weakE_upd ?e8 ?r8 (weakE_upd ?e2 ?r2 (weakE_upd ?e1 ?r1 (weakE_junk _ _))))))
                    case e1 => first | rfl | exact fI (by omega) | (simp_all)
                    case r1 => intro h hh; cases hh
                    case e2 => first | rfl | exact fI (by omega) | (simp_all)
                    case r2 => intro h hh; cases hh
                    case e8 => first | rfl | exact fI (by omega) | (simp_all)
                    case r8 => intro h hh; cases hh
                    case e26 => first | rfl | exact fI (by omega) | (simp_all)
                    case r26 => intro h hh; cases hh
                    case e27 => first | rfl | exact fI (by omega) | (simp_all)
                    case r27 => intro h hh; cases hh
                    case e28 => first | rfl | exact fI (by omega) | (simp_all)
                    case r28 => intro h hh; cases hh
            · replace hb25 := eqT hb25
              refine ea rfl (by conv=>lhs;whnf) ?_
              refine ev_nil (hK24 _ ?_); clear hK24
              refine good_condT rfl ?_
              refine gr rfl ?_
              refine em rfl (by conv=>lhs;whnf) ?_
              refine em rfl (by conv=>lhs;whnf) ?_
              refine em rfl (by conv=>lhs;whnf) ?_
              refine ev_q rfl (q_idx tE24 rfl rfl (by first | exact Int.natCast_nonneg _ | omega) (by exact map_get hl) rfl ?_)
              refine ev_q rfl (q_load tA2 rfl ?_)
              refine ei rfl rfl rfl ?_
              intro n31 hn31
              replace hn31 := in64 hn31 (by omega) (by omega)
              refine ea rfl (by conv=>lhs;whnf) ?_
              refine ev_nil (hK21 _ ?_); clear hK21
              refine gr rfl ?_
              refine ei rfl rfl rfl ?_
              intro n32 hn32
              replace hn32 := in64 hn32 (by omega) (by omega)
              refine em rfl (by conv=>lhs;whnf) ?_
              refine ev_nil ?_
              clear hK13
              refine ⟨(i + 1, n31), ?_, ?_, ?_⟩
              · refine ⟨by omega, ?_, by omega⟩
                rw [hrg, hbs, ← hB]
                show _ = b + _
                rw [if_pos (by omega), if_neg (by omega)]; omega
              · show ps.length - (i + 1) < ps.length - i; omega
              · refine sub_weak ?_ ?_
                · exact weakH_none _
                · refine weakE_upd ?e28 ?r28 (weakE_upd ?e27 ?r27 (weakE_upd ?e26 ?r26 (weakE_upd ?e8 ?r8 (weakE_upd ?e2 ?r2 (weakE_upd ?e1 ?r1 (weakE_junk _ _))))))
                  case e1 => first | rfl | exact fI (by omega) | (simp_all)
                  case r1 => intro h hh; cases hh
                  case e2 => first | rfl | exact fI (by omega) | (simp_all)
                  case r2 => intro h hh; cases hh
                  case e8 => first | rfl | exact fI (by omega) | (simp_all)
                  case r8 => intro h hh; cases hh
                  case e26 => first | rfl | exact fI (by omega) | (simp_all)
                  case r26 => intro h hh; cases hh
                  case e27 => first | rfl | exact fI (by omega) | (simp_all)
                  case r27 => intro h hh; cases hh
                  case e28 => first | rfl | exact fI (by omega) | (simp_all)
                  case r28 => intro h hh; cases hh

-- laws.r8Long
theorem D_laws_r8Long (cs ds : List Int)  : Den Try.prog 6 [.lst 1 (cs.map cb), .lst 1 (ds.map cb)] (.s (.bool (decide ((cs.length : Int) > 1048576 ∨ (ds.length : Int) > 1048576)))) := by
  refine den_of_good Try.func6 (by decide) rfl (Nat.le_of_ble_eq_true rfl) (Nat.le_of_ble_eq_true rfl) ?_
  refine good_seq fun K1 hK1 => ?_
  refine gr rfl ?_
  refine ea rfl (by conv=>lhs;whnf) ?_
  refine ev_nil (hK1 _ ?_); clear hK1
  refine good_seq fun K2 hK2 => ?_
  refine gr rfl ?_
  refine em rfl (by conv=>lhs;whnf) ?_
  refine ev_q rfl (q_len tEs22 rfl ?_)
  intro n3 hn3
  try simp only [List.length_map] at hn3
  refine ei rfl rfl rfl ?_
  intro b4 hb4; cases b4
  · replace hb4 := dF hb4
    refine em rfl (by conv=>lhs;whnf) ?_
    refine em rfl (by conv=>lhs;whnf) ?_
    refine ev_q rfl (q_len tEs22 rfl ?_)
    intro n5 hn5
    try simp only [List.length_map] at hn5
    refine ei rfl rfl rfl ?_
    intro b6 hb6; cases b6
    · replace hb6 := dF hb6
      refine ev_q rfl (q_pickF rfl (by conv=>lhs;whnf) ?_)
      refine ea rfl (by conv=>lhs;whnf) ?_
      refine ev_nil (hK2 _ ?_); clear hK2
      refine good_ret ?_
      repeat first|refine thenQ_ret ?_|refine blockQ_ret ?_
      refine ret_tmp (st := _) rfl (by conv=>lhs;whnf) rfl ?_
      first | exact fT (by omega) | exact fF (by omega)
    · replace hb6 := dT hb6
      refine ev_q rfl (q_pickF rfl (by conv=>lhs;whnf) ?_)
      refine ea rfl (by conv=>lhs;whnf) ?_
      refine ev_nil (hK2 _ ?_); clear hK2
      refine good_ret ?_
      repeat first|refine thenQ_ret ?_|refine blockQ_ret ?_
      refine ret_tmp (st := _) rfl (by conv=>lhs;whnf) rfl ?_
      first | exact fT (by omega) | exact fF (by omega)
  · replace hb4 := dT hb4
    refine em rfl (by conv=>lhs;whnf) ?_
    refine ev_skip rfl ?_
    refine ev_skip rfl ?_
    refine ev_skip rfl ?_
    refine ev_q rfl (q_pickT rfl (by conv=>lhs;whnf) ?_)
    refine ea rfl (by conv=>lhs;whnf) ?_
    refine ev_nil (hK2 _ ?_); clear hK2
    refine good_ret ?_
    repeat first|refine thenQ_ret ?_|refine blockQ_ret ?_
    refine ret_tmp (st := _) rfl (by conv=>lhs;whnf) rfl ?_
    first | exact fT (by omega) | exact fF (by omega)

-- laws.r8At
theorem D_laws_r8At (cs : List Int) (k n : Int) (hc : cs.length ≤ 17592186044416) (hb : byteL cs) (hk : 0 ≤ k ∧ k ≤ 1000) (hn : 0 ≤ n ∧ n ≤ 1000000) : Den Try.prog 8 [.lst 1 (cs.map cb), .s (.int .i64 k), .s (.int .i64 n)] (.s (.int .i64 (r8a cs k n))) := by
  refine den_of_good Try.func8 (by decide) rfl (Nat.le_of_ble_eq_true rfl) (Nat.le_of_ble_eq_true rfl) ?_
  refine good_seq fun K1 hK1 => ?_
  refine gr rfl ?_
  refine ea rfl (by conv=>lhs;whnf) ?_
  refine ev_nil (hK1 _ ?_); clear hK1
  refine good_seq fun K2 hK2 => ?_
  refine good_seq fun K3 hK3 => ?_
  refine gr rfl ?_
  refine em rfl (by conv=>lhs;whnf) ?_
  refine ei rfl rfl rfl ?_
  intro b4 hb4; cases b4
  · replace hb4 := dF hb4
    refine em rfl (by conv=>lhs;whnf) ?_
    refine em rfl (by conv=>lhs;whnf) ?_
    refine em rfl (by conv=>lhs;whnf) ?_
    refine ev_q rfl (q_len tEs22 rfl ?_)
    intro n5 hn5
    try simp only [List.length_map] at hn5
    refine ei rfl rfl rfl ?_
    intro b6 hb6; cases b6
    · replace hb6 := dF hb6
      obtain ⟨q, hq⟩ := getL (xs := cs) (n := k) (by omega) (by omega)
      have hqb := hb _ (List.mem_of_getElem? hq)
      have e8 : r8a cs k n = q % n := by unfold r8a; rw [if_neg (by omega), List.getD, hq]; rfl
      refine ev_q rfl (q_pickF rfl (by conv=>lhs;whnf) ?_)
      refine ev_nil (hK3 _ ?_); clear hK3
      refine good_condF rfl ?_
      refine good_skip (hK2 _ ?_); clear hK2
      refine good_seq fun K7 hK7 => ?_
      refine gr rfl ?_
      refine em rfl (by conv=>lhs;whnf) ?_
      refine em rfl (by conv=>lhs;whnf) ?_
      refine ev_q rfl (q_idx tE22 rfl rfl (by omega) (by exact map_get hq) rfl ?_)
      refine ev_q rfl (q_load tA5 rfl ?_)
      refine ev_q rfl (q_conv tK5 tK2 rfl ?_)
      intro n8 hn8
      replace hn8 := in64 hn8 (by omega) (by omega)
      refine em rfl (by conv=>lhs;whnf) ?_
      refine ei rfl rfl rfl ⟨by omega, ?_⟩
      intro n9 hn9
      replace hn9 := remE hn9 (by omega)
      rw [hn8] at hn9
      refine ea rfl (by conv=>lhs;whnf) ?_
      refine ev_nil (hK7 _ ?_); clear hK7
      refine good_ret ?_
      repeat first|refine thenQ_ret ?_|refine blockQ_ret ?_
      refine ret_tmp (st := _) rfl (by conv=>lhs;whnf) rfl ?_
      first | exact fI e8.symm | exact fI (by rw [e8]; assumption) | exact fI (by rw [e8]; omega) | (exfalso; omega)
    · replace hb6 := dT hb6
      have e8 : r8a cs k n = 0 := if_pos (.inr (by omega))
      refine ev_q rfl (q_pickF rfl (by conv=>lhs;whnf) ?_)
      refine ev_nil (hK3 _ ?_); clear hK3
      refine good_condT rfl ?_
      refine good_seq fun K10 hK10 => ?_
      refine gr rfl ?_
      refine ea rfl (by conv=>lhs;whnf) ?_
      refine ev_nil (hK10 _ ?_); clear hK10
      refine good_ret ?_
      repeat first|refine thenQ_ret ?_|refine blockQ_ret ?_
      refine ret_tmp (st := _) rfl (by conv=>lhs;whnf) rfl ?_
      clear hK2
      first | exact fI e8.symm | exact fI (by rw [e8]; assumption) | exact fI (by rw [e8]; omega) | (exfalso; omega)
  · replace hb4 := dT hb4
    have e8 : r8a cs k n = 0 := if_pos (.inl (by omega))
    refine em rfl (by conv=>lhs;whnf) ?_
    refine ev_skip rfl ?_
    refine ev_skip rfl ?_
    refine ev_skip rfl ?_
    refine ev_skip rfl ?_
    refine ev_q rfl (q_pickT rfl (by conv=>lhs;whnf) ?_)
    refine ev_nil (hK3 _ ?_); clear hK3
    refine good_condT rfl ?_
    refine good_seq fun K11 hK11 => ?_
    refine gr rfl ?_
    refine ea rfl (by conv=>lhs;whnf) ?_
    refine ev_nil (hK11 _ ?_); clear hK11
    refine good_ret ?_
    repeat first|refine thenQ_ret ?_|refine blockQ_ret ?_
    refine ret_tmp (st := _) rfl (by conv=>lhs;whnf) rfl ?_
    clear hK2
    first | exact fI e8.symm | exact fI (by rw [e8]; assumption) | exact fI (by rw [e8]; omega) | (exfalso; omega)

end Go.Proofs.Ytdnndlalflahhaa.DFnHydraulics
