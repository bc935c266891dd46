/- Walks through the functions that FnSubstations reaches: what each answers. -/
import Derived.Test.YthhajcpgbcpbmaaDFnSubstationsb
set_option linter.unusedVariables false
set_option linter.unusedSimpArgs false
namespace Go.Proofs.Ythhajcpgbcpbmaa.DFnSubstations
open Go Go.RowKit Go.Proofs Go.Proofs.Ythhajcpgbcpbmaa Go.Proofs.Ythhajcpgbcpbmaa.Ev
-- (*spec.l00Src).one
set_option maxRecDepth 20000 in
set_option maxHeartbeats 2000000 in
theorem D_spec_l00Src_one (cs : List Int) (a s : Int) (n : Int) (hc : cs.length ≤ 17592186044416) (hb : byteL cs) (ha : 0 ≤ a ∧ a ≤ 3999999999999999998) (hn : -1000000000000 ≤ n ∧ n ≤ 1000000000000) : DenXR Try.prog 94 [(1000000, .box 81 (src cs a s))] [.ptr 1000000 0, .s (.int .i64 n)] (τ := Bool × Int × Int) (fun (v, a1, s1) => a ≤ a1 ∧ a1 ≤ a + 2) (fun (v, a1, s1) => [(1000000, .box 81 (src cs a1 s1))]) (fun (v, a1, s1) => .s (.bool v)) := by
  refine denXR_of_good Try.func94 (by decide) rfl (Nat.le_of_ble_eq_true rfl) (Nat.le_of_ble_eq_true rfl) rfl ?_
  refine good_seq fun K1 hK1 => ?_
  refine good_region rfl ?_
  refine ev_q rfl (q_assign (by conv => lhs; whnf) ?_)
  refine ev_nil (hK1 _ ?_); clear hK1
  refine good_seq fun K2 hK2 => ?_
  refine good_region rfl ?_
  refine ev_q rfl (q_move (by conv => lhs; whnf) ?_)
  refine ev_q rfl (q_move (by conv => lhs; whnf) ?_)
  refine ev_k rfl (k_callR [(1000000, 1000000)] (D_spec_l00Src_pick cs _ _ _ hc hb (by omega) (by omega)) rfl (rfl) (rfl) ⟨rfl, trivial⟩ rfl (by rintro ⟨v3, a3, s3⟩ ⟨hx3_0, hx3_1⟩; exact ⟨⟨rfl, rfl, trivial⟩, rfl⟩) rfl rfl ?_)
  rintro ⟨v3, a3, s3⟩ ⟨hx3_0, hx3_1⟩
  refine ev_q rfl (q_int rfl rfl ?_)
  intro b4 hb4; cases b4
  · replace hb4 := eqF hb4
    refine ev_q rfl (q_assign (by conv => lhs; whnf) ?_)
    refine ev_nil (hK2 _ ?_); clear hK2
    refine good_ret ?_
    repeat (first | refine thenQ_ret ?_ | refine blockQ_ret ?_)
    apply ex_3
    case hF =>
      refine fx_tmp rfl (by conv => lhs; whnf) ?_
      exact ⟨_, conv_eq (by first | rfl | exact fT (by first | omega | grind) | exact fF (by first | omega | grind) | exact fT' (by first | omega | grind) | (exfalso; first | omega | grind)), weakH_box (boxEq (by first | rfl | (rw [e]; done) | (rw [e]; rfl) | (simp_all; done))) rfl (weakH_none _), refsIn_ok rfl⟩
    case hR =>
      exact ⟨by omega, by omega⟩
  · replace hb4 := eqT hb4
    refine ev_q rfl (q_assign (by conv => lhs; whnf) ?_)
    refine ev_nil (hK2 _ ?_); clear hK2
    refine good_ret ?_
    repeat (first | refine thenQ_ret ?_ | refine blockQ_ret ?_)
    apply ex_3
    case hF =>
      refine fx_tmp rfl (by conv => lhs; whnf) ?_
      exact ⟨_, conv_eq (by first | rfl | exact fT (by first | omega | grind) | exact fF (by first | omega | grind) | exact fT' (by first | omega | grind) | (exfalso; first | omega | grind)), weakH_box (boxEq (by first | rfl | (rw [e]; done) | (rw [e]; rfl) | (simp_all; done))) rfl (weakH_none _), refsIn_ok rfl⟩
    case hR =>
      exact ⟨by omega, by omega⟩

-- (*spec.l00Src).among
set_option maxRecDepth 20000 in
set_option maxHeartbeats 2000000 in
theorem D_spec_l00Src_among (cs : List Int) (a s : Int) (xs : List Int) (hc : cs.length ≤ 17592186044416) (hb : byteL cs) (ha : 0 ≤ a ∧ a ≤ 3999999999999999998) (hx : 1 ≤ xs.length ∧ xs.length ≤ 1000000) : DenXR Try.prog 93 [(1000000, .box 81 (src cs a s)), (1000001, .row 2 1 (xs.map ci))] [.ptr 1000000 0, .own 1000001 xs.length] (τ := Int × Int × Int) (fun (v, a1, s1) => (v ∈ xs) ∧ (a ≤ a1 ∧ a1 ≤ a + 2)) (fun (v, a1, s1) => [(1000000, .box 81 (src cs a1 s1)), (1000001, .row 2 1 (xs.map ci))]) (fun (v, a1, s1) => .s (.int .i64 v)) := by
  refine denXR_of_good Try.func93 (by decide) rfl (Nat.le_of_ble_eq_true rfl) (Nat.le_of_ble_eq_true rfl) rfl ?_
  refine good_seq fun K1 hK1 => ?_
  refine good_region rfl ?_
  refine ev_q rfl (q_assign (by conv => lhs; whnf) ?_)
  refine ev_nil (hK1 _ ?_); clear hK1
  refine good_seq fun K2 hK2 => ?_
  refine good_region rfl ?_
  refine ev_q rfl (q_move (by conv => lhs; whnf) ?_)
  refine ev_q rfl (q_move (by conv => lhs; whnf) ?_)
  refine ev_q rfl (q_move (by conv => lhs; whnf) ?_)
  refine ev_q rfl (q_len tEs37 rfl ?_)
  intro n3 hn3
  try simp only [List.length_map] at hn3
  refine ev_k rfl (k_callR [(1000000, 1000000)] (D_spec_l00Src_pick cs _ _ _ hc hb (by omega) (by omega)) rfl (rfl) (rfl) ⟨rfl, trivial⟩ rfl (by rintro ⟨v4, a4, s4⟩ ⟨hx4_0, hx4_1⟩; exact ⟨⟨rfl, rfl, trivial⟩, rfl⟩) rfl rfl ?_)
  rintro ⟨v4, a4, s4⟩ ⟨hx4_0, hx4_1⟩
  obtain ⟨p, hp⟩ := getL (xs := xs) (n := v4) (by omega) (by omega)
  refine ev_q rfl (q_idxO tE37 rfl rfl rfl (by omega) (by omega) rfl ?_)
  refine ev_q rfl (q_loadE tA2 rfl rfl (by exact map_get hp) rfl ?_)
  refine ev_q rfl (q_assign (by conv => lhs; whnf) ?_)
  refine ev_nil (hK2 _ ?_); clear hK2
  refine good_ret ?_
  repeat (first | refine thenQ_ret ?_ | refine blockQ_ret ?_)
  apply ex_3
  case hF =>
    refine fx_tmp rfl (by conv => lhs; whnf) ?_
    exact ⟨_, conv_eq (by first | rfl | exact fI (by first | omega | grind) | (exfalso; first | omega | grind)), weakH_box (boxEq (by first | rfl | (rw [e]; done) | (rw [e]; rfl) | (simp_all; done))) rfl (weakH_row (rowEq (by first | rfl | (rw [e]; done) | (rw [e]; rfl) | (simp_all; done))) (weakH_none _)), refsIn_ok rfl⟩
  case hR =>
    exact ⟨List.mem_of_getElem? hp, by omega, by omega⟩

-- spec.l00From
set_option maxRecDepth 20000 in
set_option maxHeartbeats 2000000 in
theorem D_spec_l00From (cs : List Int)  : DenX Try.prog 73 [] [.lst 1 (cs.map cb)] [(5, .box 81 (src cs 0 0))] (.ptr 5 0) := by
  refine denX_of_good Try.func73 (by decide) rfl (Nat.le_of_ble_eq_true rfl) (Nat.le_of_ble_eq_true rfl) rfl ?_
  refine good_seq fun K1 hK1 => ?_
  refine good_region rfl ?_
  refine ev_q rfl (q_assign (by conv => lhs; whnf) ?_)
  refine ev_nil (hK1 _ ?_); clear hK1
  refine good_seq fun K2 hK2 => ?_
  refine good_region rfl ?_
  refine ev_q rfl (q_move (by conv => lhs; whnf) ?_)
  refine ev_k rfl (k_build zA81 pl81 (rfl) ?_)
  refine ev_k rfl (k_box (by conv => lhs; whnf) rfl rfl rfl ?_)
  refine ev_q rfl (q_assign (by conv => lhs; whnf) ?_)
  refine ev_nil (hK2 _ ?_); clear hK2
  refine good_ret ?_
  repeat (first | refine thenQ_ret ?_ | refine blockQ_ret ?_)
  refine fx_tmp rfl (by conv => lhs; whnf) ?_
  exact ⟨_, conv_eq (by first | rfl | (rw [e]; done) | (rw [e]; rfl) | exact ownEq (by first | omega | simp_all)), weakH_box (boxEq (by first | rfl | (rw [e]; done) | (rw [e]; rfl) | (simp_all; done))) rfl (weakH_none _), refsIn_ok rfl⟩

-- spec.l12DrawOne
set_option maxRecDepth 20000 in
set_option maxHeartbeats 4000000 in
theorem D_spec_l12DrawOne (cs : List Int) (a s : Int) (nm : ByteArray) (hc : cs.length ≤ 17592186044416) (hb : byteL cs) (ha : 0 ≤ a ∧ a ≤ 3999999999999999992)  : DenXR Try.prog 75 [(1000000, .box 81 (src cs a s))] [.ptr 1000000 0, .s (.string nm)] (τ := Sb × Int × Int) (fun (v, a1, s1) => (v.id = nm ∧ -1000000000 ≤ v.re ∧ v.re ≤ 1000000000) ∧ (a ≤ a1 ∧ a1 ≤ a + 8)) (fun (v, a1, s1) => [(1000000, .box 81 (src cs a1 s1))]) (fun (v, a1, s1) => .agg [.s (.string v.id), .s (.int .i64 (v.nd)), .s (.int .i64 (v.tr)), .s (.int .i64 (v.su)), .s (.int .i64 (v.re))]) := by
  refine denXR_of_good Try.func75 (by decide) rfl (Nat.le_of_ble_eq_true rfl) (Nat.le_of_ble_eq_true rfl) rfl ?_
  refine good_seq fun K1 hK1 => ?_
  refine good_region rfl ?_
  refine ev_k rfl (k_alloc zA27 rfl ?_)
  refine ev_nil (hK1 _ ?_); clear hK1
  refine good_seq fun K2 hK2 => ?_
  refine good_region rfl ?_
  refine ev_q rfl (q_move (by conv => lhs; whnf) ?_)
  refine ev_q rfl (q_move (by conv => lhs; whnf) ?_)
  refine ev_k rfl (k_callR [(1000000, 1000000)] (D_spec_l00Src_pick cs _ _ _ hc hb (by omega) (by omega)) rfl (rfl) (rfl) ⟨rfl, trivial⟩ rfl (by rintro ⟨v3, a3, s3⟩ ⟨hx3_0, hx3_1⟩; exact ⟨⟨rfl, rfl, trivial⟩, rfl⟩) rfl rfl ?_)
  rintro ⟨v3, a3, s3⟩ ⟨hx3_0, hx3_1⟩
  refine ev_q rfl (q_move (by conv => lhs; whnf) ?_)
  refine ev_k rfl (k_callR [(1000000, 1000000)] (D_spec_l00Src_pick cs _ _ _ hc hb (by omega) (by omega)) rfl (rfl) (rfl) ⟨rfl, trivial⟩ rfl (by rintro ⟨v4, a4, s4⟩ ⟨hx4_0, hx4_1⟩; exact ⟨⟨rfl, rfl, trivial⟩, rfl⟩) rfl rfl ?_)
  rintro ⟨v4, a4, s4⟩ ⟨hx4_0, hx4_1⟩
  refine ev_q rfl (q_int rfl rfl ?_)
  intro n5 hn5
  replace hn5 := in64 hn5 (by omega) (by omega)
  refine ev_q rfl (q_int rfl rfl ?_)
  intro n6 hn6
  replace hn6 := in64 hn6 (by omega) (by omega)
  refine ev_k rfl (k_build zA27 pl27 (rfl) ?_)
  refine ev_k rfl (k_alloc zA27 rfl ?_)
  refine ev_k rfl (k_store sz27 rfl (by conv => lhs; whnf) rfl rfl rfl (Nat.le_of_ble_eq_true rfl) rfl ?_)
  refine ev_nil (hK2 _ ?_); clear hK2
  refine good_seq fun K7 hK7 => ?_
  refine good_region rfl ?_
  refine ev_q rfl (q_move (by conv => lhs; whnf) ?_)
  refine ev_k rfl (k_callR [(1000000, 1000000)] (D_spec_l00Src_pick cs _ _ _ hc hb (by omega) (by omega)) rfl (rfl) (rfl) ⟨rfl, trivial⟩ rfl (by rintro ⟨v8, a8, s8⟩ ⟨hx8_0, hx8_1⟩; exact ⟨⟨rfl, rfl, trivial⟩, rfl⟩) rfl rfl ?_)
  rintro ⟨v8, a8, s8⟩ ⟨hx8_0, hx8_1⟩
  refine ev_q rfl (q_int rfl rfl ?_)
  intro n9 hn9
  replace hn9 := in64 hn9 (by omega) (by omega)
  refine ev_q rfl (q_int rfl rfl ?_)
  intro n10 hn10
  replace hn10 := in64 hn10 (by omega) (by omega)
  refine ev_q rfl (q_fieldAddrP fO27_3 rfl rfl ?_)
  refine ev_k rfl (k_store sz2 rfl (by conv => lhs; whnf) rfl rfl rfl (Nat.le_of_ble_eq_true rfl) rfl ?_)
  refine ev_nil (hK7 _ ?_); clear hK7
  refine good_seq fun K11 hK11 => ?_
  refine good_weak (st' := { env := upd (upd (upd ((fun _ => .junk)) 0 (.ptr 1000000 0)) 4 (.ptr 4 0)) 5 (.ptr 5 0), H := upd (upd (upd ((fun _ => none)) 5 (some (.box 27 [.s (.string nm), .s (.int .i64 (v3)), .s (.int .i64 (n6)), .s (.int .i64 (n10)), .s (.int .i64 0)]))) 4 (some (.box 27 [.s (.string ⟨#[]⟩), .s (.int .i64 0), .s (.int .i64 0), .s (.int .i64 0), .s (.int .i64 0)]))) 1000000 (some (.box 81 (src cs a8 s8))) }) ?_ ?_
  · refine sub_weak ?_ ?_
    · exact weakH_box (boxEq (rfl)) rfl (weakH_box (boxEq (rfl)) rfl (weakH_box (boxEq (rfl)) rfl (weakH_none _)))
    · refine weakE_upd ?e5 ?r5 (weakE_upd ?e4 ?r4 (weakE_upd ?e0 ?r0 (weakE_junk _ _)))
      case e0 => first | rfl | exact fI (by omega) | (rfl)
      case r0 => intro h hh; simp [refs] at hh; subst hh; rfl
      case e4 => first | rfl | exact fI (by omega) | (rfl)
      case r4 => intro h hh; simp [refs] at hh; subst hh; rfl
      case e5 => first | rfl | exact fI (by omega) | (rfl)
      case r5 => intro h hh; simp [refs] at hh; subst hh; rfl
  refine good_orders 9 (listed := #[false, false, false, false, false, false, false, false, false]) rfl rfl hmix rfl ?_
  refine an_step [0, 3] (by kernel_rfl) rfl ?_
  refine ⟨?_, ?_, trivial⟩
  · refine an_q (listed' := #[true, false, false, false, false, false, false, false, false]) rfl rfl rfl (q_fieldAddrP fO27_3 rfl rfl ?_)
    refine an_step [1, 3] (by kernel_rfl) rfl ?_
    refine ⟨?_, ?_, trivial⟩
    · refine an_q (listed' := #[true, true, false, false, false, false, false, false, false]) rfl rfl rfl (q_load tA2 rfl ?_)
      refine an_step [2, 3] (by kernel_rfl) rfl ?_
      refine ⟨?_, ?_, trivial⟩
      · refine an_q (listed' := #[true, true, true, false, false, false, false, false, false]) rfl rfl rfl (q_int rfl rfl ?_)
        intro n12 hn12
        replace hn12 := in64 hn12 (by omega) (by omega)
        refine an_step [3] (by kernel_rfl) rfl ?_
        refine ⟨?_, trivial⟩
        · refine an_q (listed' := #[true, true, true, true, false, false, false, false, false]) rfl rfl rfl (q_move (by conv => lhs; whnf) ?_)
          refine an_step [4] (by kernel_rfl) rfl ?_
          refine ⟨?_, trivial⟩
          · refine an_k (listed' := #[true, true, true, true, true, false, false, false, false]) rfl rfl rfl (k_callR [(1000000, 1000000)] (D_spec_l00Src_pick cs _ _ _ hc hb (by omega) (by omega)) rfl (rfl) (rfl) ⟨rfl, trivial⟩ rfl (by rintro ⟨v13, a13, s13⟩ ⟨hx13_0, hx13_1⟩; exact ⟨⟨rfl, rfl, trivial⟩, rfl⟩) rfl rfl ?_)
            rintro ⟨v13, a13, s13⟩ ⟨hx13_0, hx13_1⟩
            refine an_step [5] (by kernel_rfl) rfl ?_
            refine ⟨?_, trivial⟩
            · refine an_q (listed' := #[true, true, true, true, true, true, false, false, false]) rfl rfl rfl (q_int rfl rfl ?_)
              intro n14 hn14
              replace hn14 := in64 hn14 (by omega) (by omega)
              refine an_step [6] (by kernel_rfl) rfl ?_
              refine ⟨?_, trivial⟩
              · refine an_q (listed' := #[true, true, true, true, true, true, true, false, false]) rfl rfl rfl (q_int rfl rfl ?_)
                intro n15 hn15
                replace hn15 := in64 hn15 (by omega) (by omega)
                refine an_step [7] (by kernel_rfl) rfl ?_
                refine ⟨?_, trivial⟩
                · refine an_q (listed' := #[true, true, true, true, true, true, true, true, false]) rfl rfl rfl (q_fieldAddrP fO27_4 rfl rfl ?_)
                  refine an_step [8] (by kernel_rfl) rfl ?_
                  refine ⟨?_, trivial⟩
                  · refine an_k (listed' := #[true, true, true, true, true, true, true, true, true]) rfl rfl rfl (k_store sz2 rfl (by conv => lhs; whnf) rfl rfl rfl (Nat.le_of_ble_eq_true rfl) rfl ?_)
                    refine an_end (by kernel_rfl) (hK11 _ ?_); clear hK11
                    refine good_seq fun K16 hK16 => ?_
                    refine good_region rfl ?_
                    refine ev_q rfl (q_loadA tA27 rfl rfl rfl ?_)
                    refine ev_k rfl (k_store sz27 rfl (by conv => lhs; whnf) rfl rfl rfl (Nat.le_of_ble_eq_true rfl) rfl ?_)
                    refine ev_nil (hK16 _ ?_); clear hK16
                    refine good_ret ?_
                    repeat (first | refine thenQ_ret ?_ | refine blockQ_ret ?_)
                    refine ex_3 (v := ⟨nm, v3, n6, n10, n15⟩) (a := a13) (b := s13) ?hF ?hR
                    case hF =>
                      refine fx_cell rfl tA27 rfl rfl rfl ?_
                      exact ⟨_, conv_eq (by first | rfl | exact fAgg1 (by first | rfl | simp_all) (fAgg1 (by first | rfl | exact fI (by first | omega | grind) | (exfalso; first | omega | grind)) (fAgg1 (by first | rfl | exact fI (by first | omega | grind) | (exfalso; first | omega | grind)) (fAgg1 (by first | rfl | exact fI (by first | omega | grind) | (exfalso; first | omega | grind)) (fAgg1 (by first | rfl | exact fI (by first | omega | grind) | (exfalso; first | omega | grind)) (rfl)))))), weakH_box (boxEq (by first | rfl | (rw [e]; done) | (rw [e]; rfl) | (simp_all; done))) rfl (weakH_none _), refsIn_ok rfl⟩
                    case hR =>
                      exact ⟨⟨rfl, by dsimp only; omega, by dsimp only; omega⟩, by omega⟩
      · refine an_q (listed' := #[true, true, false, true, false, false, false, false, false]) rfl rfl rfl (q_move (by conv => lhs; whnf) ?_)
        refine an_step [2, 4] (by kernel_rfl) rfl ?_
        refine ⟨?_, ?_, trivial⟩
        · refine an_q (listed' := #[true, true, true, true, false, false, false, false, false]) rfl rfl rfl (q_int rfl rfl ?_)
          intro n17 hn17
          replace hn17 := in64 hn17 (by omega) (by omega)
          refine an_step [4] (by kernel_rfl) rfl ?_
          refine ⟨?_, trivial⟩
          · refine an_k (listed' := #[true, true, true, true, true, false, false, false, false]) rfl rfl rfl (k_callR [(1000000, 1000000)] (D_spec_l00Src_pick cs _ _ _ hc hb (by omega) (by omega)) rfl (rfl) (rfl) ⟨rfl, trivial⟩ rfl (by rintro ⟨v18, a18, s18⟩ ⟨hx18_0, hx18_1⟩; exact ⟨⟨rfl, rfl, trivial⟩, rfl⟩) rfl rfl ?_)
            rintro ⟨v18, a18, s18⟩ ⟨hx18_0, hx18_1⟩
            refine an_step [5] (by kernel_rfl) rfl ?_
            refine ⟨?_, trivial⟩
            · refine an_q (listed' := #[true, true, true, true, true, true, false, false, false]) rfl rfl rfl (q_int rfl rfl ?_)
              intro n19 hn19
              replace hn19 := in64 hn19 (by omega) (by omega)
              refine an_step [6] (by kernel_rfl) rfl ?_
              refine ⟨?_, trivial⟩
              · refine an_q (listed' := #[true, true, true, true, true, true, true, false, false]) rfl rfl rfl (q_int rfl rfl ?_)
                intro n20 hn20
                replace hn20 := in64 hn20 (by omega) (by omega)
                refine an_step [7] (by kernel_rfl) rfl ?_
                refine ⟨?_, trivial⟩
                · refine an_q (listed' := #[true, true, true, true, true, true, true, true, false]) rfl rfl rfl (q_fieldAddrP fO27_4 rfl rfl ?_)
                  refine an_step [8] (by kernel_rfl) rfl ?_
                  refine ⟨?_, trivial⟩
                  · refine an_k (listed' := #[true, true, true, true, true, true, true, true, true]) rfl rfl rfl (k_store sz2 rfl (by conv => lhs; whnf) rfl rfl rfl (Nat.le_of_ble_eq_true rfl) rfl ?_)
                    refine an_end (by kernel_rfl) (hK11 _ ?_); clear hK11
                    refine good_seq fun K21 hK21 => ?_
                    refine good_region rfl ?_
                    refine ev_q rfl (q_loadA tA27 rfl rfl rfl ?_)
                    refine ev_k rfl (k_store sz27 rfl (by conv => lhs; whnf) rfl rfl rfl (Nat.le_of_ble_eq_true rfl) rfl ?_)
                    refine ev_nil (hK21 _ ?_); clear hK21
                    refine good_ret ?_
                    repeat (first | refine thenQ_ret ?_ | refine blockQ_ret ?_)
                    refine ex_3 (v := ⟨nm, v3, n6, n10, n20⟩) (a := a18) (b := s18) ?hF ?hR
                    case hF =>
                      refine fx_cell rfl tA27 rfl rfl rfl ?_
                      exact ⟨_, conv_eq (by first | rfl | exact fAgg1 (by first | rfl | simp_all) (fAgg1 (by first | rfl | exact fI (by first | omega | grind) | (exfalso; first | omega | grind)) (fAgg1 (by first | rfl | exact fI (by first | omega | grind) | (exfalso; first | omega | grind)) (fAgg1 (by first | rfl | exact fI (by first | omega | grind) | (exfalso; first | omega | grind)) (fAgg1 (by first | rfl | exact fI (by first | omega | grind) | (exfalso; first | omega | grind)) (rfl)))))), weakH_box (boxEq (by first | rfl | (rw [e]; done) | (rw [e]; rfl) | (simp_all; done))) rfl (weakH_none _), refsIn_ok rfl⟩
                    case hR =>
                      exact ⟨⟨rfl, by dsimp only; omega, by dsimp only; omega⟩, by omega⟩
        · refine an_k (listed' := #[true, true, false, true, true, false, false, false, false]) rfl rfl rfl (k_callR [(1000000, 1000000)] (D_spec_l00Src_pick cs _ _ _ hc hb (by omega) (by omega)) rfl (rfl) (rfl) ⟨rfl, trivial⟩ rfl (by rintro ⟨v22, a22, s22⟩ ⟨hx22_0, hx22_1⟩; exact ⟨⟨rfl, rfl, trivial⟩, rfl⟩) rfl rfl ?_)
          rintro ⟨v22, a22, s22⟩ ⟨hx22_0, hx22_1⟩
          refine an_step [2, 5] (by kernel_rfl) rfl ?_
          refine ⟨?_, ?_, trivial⟩
          · refine an_q (listed' := #[true, true, true, true, true, false, false, false, false]) rfl rfl rfl (q_int rfl rfl ?_)
            intro n23 hn23
            replace hn23 := in64 hn23 (by omega) (by omega)
            refine an_step [5] (by kernel_rfl) rfl ?_
            refine ⟨?_, trivial⟩
            · refine an_q (listed' := #[true, true, true, true, true, true, false, false, false]) rfl rfl rfl (q_int rfl rfl ?_)
              intro n24 hn24
              replace hn24 := in64 hn24 (by omega) (by omega)
              refine an_step [6] (by kernel_rfl) rfl ?_
              refine ⟨?_, trivial⟩
              · refine an_q (listed' := #[true, true, true, true, true, true, true, false, false]) rfl rfl rfl (q_int rfl rfl ?_)
                intro n25 hn25
                replace hn25 := in64 hn25 (by omega) (by omega)
                refine an_step [7] (by kernel_rfl) rfl ?_
                refine ⟨?_, trivial⟩
                · refine an_q (listed' := #[true, true, true, true, true, true, true, true, false]) rfl rfl rfl (q_fieldAddrP fO27_4 rfl rfl ?_)
                  refine an_step [8] (by kernel_rfl) rfl ?_
                  refine ⟨?_, trivial⟩
                  · refine an_k (listed' := #[true, true, true, true, true, true, true, true, true]) rfl rfl rfl (k_store sz2 rfl (by conv => lhs; whnf) rfl rfl rfl (Nat.le_of_ble_eq_true rfl) rfl ?_)
                    refine an_end (by kernel_rfl) (hK11 _ ?_); clear hK11
                    refine good_seq fun K26 hK26 => ?_
                    refine good_region rfl ?_
                    refine ev_q rfl (q_loadA tA27 rfl rfl rfl ?_)
                    refine ev_k rfl (k_store sz27 rfl (by conv => lhs; whnf) rfl rfl rfl (Nat.le_of_ble_eq_true rfl) rfl ?_)
                    refine ev_nil (hK26 _ ?_); clear hK26
                    refine good_ret ?_
                    repeat (first | refine thenQ_ret ?_ | refine blockQ_ret ?_)
                    refine ex_3 (v := ⟨nm, v3, n6, n10, n25⟩) (a := a22) (b := s22) ?hF ?hR
                    case hF =>
                      refine fx_cell rfl tA27 rfl rfl rfl ?_
                      exact ⟨_, conv_eq (by first | rfl | exact fAgg1 (by first | rfl | simp_all) (fAgg1 (by first | rfl | exact fI (by first | omega | grind) | (exfalso; first | omega | grind)) (fAgg1 (by first | rfl | exact fI (by first | omega | grind) | (exfalso; first | omega | grind)) (fAgg1 (by first | rfl | exact fI (by first | omega | grind) | (exfalso; first | omega | grind)) (fAgg1 (by first | rfl | exact fI (by first | omega | grind) | (exfalso; first | omega | grind)) (rfl)))))), weakH_box (boxEq (by first | rfl | (rw [e]; done) | (rw [e]; rfl) | (simp_all; done))) rfl (weakH_none _), refsIn_ok rfl⟩
                    case hR =>
                      exact ⟨⟨rfl, by dsimp only; omega, by dsimp only; omega⟩, by omega⟩
          · refine an_q (listed' := #[true, true, false, true, true, true, false, false, false]) rfl rfl rfl (q_int rfl rfl ?_)
            intro n27 hn27
            replace hn27 := in64 hn27 (by omega) (by omega)
            refine an_step [2] (by kernel_rfl) rfl ?_
            refine ⟨?_, trivial⟩
            · refine an_q (listed' := #[true, true, true, true, true, true, false, false, false]) rfl rfl rfl (q_int rfl rfl ?_)
              intro n28 hn28
              replace hn28 := in64 hn28 (by omega) (by omega)
              refine an_step [6] (by kernel_rfl) rfl ?_
              refine ⟨?_, trivial⟩
              · refine an_q (listed' := #[true, true, true, true, true, true, true, false, false]) rfl rfl rfl (q_int rfl rfl ?_)
                intro n29 hn29
                replace hn29 := in64 hn29 (by omega) (by omega)
                refine an_step [7] (by kernel_rfl) rfl ?_
                refine ⟨?_, trivial⟩
                · refine an_q (listed' := #[true, true, true, true, true, true, true, true, false]) rfl rfl rfl (q_fieldAddrP fO27_4 rfl rfl ?_)
                  refine an_step [8] (by kernel_rfl) rfl ?_
                  refine ⟨?_, trivial⟩
                  · refine an_k (listed' := #[true, true, true, true, true, true, true, true, true]) rfl rfl rfl (k_store sz2 rfl (by conv => lhs; whnf) rfl rfl rfl (Nat.le_of_ble_eq_true rfl) rfl ?_)
                    refine an_end (by kernel_rfl) (hK11 _ ?_); clear hK11
                    refine good_seq fun K30 hK30 => ?_
                    refine good_region rfl ?_
                    refine ev_q rfl (q_loadA tA27 rfl rfl rfl ?_)
                    refine ev_k rfl (k_store sz27 rfl (by conv => lhs; whnf) rfl rfl rfl (Nat.le_of_ble_eq_true rfl) rfl ?_)
                    refine ev_nil (hK30 _ ?_); clear hK30
                    refine good_ret ?_
                    repeat (first | refine thenQ_ret ?_ | refine blockQ_ret ?_)
                    refine ex_3 (v := ⟨nm, v3, n6, n10, n29⟩) (a := a22) (b := s22) ?hF ?hR
                    case hF =>
                      refine fx_cell rfl tA27 rfl rfl rfl ?_
                      exact ⟨_, conv_eq (by first | rfl | exact fAgg1 (by first | rfl | simp_all) (fAgg1 (by first | rfl | exact fI (by first | omega | grind) | (exfalso; first | omega | grind)) (fAgg1 (by first | rfl | exact fI (by first | omega | grind) | (exfalso; first | omega | grind)) (fAgg1 (by first | rfl | exact fI (by first | omega | grind) | (exfalso; first | omega | grind)) (fAgg1 (by first | rfl | exact fI (by first | omega | grind) | (exfalso; first | omega | grind)) (rfl)))))), weakH_box (boxEq (by first | rfl | (rw [e]; done) | (rw [e]; rfl) | (simp_all; done))) rfl (weakH_none _), refsIn_ok rfl⟩
                    case hR =>
                      exact ⟨⟨rfl, by dsimp only; omega, by dsimp only; omega⟩, by omega⟩
    · refine an_q (listed' := #[true, false, false, true, false, false, false, false, false]) rfl rfl rfl (q_move (by conv => lhs; whnf) ?_)
      refine an_step [1, 4] (by kernel_rfl) rfl ?_
      refine ⟨?_, ?_, trivial⟩
      · refine an_q (listed' := #[true, true, false, true, false, false, false, false, false]) rfl rfl rfl (q_load tA2 rfl ?_)
        refine an_step [2, 4] (by kernel_rfl) rfl ?_
        refine ⟨?_, ?_, trivial⟩
        · refine an_q (listed' := #[true, true, true, true, false, false, false, false, false]) rfl rfl rfl (q_int rfl rfl ?_)
          intro n31 hn31
          replace hn31 := in64 hn31 (by omega) (by omega)
          refine an_step [4] (by kernel_rfl) rfl ?_
          refine ⟨?_, trivial⟩
          · refine an_k (listed' := #[true, true, true, true, true, false, false, false, false]) rfl rfl rfl (k_callR [(1000000, 1000000)] (D_spec_l00Src_pick cs _ _ _ hc hb (by omega) (by omega)) rfl (rfl) (rfl) ⟨rfl, trivial⟩ rfl (by rintro ⟨v32, a32, s32⟩ ⟨hx32_0, hx32_1⟩; exact ⟨⟨rfl, rfl, trivial⟩, rfl⟩) rfl rfl ?_)
            rintro ⟨v32, a32, s32⟩ ⟨hx32_0, hx32_1⟩
            refine an_step [5] (by kernel_rfl) rfl ?_
            refine ⟨?_, trivial⟩
            · refine an_q (listed' := #[true, true, true, true, true, true, false, false, false]) rfl rfl rfl (q_int rfl rfl ?_)
              intro n33 hn33
              replace hn33 := in64 hn33 (by omega) (by omega)
              refine an_step [6] (by kernel_rfl) rfl ?_
              refine ⟨?_, trivial⟩
              · refine an_q (listed' := #[true, true, true, true, true, true, true, false, false]) rfl rfl rfl (q_int rfl rfl ?_)
                intro n34 hn34
                replace hn34 := in64 hn34 (by omega) (by omega)
                refine an_step [7] (by kernel_rfl) rfl ?_
                refine ⟨?_, trivial⟩
                · refine an_q (listed' := #[true, true, true, true, true, true, true, true, false]) rfl rfl rfl (q_fieldAddrP fO27_4 rfl rfl ?_)
                  refine an_step [8] (by kernel_rfl) rfl ?_
                  refine ⟨?_, trivial⟩
                  · refine an_k (listed' := #[true, true, true, true, true, true, true, true, true]) rfl rfl rfl (k_store sz2 rfl (by conv => lhs; whnf) rfl rfl rfl (Nat.le_of_ble_eq_true rfl) rfl ?_)
                    refine an_end (by kernel_rfl) (hK11 _ ?_); clear hK11
                    refine good_seq fun K35 hK35 => ?_
                    refine good_region rfl ?_
                    refine ev_q rfl (q_loadA tA27 rfl rfl rfl ?_)
                    refine ev_k rfl (k_store sz27 rfl (by conv => lhs; whnf) rfl rfl rfl (Nat.le_of_ble_eq_true rfl) rfl ?_)
                    refine ev_nil (hK35 _ ?_); clear hK35
                    refine good_ret ?_
                    repeat (first | refine thenQ_ret ?_ | refine blockQ_ret ?_)
                    refine ex_3 (v := ⟨nm, v3, n6, n10, n34⟩) (a := a32) (b := s32) ?hF ?hR
                    case hF =>
                      refine fx_cell rfl tA27 rfl rfl rfl ?_
                      exact ⟨_, conv_eq (by first | rfl | exact fAgg1 (by first | rfl | simp_all) (fAgg1 (by first | rfl | exact fI (by first | omega | grind) | (exfalso; first | omega | grind)) (fAgg1 (by first | rfl | exact fI (by first | omega | grind) | (exfalso; first | omega | grind)) (fAgg1 (by first | rfl | exact fI (by first | omega | grind) | (exfalso; first | omega | grind)) (fAgg1 (by first | rfl | exact fI (by first | omega | grind) | (exfalso; first | omega | grind)) (rfl)))))), weakH_box (boxEq (by first | rfl | (rw [e]; done) | (rw [e]; rfl) | (simp_all; done))) rfl (weakH_none _), refsIn_ok rfl⟩
                    case hR =>
                      exact ⟨⟨rfl, by dsimp only; omega, by dsimp only; omega⟩, by omega⟩
        · refine an_k (listed' := #[true, true, false, true, true, false, false, false, false]) rfl rfl rfl (k_callR [(1000000, 1000000)] (D_spec_l00Src_pick cs _ _ _ hc hb (by omega) (by omega)) rfl (rfl) (rfl) ⟨rfl, trivial⟩ rfl (by rintro ⟨v36, a36, s36⟩ ⟨hx36_0, hx36_1⟩; exact ⟨⟨rfl, rfl, trivial⟩, rfl⟩) rfl rfl ?_)
          rintro ⟨v36, a36, s36⟩ ⟨hx36_0, hx36_1⟩
          refine an_step [2, 5] (by kernel_rfl) rfl ?_
          refine ⟨?_, ?_, trivial⟩
          · refine an_q (listed' := #[true, true, true, true, true, false, false, false, false]) rfl rfl rfl (q_int rfl rfl ?_)
            intro n37 hn37
            replace hn37 := in64 hn37 (by omega) (by omega)
            refine an_step [5] (by kernel_rfl) rfl ?_
            refine ⟨?_, trivial⟩
            · refine an_q (listed' := #[true, true, true, true, true, true, false, false, false]) rfl rfl rfl (q_int rfl rfl ?_)
              intro n38 hn38
              replace hn38 := in64 hn38 (by omega) (by omega)
              refine an_step [6] (by kernel_rfl) rfl ?_
              refine ⟨?_, trivial⟩
              · refine an_q (listed' := #[true, true, true, true, true, true, true, false, false]) rfl rfl rfl (q_int rfl rfl ?_)
                intro n39 hn39
                replace hn39 := in64 hn39 (by omega) (by omega)
                refine an_step [7] (by kernel_rfl) rfl ?_
                refine ⟨?_, trivial⟩
                · refine an_q (listed' := #[true, true, true, true, true, true, true, true, false]) rfl rfl rfl (q_fieldAddrP fO27_4 rfl rfl ?_)
                  refine an_step [8] (by kernel_rfl) rfl ?_
                  refine ⟨?_, trivial⟩
                  · refine an_k (listed' := #[true, true, true, true, true, true, true, true, true]) rfl rfl rfl (k_store sz2 rfl (by conv => lhs; whnf) rfl rfl rfl (Nat.le_of_ble_eq_true rfl) rfl ?_)
                    refine an_end (by kernel_rfl) (hK11 _ ?_); clear hK11
                    refine good_seq fun K40 hK40 => ?_
                    refine good_region rfl ?_
                    refine ev_q rfl (q_loadA tA27 rfl rfl rfl ?_)
                    refine ev_k rfl (k_store sz27 rfl (by conv => lhs; whnf) rfl rfl rfl (Nat.le_of_ble_eq_true rfl) rfl ?_)
                    refine ev_nil (hK40 _ ?_); clear hK40
                    refine good_ret ?_
                    repeat (first | refine thenQ_ret ?_ | refine blockQ_ret ?_)
                    refine ex_3 (v := ⟨nm, v3, n6, n10, n39⟩) (a := a36) (b := s36) ?hF ?hR
                    case hF =>
                      refine fx_cell rfl tA27 rfl rfl rfl ?_
                      exact ⟨_, conv_eq (by first | rfl | exact fAgg1 (by first | rfl | simp_all) (fAgg1 (by first | rfl | exact fI (by first | omega | grind) | (exfalso; first | omega | grind)) (fAgg1 (by first | rfl | exact fI (by first | omega | grind) | (exfalso; first | omega | grind)) (fAgg1 (by first | rfl | exact fI (by first | omega | grind) | (exfalso; first | omega | grind)) (fAgg1 (by first | rfl | exact fI (by first | omega | grind) | (exfalso; first | omega | grind)) (rfl)))))), weakH_box (boxEq (by first | rfl | (rw [e]; done) | (rw [e]; rfl) | (simp_all; done))) rfl (weakH_none _), refsIn_ok rfl⟩
                    case hR =>
                      exact ⟨⟨rfl, by dsimp only; omega, by dsimp only; omega⟩, by omega⟩
          · refine an_q (listed' := #[true, true, false, true, true, true, false, false, false]) rfl rfl rfl (q_int rfl rfl ?_)
            intro n41 hn41
            replace hn41 := in64 hn41 (by omega) (by omega)
            refine an_step [2] (by kernel_rfl) rfl ?_
            refine ⟨?_, trivial⟩
            · refine an_q (listed' := #[true, true, true, true, true, true, false, false, false]) rfl rfl rfl (q_int rfl rfl ?_)
              intro n42 hn42
              replace hn42 := in64 hn42 (by omega) (by omega)
              refine an_step [6] (by kernel_rfl) rfl ?_
              refine ⟨?_, trivial⟩
              · refine an_q (listed' := #[true, true, true, true, true, true, true, false, false]) rfl rfl rfl (q_int rfl rfl ?_)
                intro n43 hn43
                replace hn43 := in64 hn43 (by omega) (by omega)
                refine an_step [7] (by kernel_rfl) rfl ?_
                refine ⟨?_, trivial⟩
                · refine an_q (listed' := #[true, true, true, true, true, true, true, true, false]) rfl rfl rfl (q_fieldAddrP fO27_4 rfl rfl ?_)
                  refine an_step [8] (by kernel_rfl) rfl ?_
                  refine ⟨?_, trivial⟩
                  · refine an_k (listed' := #[true, true, true, true, true, true, true, true, true]) rfl rfl rfl (k_store sz2 rfl (by conv => lhs; whnf) rfl rfl rfl (Nat.le_of_ble_eq_true rfl) rfl ?_)
                    refine an_end (by kernel_rfl) (hK11 _ ?_); clear hK11
                    refine good_seq fun K44 hK44 => ?_
                    refine good_region rfl ?_
                    refine ev_q rfl (q_loadA tA27 rfl rfl rfl ?_)
                    refine ev_k rfl (k_store sz27 rfl (by conv => lhs; whnf) rfl rfl rfl (Nat.le_of_ble_eq_true rfl) rfl ?_)
                    refine ev_nil (hK44 _ ?_); clear hK44
                    refine good_ret ?_
                    repeat (first | refine thenQ_ret ?_ | refine blockQ_ret ?_)
                    refine ex_3 (v := ⟨nm, v3, n6, n10, n43⟩) (a := a36) (b := s36) ?hF ?hR
                    case hF =>
                      refine fx_cell rfl tA27 rfl rfl rfl ?_
                      exact ⟨_, conv_eq (by first | rfl | exact fAgg1 (by first | rfl | simp_all) (fAgg1 (by first | rfl | exact fI (by first | omega | grind) | (exfalso; first | omega | grind)) (fAgg1 (by first | rfl | exact fI (by first | omega | grind) | (exfalso; first | omega | grind)) (fAgg1 (by first | rfl | exact fI (by first | omega | grind) | (exfalso; first | omega | grind)) (fAgg1 (by first | rfl | exact fI (by first | omega | grind) | (exfalso; first | omega | grind)) (rfl)))))), weakH_box (boxEq (by first | rfl | (rw [e]; done) | (rw [e]; rfl) | (simp_all; done))) rfl (weakH_none _), refsIn_ok rfl⟩
                    case hR =>
                      exact ⟨⟨rfl, by dsimp only; omega, by dsimp only; omega⟩, by omega⟩
      · refine an_k (listed' := #[true, false, false, true, true, false, false, false, false]) rfl rfl rfl (k_callR [(1000000, 1000000)] (D_spec_l00Src_pick cs _ _ _ hc hb (by omega) (by omega)) rfl (rfl) (rfl) ⟨rfl, trivial⟩ rfl (by rintro ⟨v45, a45, s45⟩ ⟨hx45_0, hx45_1⟩; exact ⟨⟨rfl, rfl, trivial⟩, rfl⟩) rfl rfl ?_)
        rintro ⟨v45, a45, s45⟩ ⟨hx45_0, hx45_1⟩
        refine an_step [1, 5] (by kernel_rfl) rfl ?_
        refine ⟨?_, ?_, trivial⟩
        · refine an_q (listed' := #[true, true, false, true, true, false, false, false, false]) rfl rfl rfl (q_load tA2 rfl ?_)
          refine an_step [2, 5] (by kernel_rfl) rfl ?_
          refine ⟨?_, ?_, trivial⟩
          · refine an_q (listed' := #[true, true, true, true, true, false, false, false, false]) rfl rfl rfl (q_int rfl rfl ?_)
            intro n46 hn46
            replace hn46 := in64 hn46 (by omega) (by omega)
            refine an_step [5] (by kernel_rfl) rfl ?_
            refine ⟨?_, trivial⟩
            · refine an_q (listed' := #[true, true, true, true, true, true, false, false, false]) rfl rfl rfl (q_int rfl rfl ?_)
              intro n47 hn47
              replace hn47 := in64 hn47 (by omega) (by omega)
              refine an_step [6] (by kernel_rfl) rfl ?_
              refine ⟨?_, trivial⟩
              · refine an_q (listed' := #[true, true, true, true, true, true, true, false, false]) rfl rfl rfl (q_int rfl rfl ?_)
                intro n48 hn48
                replace hn48 := in64 hn48 (by omega) (by omega)
                refine an_step [7] (by kernel_rfl) rfl ?_
                refine ⟨?_, trivial⟩
                · refine an_q (listed' := #[true, true, true, true, true, true, true, true, false]) rfl rfl rfl (q_fieldAddrP fO27_4 rfl rfl ?_)
                  refine an_step [8] (by kernel_rfl) rfl ?_
                  refine ⟨?_, trivial⟩
                  · refine an_k (listed' := #[true, true, true, true, true, true, true, true, true]) rfl rfl rfl (k_store sz2 rfl (by conv => lhs; whnf) rfl rfl rfl (Nat.le_of_ble_eq_true rfl) rfl ?_)
                    refine an_end (by kernel_rfl) (hK11 _ ?_); clear hK11
                    refine good_seq fun K49 hK49 => ?_
                    refine good_region rfl ?_
                    refine ev_q rfl (q_loadA tA27 rfl rfl rfl ?_)
                    refine ev_k rfl (k_store sz27 rfl (by conv => lhs; whnf) rfl rfl rfl (Nat.le_of_ble_eq_true rfl) rfl ?_)
                    refine ev_nil (hK49 _ ?_); clear hK49
                    refine good_ret ?_
                    repeat (first | refine thenQ_ret ?_ | refine blockQ_ret ?_)
                    refine ex_3 (v := ⟨nm, v3, n6, n10, n48⟩) (a := a45) (b := s45) ?hF ?hR
                    case hF =>
                      refine fx_cell rfl tA27 rfl rfl rfl ?_
                      exact ⟨_, conv_eq (by first | rfl | exact fAgg1 (by first | rfl | simp_all) (fAgg1 (by first | rfl | exact fI (by first | omega | grind) | (exfalso; first | omega | grind)) (fAgg1 (by first | rfl | exact fI (by first | omega | grind) | (exfalso; first | omega | grind)) (fAgg1 (by first | rfl | exact fI (by first | omega | grind) | (exfalso; first | omega | grind)) (fAgg1 (by first | rfl | exact fI (by first | omega | grind) | (exfalso; first | omega | grind)) (rfl)))))), weakH_box (boxEq (by first | rfl | (rw [e]; done) | (rw [e]; rfl) | (simp_all; done))) rfl (weakH_none _), refsIn_ok rfl⟩
                    case hR =>
                      exact ⟨⟨rfl, by dsimp only; omega, by dsimp only; omega⟩, by omega⟩
          · refine an_q (listed' := #[true, true, false, true, true, true, false, false, false]) rfl rfl rfl (q_int rfl rfl ?_)
            intro n50 hn50
            replace hn50 := in64 hn50 (by omega) (by omega)
            refine an_step [2] (by kernel_rfl) rfl ?_
            refine ⟨?_, trivial⟩
            · refine an_q (listed' := #[true, true, true, true, true, true, false, false, false]) rfl rfl rfl (q_int rfl rfl ?_)
              intro n51 hn51
              replace hn51 := in64 hn51 (by omega) (by omega)
              refine an_step [6] (by kernel_rfl) rfl ?_
              refine ⟨?_, trivial⟩
              · refine an_q (listed' := #[true, true, true, true, true, true, true, false, false]) rfl rfl rfl (q_int rfl rfl ?_)
                intro n52 hn52
                replace hn52 := in64 hn52 (by omega) (by omega)
                refine an_step [7] (by kernel_rfl) rfl ?_
                refine ⟨?_, trivial⟩
                · refine an_q (listed' := #[true, true, true, true, true, true, true, true, false]) rfl rfl rfl (q_fieldAddrP fO27_4 rfl rfl ?_)
                  refine an_step [8] (by kernel_rfl) rfl ?_
                  refine ⟨?_, trivial⟩
                  · refine an_k (listed' := #[true, true, true, true, true, true, true, true, true]) rfl rfl rfl (k_store sz2 rfl (by conv => lhs; whnf) rfl rfl rfl (Nat.le_of_ble_eq_true rfl) rfl ?_)
                    refine an_end (by kernel_rfl) (hK11 _ ?_); clear hK11
                    refine good_seq fun K53 hK53 => ?_
                    refine good_region rfl ?_
                    refine ev_q rfl (q_loadA tA27 rfl rfl rfl ?_)
                    refine ev_k rfl (k_store sz27 rfl (by conv => lhs; whnf) rfl rfl rfl (Nat.le_of_ble_eq_true rfl) rfl ?_)
                    refine ev_nil (hK53 _ ?_); clear hK53
                    refine good_ret ?_
                    repeat (first | refine thenQ_ret ?_ | refine blockQ_ret ?_)
                    refine ex_3 (v := ⟨nm, v3, n6, n10, n52⟩) (a := a45) (b := s45) ?hF ?hR
                    case hF =>
                      refine fx_cell rfl tA27 rfl rfl rfl ?_
                      exact ⟨_, conv_eq (by first | rfl | exact fAgg1 (by first | rfl | simp_all) (fAgg1 (by first | rfl | exact fI (by first | omega | grind) | (exfalso; first | omega | grind)) (fAgg1 (by first | rfl | exact fI (by first | omega | grind) | (exfalso; first | omega | grind)) (fAgg1 (by first | rfl | exact fI (by first | omega | grind) | (exfalso; first | omega | grind)) (fAgg1 (by first | rfl | exact fI (by first | omega | grind) | (exfalso; first | omega | grind)) (rfl)))))), weakH_box (boxEq (by first | rfl | (rw [e]; done) | (rw [e]; rfl) | (simp_all; done))) rfl (weakH_none _), refsIn_ok rfl⟩
                    case hR =>
                      exact ⟨⟨rfl, by dsimp only; omega, by dsimp only; omega⟩, by omega⟩
        · refine an_q (listed' := #[true, false, false, true, true, true, false, false, false]) rfl rfl rfl (q_int rfl rfl ?_)
          intro n54 hn54
          replace hn54 := in64 hn54 (by omega) (by omega)
          refine an_step [1] (by kernel_rfl) rfl ?_
          refine ⟨?_, trivial⟩
          · refine an_q (listed' := #[true, true, false, true, true, true, false, false, false]) rfl rfl rfl (q_load tA2 rfl ?_)
            refine an_step [2] (by kernel_rfl) rfl ?_
            refine ⟨?_, trivial⟩
            · refine an_q (listed' := #[true, true, true, true, true, true, false, false, false]) rfl rfl rfl (q_int rfl rfl ?_)
              intro n55 hn55
              replace hn55 := in64 hn55 (by omega) (by omega)
              refine an_step [6] (by kernel_rfl) rfl ?_
              refine ⟨?_, trivial⟩
              · refine an_q (listed' := #[true, true, true, true, true, true, true, false, false]) rfl rfl rfl (q_int rfl rfl ?_)
                intro n56 hn56
                replace hn56 := in64 hn56 (by omega) (by omega)
                refine an_step [7] (by kernel_rfl) rfl ?_
                refine ⟨?_, trivial⟩
                · refine an_q (listed' := #[true, true, true, true, true, true, true, true, false]) rfl rfl rfl (q_fieldAddrP fO27_4 rfl rfl ?_)
                  refine an_step [8] (by kernel_rfl) rfl ?_
                  refine ⟨?_, trivial⟩
                  · refine an_k (listed' := #[true, true, true, true, true, true, true, true, true]) rfl rfl rfl (k_store sz2 rfl (by conv => lhs; whnf) rfl rfl rfl (Nat.le_of_ble_eq_true rfl) rfl ?_)
                    refine an_end (by kernel_rfl) (hK11 _ ?_); clear hK11
                    refine good_seq fun K57 hK57 => ?_
                    refine good_region rfl ?_
                    refine ev_q rfl (q_loadA tA27 rfl rfl rfl ?_)
                    refine ev_k rfl (k_store sz27 rfl (by conv => lhs; whnf) rfl rfl rfl (Nat.le_of_ble_eq_true rfl) rfl ?_)
                    refine ev_nil (hK57 _ ?_); clear hK57
                    refine good_ret ?_
                    repeat (first | refine thenQ_ret ?_ | refine blockQ_ret ?_)
                    refine ex_3 (v := ⟨nm, v3, n6, n10, n56⟩) (a := a45) (b := s45) ?hF ?hR
                    case hF =>
                      refine fx_cell rfl tA27 rfl rfl rfl ?_
                      exact ⟨_, conv_eq (by first | rfl | exact fAgg1 (by first | rfl | simp_all) (fAgg1 (by first | rfl | exact fI (by first | omega | grind) | (exfalso; first | omega | grind)) (fAgg1 (by first | rfl | exact fI (by first | omega | grind) | (exfalso; first | omega | grind)) (fAgg1 (by first | rfl | exact fI (by first | omega | grind) | (exfalso; first | omega | grind)) (fAgg1 (by first | rfl | exact fI (by first | omega | grind) | (exfalso; first | omega | grind)) (rfl)))))), weakH_box (boxEq (by first | rfl | (rw [e]; done) | (rw [e]; rfl) | (simp_all; done))) rfl (weakH_none _), refsIn_ok rfl⟩
                    case hR =>
                      exact ⟨⟨rfl, by dsimp only; omega, by dsimp only; omega⟩, by omega⟩
  · refine an_q (listed' := #[false, false, false, true, false, false, false, false, false]) rfl rfl rfl (q_move (by conv => lhs; whnf) ?_)
    refine an_step [0, 4] (by kernel_rfl) rfl ?_
    refine ⟨?_, ?_, trivial⟩
    · refine an_q (listed' := #[true, false, false, true, false, false, false, false, false]) rfl rfl rfl (q_fieldAddrP fO27_3 rfl rfl ?_)
      refine an_step [1, 4] (by kernel_rfl) rfl ?_
      refine ⟨?_, ?_, trivial⟩
      · refine an_q (listed' := #[true, true, false, true, false, false, false, false, false]) rfl rfl rfl (q_load tA2 rfl ?_)
        refine an_step [2, 4] (by kernel_rfl) rfl ?_
        refine ⟨?_, ?_, trivial⟩
        · refine an_q (listed' := #[true, true, true, true, false, false, false, false, false]) rfl rfl rfl (q_int rfl rfl ?_)
          intro n58 hn58
          replace hn58 := in64 hn58 (by omega) (by omega)
          refine an_step [4] (by kernel_rfl) rfl ?_
          refine ⟨?_, trivial⟩
          · refine an_k (listed' := #[true, true, true, true, true, false, false, false, false]) rfl rfl rfl (k_callR [(1000000, 1000000)] (D_spec_l00Src_pick cs _ _ _ hc hb (by omega) (by omega)) rfl (rfl) (rfl) ⟨rfl, trivial⟩ rfl (by rintro ⟨v59, a59, s59⟩ ⟨hx59_0, hx59_1⟩; exact ⟨⟨rfl, rfl, trivial⟩, rfl⟩) rfl rfl ?_)
            rintro ⟨v59, a59, s59⟩ ⟨hx59_0, hx59_1⟩
            refine an_step [5] (by kernel_rfl) rfl ?_
            refine ⟨?_, trivial⟩
            · refine an_q (listed' := #[true, true, true, true, true, true, false, false, false]) rfl rfl rfl (q_int rfl rfl ?_)
              intro n60 hn60
              replace hn60 := in64 hn60 (by omega) (by omega)
              refine an_step [6] (by kernel_rfl) rfl ?_
              refine ⟨?_, trivial⟩
              · refine an_q (listed' := #[true, true, true, true, true, true, true, false, false]) rfl rfl rfl (q_int rfl rfl ?_)
                intro n61 hn61
                replace hn61 := in64 hn61 (by omega) (by omega)
                refine an_step [7] (by kernel_rfl) rfl ?_
                refine ⟨?_, trivial⟩
                · refine an_q (listed' := #[true, true, true, true, true, true, true, true, false]) rfl rfl rfl (q_fieldAddrP fO27_4 rfl rfl ?_)
                  refine an_step [8] (by kernel_rfl) rfl ?_
                  refine ⟨?_, trivial⟩
                  · refine an_k (listed' := #[true, true, true, true, true, true, true, true, true]) rfl rfl rfl (k_store sz2 rfl (by conv => lhs; whnf) rfl rfl rfl (Nat.le_of_ble_eq_true rfl) rfl ?_)
                    refine an_end (by kernel_rfl) (hK11 _ ?_); clear hK11
                    refine good_seq fun K62 hK62 => ?_
                    refine good_region rfl ?_
                    refine ev_q rfl (q_loadA tA27 rfl rfl rfl ?_)
                    refine ev_k rfl (k_store sz27 rfl (by conv => lhs; whnf) rfl rfl rfl (Nat.le_of_ble_eq_true rfl) rfl ?_)
                    refine ev_nil (hK62 _ ?_); clear hK62
                    refine good_ret ?_
                    repeat (first | refine thenQ_ret ?_ | refine blockQ_ret ?_)
                    refine ex_3 (v := ⟨nm, v3, n6, n10, n61⟩) (a := a59) (b := s59) ?hF ?hR
                    case hF =>
                      refine fx_cell rfl tA27 rfl rfl rfl ?_
                      exact ⟨_, conv_eq (by first | rfl | exact fAgg1 (by first | rfl | simp_all) (fAgg1 (by first | rfl | exact fI (by first | omega | grind) | (exfalso; first | omega | grind)) (fAgg1 (by first | rfl | exact fI (by first | omega | grind) | (exfalso; first | omega | grind)) (fAgg1 (by first | rfl | exact fI (by first | omega | grind) | (exfalso; first | omega | grind)) (fAgg1 (by first | rfl | exact fI (by first | omega | grind) | (exfalso; first | omega | grind)) (rfl)))))), weakH_box (boxEq (by first | rfl | (rw [e]; done) | (rw [e]; rfl) | (simp_all; done))) rfl (weakH_none _), refsIn_ok rfl⟩
                    case hR =>
                      exact ⟨⟨rfl, by dsimp only; omega, by dsimp only; omega⟩, by omega⟩
        · refine an_k (listed' := #[true, true, false, true, true, false, false, false, false]) rfl rfl rfl (k_callR [(1000000, 1000000)] (D_spec_l00Src_pick cs _ _ _ hc hb (by omega) (by omega)) rfl (rfl) (rfl) ⟨rfl, trivial⟩ rfl (by rintro ⟨v63, a63, s63⟩ ⟨hx63_0, hx63_1⟩; exact ⟨⟨rfl, rfl, trivial⟩, rfl⟩) rfl rfl ?_)
          rintro ⟨v63, a63, s63⟩ ⟨hx63_0, hx63_1⟩
          refine an_step [2, 5] (by kernel_rfl) rfl ?_
          refine ⟨?_, ?_, trivial⟩
          · refine an_q (listed' := #[true, true, true, true, true, false, false, false, false]) rfl rfl rfl (q_int rfl rfl ?_)
            intro n64 hn64
            replace hn64 := in64 hn64 (by omega) (by omega)
            refine an_step [5] (by kernel_rfl) rfl ?_
            refine ⟨?_, trivial⟩
            · refine an_q (listed' := #[true, true, true, true, true, true, false, false, false]) rfl rfl rfl (q_int rfl rfl ?_)
              intro n65 hn65
              replace hn65 := in64 hn65 (by omega) (by omega)
              refine an_step [6] (by kernel_rfl) rfl ?_
              refine ⟨?_, trivial⟩
              · refine an_q (listed' := #[true, true, true, true, true, true, true, false, false]) rfl rfl rfl (q_int rfl rfl ?_)
                intro n66 hn66
                replace hn66 := in64 hn66 (by omega) (by omega)
                refine an_step [7] (by kernel_rfl) rfl ?_
                refine ⟨?_, trivial⟩
                · refine an_q (listed' := #[true, true, true, true, true, true, true, true, false]) rfl rfl rfl (q_fieldAddrP fO27_4 rfl rfl ?_)
                  refine an_step [8] (by kernel_rfl) rfl ?_
                  refine ⟨?_, trivial⟩
                  · refine an_k (listed' := #[true, true, true, true, true, true, true, true, true]) rfl rfl rfl (k_store sz2 rfl (by conv => lhs; whnf) rfl rfl rfl (Nat.le_of_ble_eq_true rfl) rfl ?_)
                    refine an_end (by kernel_rfl) (hK11 _ ?_); clear hK11
                    refine good_seq fun K67 hK67 => ?_
                    refine good_region rfl ?_
                    refine ev_q rfl (q_loadA tA27 rfl rfl rfl ?_)
                    refine ev_k rfl (k_store sz27 rfl (by conv => lhs; whnf) rfl rfl rfl (Nat.le_of_ble_eq_true rfl) rfl ?_)
                    refine ev_nil (hK67 _ ?_); clear hK67
                    refine good_ret ?_
                    repeat (first | refine thenQ_ret ?_ | refine blockQ_ret ?_)
                    refine ex_3 (v := ⟨nm, v3, n6, n10, n66⟩) (a := a63) (b := s63) ?hF ?hR
                    case hF =>
                      refine fx_cell rfl tA27 rfl rfl rfl ?_
                      exact ⟨_, conv_eq (by first | rfl | exact fAgg1 (by first | rfl | simp_all) (fAgg1 (by first | rfl | exact fI (by first | omega | grind) | (exfalso; first | omega | grind)) (fAgg1 (by first | rfl | exact fI (by first | omega | grind) | (exfalso; first | omega | grind)) (fAgg1 (by first | rfl | exact fI (by first | omega | grind) | (exfalso; first | omega | grind)) (fAgg1 (by first | rfl | exact fI (by first | omega | grind) | (exfalso; first | omega | grind)) (rfl)))))), weakH_box (boxEq (by first | rfl | (rw [e]; done) | (rw [e]; rfl) | (simp_all; done))) rfl (weakH_none _), refsIn_ok rfl⟩
                    case hR =>
                      exact ⟨⟨rfl, by dsimp only; omega, by dsimp only; omega⟩, by omega⟩
          · refine an_q (listed' := #[true, true, false, true, true, true, false, false, false]) rfl rfl rfl (q_int rfl rfl ?_)
            intro n68 hn68
            replace hn68 := in64 hn68 (by omega) (by omega)
            refine an_step [2] (by kernel_rfl) rfl ?_
            refine ⟨?_, trivial⟩
            · refine an_q (listed' := #[true, true, true, true, true, true, false, false, false]) rfl rfl rfl (q_int rfl rfl ?_)
              intro n69 hn69
              replace hn69 := in64 hn69 (by omega) (by omega)
              refine an_step [6] (by kernel_rfl) rfl ?_
              refine ⟨?_, trivial⟩
              · refine an_q (listed' := #[true, true, true, true, true, true, true, false, false]) rfl rfl rfl (q_int rfl rfl ?_)
                intro n70 hn70
                replace hn70 := in64 hn70 (by omega) (by omega)
                refine an_step [7] (by kernel_rfl) rfl ?_
                refine ⟨?_, trivial⟩
                · refine an_q (listed' := #[true, true, true, true, true, true, true, true, false]) rfl rfl rfl (q_fieldAddrP fO27_4 rfl rfl ?_)
                  refine an_step [8] (by kernel_rfl) rfl ?_
                  refine ⟨?_, trivial⟩
                  · refine an_k (listed' := #[true, true, true, true, true, true, true, true, true]) rfl rfl rfl (k_store sz2 rfl (by conv => lhs; whnf) rfl rfl rfl (Nat.le_of_ble_eq_true rfl) rfl ?_)
                    refine an_end (by kernel_rfl) (hK11 _ ?_); clear hK11
                    refine good_seq fun K71 hK71 => ?_
                    refine good_region rfl ?_
                    refine ev_q rfl (q_loadA tA27 rfl rfl rfl ?_)
                    refine ev_k rfl (k_store sz27 rfl (by conv => lhs; whnf) rfl rfl rfl (Nat.le_of_ble_eq_true rfl) rfl ?_)
                    refine ev_nil (hK71 _ ?_); clear hK71
                    refine good_ret ?_
                    repeat (first | refine thenQ_ret ?_ | refine blockQ_ret ?_)
                    refine ex_3 (v := ⟨nm, v3, n6, n10, n70⟩) (a := a63) (b := s63) ?hF ?hR
                    case hF =>
                      refine fx_cell rfl tA27 rfl rfl rfl ?_
                      exact ⟨_, conv_eq (by first | rfl | exact fAgg1 (by first | rfl | simp_all) (fAgg1 (by first | rfl | exact fI (by first | omega | grind) | (exfalso; first | omega | grind)) (fAgg1 (by first | rfl | exact fI (by first | omega | grind) | (exfalso; first | omega | grind)) (fAgg1 (by first | rfl | exact fI (by first | omega | grind) | (exfalso; first | omega | grind)) (fAgg1 (by first | rfl | exact fI (by first | omega | grind) | (exfalso; first | omega | grind)) (rfl)))))), weakH_box (boxEq (by first | rfl | (rw [e]; done) | (rw [e]; rfl) | (simp_all; done))) rfl (weakH_none _), refsIn_ok rfl⟩
                    case hR =>
                      exact ⟨⟨rfl, by dsimp only; omega, by dsimp only; omega⟩, by omega⟩
      · refine an_k (listed' := #[true, false, false, true, true, false, false, false, false]) rfl rfl rfl (k_callR [(1000000, 1000000)] (D_spec_l00Src_pick cs _ _ _ hc hb (by omega) (by omega)) rfl (rfl) (rfl) ⟨rfl, trivial⟩ rfl (by rintro ⟨v72, a72, s72⟩ ⟨hx72_0, hx72_1⟩; exact ⟨⟨rfl, rfl, trivial⟩, rfl⟩) rfl rfl ?_)
        rintro ⟨v72, a72, s72⟩ ⟨hx72_0, hx72_1⟩
        refine an_step [1, 5] (by kernel_rfl) rfl ?_
        refine ⟨?_, ?_, trivial⟩
        · refine an_q (listed' := #[true, true, false, true, true, false, false, false, false]) rfl rfl rfl (q_load tA2 rfl ?_)
          refine an_step [2, 5] (by kernel_rfl) rfl ?_
          refine ⟨?_, ?_, trivial⟩
          · refine an_q (listed' := #[true, true, true, true, true, false, false, false, false]) rfl rfl rfl (q_int rfl rfl ?_)
            intro n73 hn73
            replace hn73 := in64 hn73 (by omega) (by omega)
            refine an_step [5] (by kernel_rfl) rfl ?_
            refine ⟨?_, trivial⟩
            · refine an_q (listed' := #[true, true, true, true, true, true, false, false, false]) rfl rfl rfl (q_int rfl rfl ?_)
              intro n74 hn74
              replace hn74 := in64 hn74 (by omega) (by omega)
              refine an_step [6] (by kernel_rfl) rfl ?_
              refine ⟨?_, trivial⟩
              · refine an_q (listed' := #[true, true, true, true, true, true, true, false, false]) rfl rfl rfl (q_int rfl rfl ?_)
                intro n75 hn75
                replace hn75 := in64 hn75 (by omega) (by omega)
                refine an_step [7] (by kernel_rfl) rfl ?_
                refine ⟨?_, trivial⟩
                · refine an_q (listed' := #[true, true, true, true, true, true, true, true, false]) rfl rfl rfl (q_fieldAddrP fO27_4 rfl rfl ?_)
                  refine an_step [8] (by kernel_rfl) rfl ?_
                  refine ⟨?_, trivial⟩
                  · refine an_k (listed' := #[true, true, true, true, true, true, true, true, true]) rfl rfl rfl (k_store sz2 rfl (by conv => lhs; whnf) rfl rfl rfl (Nat.le_of_ble_eq_true rfl) rfl ?_)
                    refine an_end (by kernel_rfl) (hK11 _ ?_); clear hK11
                    refine good_seq fun K76 hK76 => ?_
                    refine good_region rfl ?_
                    refine ev_q rfl (q_loadA tA27 rfl rfl rfl ?_)
                    refine ev_k rfl (k_store sz27 rfl (by conv => lhs; whnf) rfl rfl rfl (Nat.le_of_ble_eq_true rfl) rfl ?_)
                    refine ev_nil (hK76 _ ?_); clear hK76
                    refine good_ret ?_
                    repeat (first | refine thenQ_ret ?_ | refine blockQ_ret ?_)
                    refine ex_3 (v := ⟨nm, v3, n6, n10, n75⟩) (a := a72) (b := s72) ?hF ?hR
                    case hF =>
                      refine fx_cell rfl tA27 rfl rfl rfl ?_
                      exact ⟨_, conv_eq (by first | rfl | exact fAgg1 (by first | rfl | simp_all) (fAgg1 (by first | rfl | exact fI (by first | omega | grind) | (exfalso; first | omega | grind)) (fAgg1 (by first | rfl | exact fI (by first | omega | grind) | (exfalso; first | omega | grind)) (fAgg1 (by first | rfl | exact fI (by first | omega | grind) | (exfalso; first | omega | grind)) (fAgg1 (by first | rfl | exact fI (by first | omega | grind) | (exfalso; first | omega | grind)) (rfl)))))), weakH_box (boxEq (by first | rfl | (rw [e]; done) | (rw [e]; rfl) | (simp_all; done))) rfl (weakH_none _), refsIn_ok rfl⟩
                    case hR =>
                      exact ⟨⟨rfl, by dsimp only; omega, by dsimp only; omega⟩, by omega⟩
          · refine an_q (listed' := #[true, true, false, true, true, true, false, false, false]) rfl rfl rfl (q_int rfl rfl ?_)
            intro n77 hn77
            replace hn77 := in64 hn77 (by omega) (by omega)
            refine an_step [2] (by kernel_rfl) rfl ?_
            refine ⟨?_, trivial⟩
            · refine an_q (listed' := #[true, true, true, true, true, true, false, false, false]) rfl rfl rfl (q_int rfl rfl ?_)
              intro n78 hn78
              replace hn78 := in64 hn78 (by omega) (by omega)
              refine an_step [6] (by kernel_rfl) rfl ?_
              refine ⟨?_, trivial⟩
              · refine an_q (listed' := #[true, true, true, true, true, true, true, false, false]) rfl rfl rfl (q_int rfl rfl ?_)
                intro n79 hn79
                replace hn79 := in64 hn79 (by omega) (by omega)
                refine an_step [7] (by kernel_rfl) rfl ?_
                refine ⟨?_, trivial⟩
                · refine an_q (listed' := #[true, true, true, true, true, true, true, true, false]) rfl rfl rfl (q_fieldAddrP fO27_4 rfl rfl ?_)
                  refine an_step [8] (by kernel_rfl) rfl ?_
                  refine ⟨?_, trivial⟩
                  · refine an_k (listed' := #[true, true, true, true, true, true, true, true, true]) rfl rfl rfl (k_store sz2 rfl (by conv => lhs; whnf) rfl rfl rfl (Nat.le_of_ble_eq_true rfl) rfl ?_)
                    refine an_end (by kernel_rfl) (hK11 _ ?_); clear hK11
                    refine good_seq fun K80 hK80 => ?_
                    refine good_region rfl ?_
                    refine ev_q rfl (q_loadA tA27 rfl rfl rfl ?_)
                    refine ev_k rfl (k_store sz27 rfl (by conv => lhs; whnf) rfl rfl rfl (Nat.le_of_ble_eq_true rfl) rfl ?_)
                    refine ev_nil (hK80 _ ?_); clear hK80
                    refine good_ret ?_
                    repeat (first | refine thenQ_ret ?_ | refine blockQ_ret ?_)
                    refine ex_3 (v := ⟨nm, v3, n6, n10, n79⟩) (a := a72) (b := s72) ?hF ?hR
                    case hF =>
                      refine fx_cell rfl tA27 rfl rfl rfl ?_
                      exact ⟨_, conv_eq (by first | rfl | exact fAgg1 (by first | rfl | simp_all) (fAgg1 (by first | rfl | exact fI (by first | omega | grind) | (exfalso; first | omega | grind)) (fAgg1 (by first | rfl | exact fI (by first | omega | grind) | (exfalso; first | omega | grind)) (fAgg1 (by first | rfl | exact fI (by first | omega | grind) | (exfalso; first | omega | grind)) (fAgg1 (by first | rfl | exact fI (by first | omega | grind) | (exfalso; first | omega | grind)) (rfl)))))), weakH_box (boxEq (by first | rfl | (rw [e]; done) | (rw [e]; rfl) | (simp_all; done))) rfl (weakH_none _), refsIn_ok rfl⟩
                    case hR =>
                      exact ⟨⟨rfl, by dsimp only; omega, by dsimp only; omega⟩, by omega⟩
        · refine an_q (listed' := #[true, false, false, true, true, true, false, false, false]) rfl rfl rfl (q_int rfl rfl ?_)
          intro n81 hn81
          replace hn81 := in64 hn81 (by omega) (by omega)
          refine an_step [1] (by kernel_rfl) rfl ?_
          refine ⟨?_, trivial⟩
          · refine an_q (listed' := #[true, true, false, true, true, true, false, false, false]) rfl rfl rfl (q_load tA2 rfl ?_)
            refine an_step [2] (by kernel_rfl) rfl ?_
            refine ⟨?_, trivial⟩
            · refine an_q (listed' := #[true, true, true, true, true, true, false, false, false]) rfl rfl rfl (q_int rfl rfl ?_)
              intro n82 hn82
              replace hn82 := in64 hn82 (by omega) (by omega)
              refine an_step [6] (by kernel_rfl) rfl ?_
              refine ⟨?_, trivial⟩
              · refine an_q (listed' := #[true, true, true, true, true, true, true, false, false]) rfl rfl rfl (q_int rfl rfl ?_)
                intro n83 hn83
                replace hn83 := in64 hn83 (by omega) (by omega)
                refine an_step [7] (by kernel_rfl) rfl ?_
                refine ⟨?_, trivial⟩
                · refine an_q (listed' := #[true, true, true, true, true, true, true, true, false]) rfl rfl rfl (q_fieldAddrP fO27_4 rfl rfl ?_)
                  refine an_step [8] (by kernel_rfl) rfl ?_
                  refine ⟨?_, trivial⟩
                  · refine an_k (listed' := #[true, true, true, true, true, true, true, true, true]) rfl rfl rfl (k_store sz2 rfl (by conv => lhs; whnf) rfl rfl rfl (Nat.le_of_ble_eq_true rfl) rfl ?_)
                    refine an_end (by kernel_rfl) (hK11 _ ?_); clear hK11
                    refine good_seq fun K84 hK84 => ?_
                    refine good_region rfl ?_
                    refine ev_q rfl (q_loadA tA27 rfl rfl rfl ?_)
                    refine ev_k rfl (k_store sz27 rfl (by conv => lhs; whnf) rfl rfl rfl (Nat.le_of_ble_eq_true rfl) rfl ?_)
                    refine ev_nil (hK84 _ ?_); clear hK84
                    refine good_ret ?_
                    repeat (first | refine thenQ_ret ?_ | refine blockQ_ret ?_)
                    refine ex_3 (v := ⟨nm, v3, n6, n10, n83⟩) (a := a72) (b := s72) ?hF ?hR
                    case hF =>
                      refine fx_cell rfl tA27 rfl rfl rfl ?_
                      exact ⟨_, conv_eq (by first | rfl | exact fAgg1 (by first | rfl | simp_all) (fAgg1 (by first | rfl | exact fI (by first | omega | grind) | (exfalso; first | omega | grind)) (fAgg1 (by first | rfl | exact fI (by first | omega | grind) | (exfalso; first | omega | grind)) (fAgg1 (by first | rfl | exact fI (by first | omega | grind) | (exfalso; first | omega | grind)) (fAgg1 (by first | rfl | exact fI (by first | omega | grind) | (exfalso; first | omega | grind)) (rfl)))))), weakH_box (boxEq (by first | rfl | (rw [e]; done) | (rw [e]; rfl) | (simp_all; done))) rfl (weakH_none _), refsIn_ok rfl⟩
                    case hR =>
                      exact ⟨⟨rfl, by dsimp only; omega, by dsimp only; omega⟩, by omega⟩
    · refine an_k (listed' := #[false, false, false, true, true, false, false, false, false]) rfl rfl rfl (k_callR [(1000000, 1000000)] (D_spec_l00Src_pick cs _ _ _ hc hb (by omega) (by omega)) rfl (rfl) (rfl) ⟨rfl, trivial⟩ rfl (by rintro ⟨v85, a85, s85⟩ ⟨hx85_0, hx85_1⟩; exact ⟨⟨rfl, rfl, trivial⟩, rfl⟩) rfl rfl ?_)
      rintro ⟨v85, a85, s85⟩ ⟨hx85_0, hx85_1⟩
      refine an_step [0, 5] (by kernel_rfl) rfl ?_
      refine ⟨?_, ?_, trivial⟩
      · refine an_q (listed' := #[true, false, false, true, true, false, false, false, false]) rfl rfl rfl (q_fieldAddrP fO27_3 rfl rfl ?_)
        refine an_step [1, 5] (by kernel_rfl) rfl ?_
        refine ⟨?_, ?_, trivial⟩
        · refine an_q (listed' := #[true, true, false, true, true, false, false, false, false]) rfl rfl rfl (q_load tA2 rfl ?_)
          refine an_step [2, 5] (by kernel_rfl) rfl ?_
          refine ⟨?_, ?_, trivial⟩
          · refine an_q (listed' := #[true, true, true, true, true, false, false, false, false]) rfl rfl rfl (q_int rfl rfl ?_)
            intro n86 hn86
            replace hn86 := in64 hn86 (by omega) (by omega)
            refine an_step [5] (by kernel_rfl) rfl ?_
            refine ⟨?_, trivial⟩
            · refine an_q (listed' := #[true, true, true, true, true, true, false, false, false]) rfl rfl rfl (q_int rfl rfl ?_)
              intro n87 hn87
              replace hn87 := in64 hn87 (by omega) (by omega)
              refine an_step [6] (by kernel_rfl) rfl ?_
              refine ⟨?_, trivial⟩
              · refine an_q (listed' := #[true, true, true, true, true, true, true, false, false]) rfl rfl rfl (q_int rfl rfl ?_)
                intro n88 hn88
                replace hn88 := in64 hn88 (by omega) (by omega)
                refine an_step [7] (by kernel_rfl) rfl ?_
                refine ⟨?_, trivial⟩
                · refine an_q (listed' := #[true, true, true, true, true, true, true, true, false]) rfl rfl rfl (q_fieldAddrP fO27_4 rfl rfl ?_)
                  refine an_step [8] (by kernel_rfl) rfl ?_
                  refine ⟨?_, trivial⟩
                  · refine an_k (listed' := #[true, true, true, true, true, true, true, true, true]) rfl rfl rfl (k_store sz2 rfl (by conv => lhs; whnf) rfl rfl rfl (Nat.le_of_ble_eq_true rfl) rfl ?_)
                    refine an_end (by kernel_rfl) (hK11 _ ?_); clear hK11
                    refine good_seq fun K89 hK89 => ?_
                    refine good_region rfl ?_
                    refine ev_q rfl (q_loadA tA27 rfl rfl rfl ?_)
                    refine ev_k rfl (k_store sz27 rfl (by conv => lhs; whnf) rfl rfl rfl (Nat.le_of_ble_eq_true rfl) rfl ?_)
                    refine ev_nil (hK89 _ ?_); clear hK89
                    refine good_ret ?_
                    repeat (first | refine thenQ_ret ?_ | refine blockQ_ret ?_)
                    refine ex_3 (v := ⟨nm, v3, n6, n10, n88⟩) (a := a85) (b := s85) ?hF ?hR
                    case hF =>
                      refine fx_cell rfl tA27 rfl rfl rfl ?_
                      exact ⟨_, conv_eq (by first | rfl | exact fAgg1 (by first | rfl | simp_all) (fAgg1 (by first | rfl | exact fI (by first | omega | grind) | (exfalso; first | omega | grind)) (fAgg1 (by first | rfl | exact fI (by first | omega | grind) | (exfalso; first | omega | grind)) (fAgg1 (by first | rfl | exact fI (by first | omega | grind) | (exfalso; first | omega | grind)) (fAgg1 (by first | rfl | exact fI (by first | omega | grind) | (exfalso; first | omega | grind)) (rfl)))))), weakH_box (boxEq (by first | rfl | (rw [e]; done) | (rw [e]; rfl) | (simp_all; done))) rfl (weakH_none _), refsIn_ok rfl⟩
                    case hR =>
                      exact ⟨⟨rfl, by dsimp only; omega, by dsimp only; omega⟩, by omega⟩
          · refine an_q (listed' := #[true, true, false, true, true, true, false, false, false]) rfl rfl rfl (q_int rfl rfl ?_)
            intro n90 hn90
            replace hn90 := in64 hn90 (by omega) (by omega)
            refine an_step [2] (by kernel_rfl) rfl ?_
            refine ⟨?_, trivial⟩
            · refine an_q (listed' := #[true, true, true, true, true, true, false, false, false]) rfl rfl rfl (q_int rfl rfl ?_)
              intro n91 hn91
              replace hn91 := in64 hn91 (by omega) (by omega)
              refine an_step [6] (by kernel_rfl) rfl ?_
              refine ⟨?_, trivial⟩
              · refine an_q (listed' := #[true, true, true, true, true, true, true, false, false]) rfl rfl rfl (q_int rfl rfl ?_)
                intro n92 hn92
                replace hn92 := in64 hn92 (by omega) (by omega)
                refine an_step [7] (by kernel_rfl) rfl ?_
                refine ⟨?_, trivial⟩
                · refine an_q (listed' := #[true, true, true, true, true, true, true, true, false]) rfl rfl rfl (q_fieldAddrP fO27_4 rfl rfl ?_)
                  refine an_step [8] (by kernel_rfl) rfl ?_
                  refine ⟨?_, trivial⟩
                  · refine an_k (listed' := #[true, true, true, true, true, true, true, true, true]) rfl rfl rfl (k_store sz2 rfl (by conv => lhs; whnf) rfl rfl rfl (Nat.le_of_ble_eq_true rfl) rfl ?_)
                    refine an_end (by kernel_rfl) (hK11 _ ?_); clear hK11
                    refine good_seq fun K93 hK93 => ?_
                    refine good_region rfl ?_
                    refine ev_q rfl (q_loadA tA27 rfl rfl rfl ?_)
                    refine ev_k rfl (k_store sz27 rfl (by conv => lhs; whnf) rfl rfl rfl (Nat.le_of_ble_eq_true rfl) rfl ?_)
                    refine ev_nil (hK93 _ ?_); clear hK93
                    refine good_ret ?_
                    repeat (first | refine thenQ_ret ?_ | refine blockQ_ret ?_)
                    refine ex_3 (v := ⟨nm, v3, n6, n10, n92⟩) (a := a85) (b := s85) ?hF ?hR
                    case hF =>
                      refine fx_cell rfl tA27 rfl rfl rfl ?_
                      exact ⟨_, conv_eq (by first | rfl | exact fAgg1 (by first | rfl | simp_all) (fAgg1 (by first | rfl | exact fI (by first | omega | grind) | (exfalso; first | omega | grind)) (fAgg1 (by first | rfl | exact fI (by first | omega | grind) | (exfalso; first | omega | grind)) (fAgg1 (by first | rfl | exact fI (by first | omega | grind) | (exfalso; first | omega | grind)) (fAgg1 (by first | rfl | exact fI (by first | omega | grind) | (exfalso; first | omega | grind)) (rfl)))))), weakH_box (boxEq (by first | rfl | (rw [e]; done) | (rw [e]; rfl) | (simp_all; done))) rfl (weakH_none _), refsIn_ok rfl⟩
                    case hR =>
                      exact ⟨⟨rfl, by dsimp only; omega, by dsimp only; omega⟩, by omega⟩
        · refine an_q (listed' := #[true, false, false, true, true, true, false, false, false]) rfl rfl rfl (q_int rfl rfl ?_)
          intro n94 hn94
          replace hn94 := in64 hn94 (by omega) (by omega)
          refine an_step [1] (by kernel_rfl) rfl ?_
          refine ⟨?_, trivial⟩
          · refine an_q (listed' := #[true, true, false, true, true, true, false, false, false]) rfl rfl rfl (q_load tA2 rfl ?_)
            refine an_step [2] (by kernel_rfl) rfl ?_
            refine ⟨?_, trivial⟩
            · refine an_q (listed' := #[true, true, true, true, true, true, false, false, false]) rfl rfl rfl (q_int rfl rfl ?_)
              intro n95 hn95
              replace hn95 := in64 hn95 (by omega) (by omega)
              refine an_step [6] (by kernel_rfl) rfl ?_
              refine ⟨?_, trivial⟩
              · refine an_q (listed' := #[true, true, true, true, true, true, true, false, false]) rfl rfl rfl (q_int rfl rfl ?_)
                intro n96 hn96
                replace hn96 := in64 hn96 (by omega) (by omega)
                refine an_step [7] (by kernel_rfl) rfl ?_
                refine ⟨?_, trivial⟩
                · refine an_q (listed' := #[true, true, true, true, true, true, true, true, false]) rfl rfl rfl (q_fieldAddrP fO27_4 rfl rfl ?_)
                  refine an_step [8] (by kernel_rfl) rfl ?_
                  refine ⟨?_, trivial⟩
                  · refine an_k (listed' := #[true, true, true, true, true, true, true, true, true]) rfl rfl rfl (k_store sz2 rfl (by conv => lhs; whnf) rfl rfl rfl (Nat.le_of_ble_eq_true rfl) rfl ?_)
                    refine an_end (by kernel_rfl) (hK11 _ ?_); clear hK11
                    refine good_seq fun K97 hK97 => ?_
                    refine good_region rfl ?_
                    refine ev_q rfl (q_loadA tA27 rfl rfl rfl ?_)
                    refine ev_k rfl (k_store sz27 rfl (by conv => lhs; whnf) rfl rfl rfl (Nat.le_of_ble_eq_true rfl) rfl ?_)
                    refine ev_nil (hK97 _ ?_); clear hK97
                    refine good_ret ?_
                    repeat (first | refine thenQ_ret ?_ | refine blockQ_ret ?_)
                    refine ex_3 (v := ⟨nm, v3, n6, n10, n96⟩) (a := a85) (b := s85) ?hF ?hR
                    case hF =>
                      refine fx_cell rfl tA27 rfl rfl rfl ?_
                      exact ⟨_, conv_eq (by first | rfl | exact fAgg1 (by first | rfl | simp_all) (fAgg1 (by first | rfl | exact fI (by first | omega | grind) | (exfalso; first | omega | grind)) (fAgg1 (by first | rfl | exact fI (by first | omega | grind) | (exfalso; first | omega | grind)) (fAgg1 (by first | rfl | exact fI (by first | omega | grind) | (exfalso; first | omega | grind)) (fAgg1 (by first | rfl | exact fI (by first | omega | grind) | (exfalso; first | omega | grind)) (rfl)))))), weakH_box (boxEq (by first | rfl | (rw [e]; done) | (rw [e]; rfl) | (simp_all; done))) rfl (weakH_none _), refsIn_ok rfl⟩
                    case hR =>
                      exact ⟨⟨rfl, by dsimp only; omega, by dsimp only; omega⟩, by omega⟩
      · refine an_q (listed' := #[false, false, false, true, true, true, false, false, false]) rfl rfl rfl (q_int rfl rfl ?_)
        intro n98 hn98
        replace hn98 := in64 hn98 (by omega) (by omega)
        refine an_step [0] (by kernel_rfl) rfl ?_
        refine ⟨?_, trivial⟩
        · refine an_q (listed' := #[true, false, false, true, true, true, false, false, false]) rfl rfl rfl (q_fieldAddrP fO27_3 rfl rfl ?_)
          refine an_step [1] (by kernel_rfl) rfl ?_
          refine ⟨?_, trivial⟩
          · refine an_q (listed' := #[true, true, false, true, true, true, false, false, false]) rfl rfl rfl (q_load tA2 rfl ?_)
            refine an_step [2] (by kernel_rfl) rfl ?_
            refine ⟨?_, trivial⟩
            · refine an_q (listed' := #[true, true, true, true, true, true, false, false, false]) rfl rfl rfl (q_int rfl rfl ?_)
              intro n99 hn99
              replace hn99 := in64 hn99 (by omega) (by omega)
              refine an_step [6] (by kernel_rfl) rfl ?_
              refine ⟨?_, trivial⟩
              · refine an_q (listed' := #[true, true, true, true, true, true, true, false, false]) rfl rfl rfl (q_int rfl rfl ?_)
                intro n100 hn100
                replace hn100 := in64 hn100 (by omega) (by omega)
                refine an_step [7] (by kernel_rfl) rfl ?_
                refine ⟨?_, trivial⟩
                · refine an_q (listed' := #[true, true, true, true, true, true, true, true, false]) rfl rfl rfl (q_fieldAddrP fO27_4 rfl rfl ?_)
                  refine an_step [8] (by kernel_rfl) rfl ?_
                  refine ⟨?_, trivial⟩
                  · refine an_k (listed' := #[true, true, true, true, true, true, true, true, true]) rfl rfl rfl (k_store sz2 rfl (by conv => lhs; whnf) rfl rfl rfl (Nat.le_of_ble_eq_true rfl) rfl ?_)
                    refine an_end (by kernel_rfl) (hK11 _ ?_); clear hK11
                    refine good_seq fun K101 hK101 => ?_
                    refine good_region rfl ?_
                    refine ev_q rfl (q_loadA tA27 rfl rfl rfl ?_)
                    refine ev_k rfl (k_store sz27 rfl (by conv => lhs; whnf) rfl rfl rfl (Nat.le_of_ble_eq_true rfl) rfl ?_)
                    refine ev_nil (hK101 _ ?_); clear hK101
                    refine good_ret ?_
                    repeat (first | refine thenQ_ret ?_ | refine blockQ_ret ?_)
                    refine ex_3 (v := ⟨nm, v3, n6, n10, n100⟩) (a := a85) (b := s85) ?hF ?hR
                    case hF =>
                      refine fx_cell rfl tA27 rfl rfl rfl ?_
                      exact ⟨_, conv_eq (by first | rfl | exact fAgg1 (by first | rfl | simp_all) (fAgg1 (by first | rfl | exact fI (by first | omega | grind) | (exfalso; first | omega | grind)) (fAgg1 (by first | rfl | exact fI (by first | omega | grind) | (exfalso; first | omega | grind)) (fAgg1 (by first | rfl | exact fI (by first | omega | grind) | (exfalso; first | omega | grind)) (fAgg1 (by first | rfl | exact fI (by first | omega | grind) | (exfalso; first | omega | grind)) (rfl)))))), weakH_box (boxEq (by first | rfl | (rw [e]; done) | (rw [e]; rfl) | (simp_all; done))) rfl (weakH_none _), refsIn_ok rfl⟩
                    case hR =>
                      exact ⟨⟨rfl, by dsimp only; omega, by dsimp only; omega⟩, by omega⟩

-- spec.l12Bend
set_option maxRecDepth 20000 in
set_option maxHeartbeats 2000000 in
theorem D_spec_l12Bend (cs : List Int) (a s : Int) (p : Sb) (hc : cs.length ≤ 17592186044416) (hb : byteL cs) (ha : 0 ≤ a ∧ a ≤ 3999999999999999996) (hp : -1000000000 ≤ p.re ∧ p.re ≤ 1000000000) : DenXR Try.prog 74 [(1000000, .box 81 (src cs a s))] [.ptr 1000000 0, .agg [.s (.string p.id), .s (.int .i64 (p.nd)), .s (.int .i64 (p.tr)), .s (.int .i64 (p.su)), .s (.int .i64 (p.re))]] (τ := Sb × Int × Int) (fun (v, a1, s1) => (v.id = p.id) ∧ (a ≤ a1 ∧ a1 ≤ a + 4)) (fun (v, a1, s1) => [(1000000, .box 81 (src cs a1 s1))]) (fun (v, a1, s1) => .agg [.s (.string v.id), .s (.int .i64 (v.nd)), .s (.int .i64 (v.tr)), .s (.int .i64 (v.su)), .s (.int .i64 (v.re))]) := by
  refine denXR_of_good Try.func74 (by decide) rfl (Nat.le_of_ble_eq_true rfl) (Nat.le_of_ble_eq_true rfl) rfl ?_
  refine good_seq fun K1 hK1 => ?_
  refine good_region rfl ?_
  refine ev_k rfl (k_box (by conv => lhs; whnf) rfl rfl rfl ?_)
  refine ev_k rfl (k_alloc zA27 rfl ?_)
  refine ev_nil (hK1 _ ?_); clear hK1
  refine good_seq fun K2 hK2 => ?_
  refine good_seq fun K3 hK3 => ?_
  refine good_region rfl ?_
  refine ev_q rfl (q_move (by conv => lhs; whnf) ?_)
  refine ev_k rfl (k_callR [(1000000, 1000000)] (D_spec_l00Src_pick cs _ _ _ hc hb (by omega) (by omega)) rfl (rfl) (rfl) ⟨rfl, trivial⟩ rfl (by rintro ⟨v4, a4, s4⟩ ⟨hx4_0, hx4_1⟩; exact ⟨⟨rfl, rfl, trivial⟩, rfl⟩) rfl rfl ?_)
  rintro ⟨v4, a4, s4⟩ ⟨hx4_0, hx4_1⟩
  refine ev_nil (hK3 _ ?_); clear hK3
  refine good_block ?_
  refine good_seq fun K5 hK5 => ?_
  refine good_region rfl ?_
  refine ev_q rfl (q_int rfl rfl ?_)
  intro b6 hb6; cases b6
  · replace hb6 := eqF hb6
    refine ev_q rfl (q_assign (by conv => lhs; whnf) ?_)
    refine ev_nil (hK5 _ ?_); clear hK5
    refine good_condF rfl ?_
    refine good_seq fun K7 hK7 => ?_
    refine good_region rfl ?_
    refine ev_q rfl (q_int rfl rfl ?_)
    intro b8 hb8; cases b8
    · replace hb8 := eqF hb8
      refine ev_q rfl (q_assign (by conv => lhs; whnf) ?_)
      refine ev_nil (hK7 _ ?_); clear hK7
      refine good_condF rfl ?_
      refine good_seq fun K9 hK9 => ?_
      refine good_region rfl ?_
      refine ev_q rfl (q_int rfl rfl ?_)
      intro b10 hb10; cases b10
      · replace hb10 := eqF hb10
        refine ev_q rfl (q_assign (by conv => lhs; whnf) ?_)
        refine ev_nil (hK9 _ ?_); clear hK9
        refine good_condF rfl ?_
        refine good_seq fun K11 hK11 => ?_
        refine good_region rfl ?_
        refine ev_q rfl (q_int rfl rfl ?_)
        intro b12 hb12; cases b12
        · replace hb12 := eqF hb12
          refine ev_q rfl (q_assign (by conv => lhs; whnf) ?_)
          refine ev_nil (hK11 _ ?_); clear hK11
          refine good_condF rfl ?_
          refine good_skip (hK2 _ ?_); clear hK2
          refine good_seq fun K13 hK13 => ?_
          refine good_region rfl ?_
          refine ev_q rfl (q_loadA tA27 rfl rfl rfl ?_)
          refine ev_k rfl (k_store sz27 rfl (by conv => lhs; whnf) rfl rfl rfl (Nat.le_of_ble_eq_true rfl) rfl ?_)
          refine ev_nil (hK13 _ ?_); clear hK13
          refine good_ret ?_
          repeat (first | refine thenQ_ret ?_ | refine blockQ_ret ?_)
          refine ex_3 (v := p) (a := a4) (b := s4) ?hF ?hR
          case hF =>
            refine fx_cell rfl tA27 rfl rfl rfl ?_
            exact ⟨_, conv_eq (by first | rfl | exact fAgg1 (by first | rfl | simp_all) (fAgg1 (by first | rfl | exact fI (by first | omega | grind) | (exfalso; first | omega | grind)) (fAgg1 (by first | rfl | exact fI (by first | omega | grind) | (exfalso; first | omega | grind)) (fAgg1 (by first | rfl | exact fI (by first | omega | grind) | (exfalso; first | omega | grind)) (fAgg1 (by first | rfl | exact fI (by first | omega | grind) | (exfalso; first | omega | grind)) (rfl)))))), weakH_box (boxEq (by first | rfl | (rw [e]; done) | (rw [e]; rfl) | (simp_all; done))) rfl (weakH_none _), refsIn_ok rfl⟩
          case hR =>
            exact ⟨rfl, by omega⟩
        · replace hb12 := eqT hb12
          refine ev_q rfl (q_assign (by conv => lhs; whnf) ?_)
          refine ev_nil (hK11 _ ?_); clear hK11
          refine good_condT rfl ?_
          refine good_region rfl ?_
          refine ev_q rfl (q_move (by conv => lhs; whnf) ?_)
          refine ev_k rfl (k_lit tE37 zA2 rfl rfl (by decide) (by decide) rfl rfl rfl ?_)
          refine ev_k rfl (k_callR [(1000000, 1000000), (1000001, 33)] (D_spec_l00Src_among cs _ _ [(-1), 0] hc hb (by omega) (by decide)) rfl (rfl) (rfl) ⟨rfl, ⟨rfl, trivial⟩⟩ rfl (by rintro ⟨v14, a14, s14⟩ ⟨hx14_0, hx14_1⟩; exact ⟨⟨rfl, rfl, ⟨rfl, ⟨rfl, rfl, by first | exact Nat.le_refl _ | (simp; done) | (simp; omega)⟩, trivial⟩⟩, rfl⟩) rfl rfl ?_)
          rintro ⟨v14, a14, s14⟩ ⟨hx14_0, hx14_1⟩
          simp only [List.mem_cons, List.not_mem_nil, or_false] at hx14_0
          refine ev_q rfl (q_fieldAddrP fO27_4 rfl rfl ?_)
          refine ev_k rfl (k_store sz2 rfl (by conv => lhs; whnf) rfl rfl rfl (Nat.le_of_ble_eq_true rfl) rfl ?_)
          refine ev_nil (hK2 _ ?_); clear hK2
          refine good_seq fun K15 hK15 => ?_
          refine good_region rfl ?_
          refine ev_q rfl (q_loadA tA27 rfl rfl rfl ?_)
          refine ev_k rfl (k_store sz27 rfl (by conv => lhs; whnf) rfl rfl rfl (Nat.le_of_ble_eq_true rfl) rfl ?_)
          refine ev_nil (hK15 _ ?_); clear hK15
          refine good_ret ?_
          repeat (first | refine thenQ_ret ?_ | refine blockQ_ret ?_)
          refine ex_3 (v := ⟨p.id, p.nd, p.tr, p.su, v14⟩) (a := a14) (b := s14) ?hF ?hR
          case hF =>
            refine fx_cell rfl tA27 rfl rfl rfl ?_
            exact ⟨_, conv_eq (by first | rfl | exact fAgg1 (by first | rfl | simp_all) (fAgg1 (by first | rfl | exact fI (by first | omega | grind) | (exfalso; first | omega | grind)) (fAgg1 (by first | rfl | exact fI (by first | omega | grind) | (exfalso; first | omega | grind)) (fAgg1 (by first | rfl | exact fI (by first | omega | grind) | (exfalso; first | omega | grind)) (fAgg1 (by first | rfl | exact fI (by first | omega | grind) | (exfalso; first | omega | grind)) (rfl)))))), weakH_box (boxEq (by first | rfl | (rw [e]; done) | (rw [e]; rfl) | (simp_all; done))) rfl (weakH_none _), refsIn_ok rfl⟩
          case hR =>
            exact ⟨rfl, by omega⟩
      · replace hb10 := eqT hb10
        refine ev_q rfl (q_assign (by conv => lhs; whnf) ?_)
        refine ev_nil (hK9 _ ?_); clear hK9
        refine good_condT rfl ?_
        refine good_region rfl ?_
        refine ev_q rfl (q_move (by conv => lhs; whnf) ?_)
        refine ev_q rfl (q_fieldAddrP fO27_4 rfl rfl ?_)
        refine ev_q rfl (q_load tA2 rfl ?_)
        refine ev_q rfl (q_fieldAddrP fO27_4 rfl rfl ?_)
        refine ev_q rfl (q_load tA2 rfl ?_)
        refine ev_q rfl (q_int rfl rfl ?_)
        intro n16 hn16
        replace hn16 := in64 hn16 (by omega) (by omega)
        refine ev_k rfl (k_lit tE37 zA2 rfl rfl (by decide) (by decide) rfl rfl rfl ?_)
        refine ev_k rfl (k_callR [(1000000, 1000000), (1000001, 27)] (D_spec_l00Src_among cs _ _ [18000, 18001, p.re, n16] hc hb (by omega) (by simp)) rfl (rfl) (rfl) ⟨rfl, ⟨rfl, trivial⟩⟩ rfl (by rintro ⟨v17, a17, s17⟩ ⟨hx17_0, hx17_1⟩; exact ⟨⟨rfl, rfl, ⟨rfl, ⟨rfl, rfl, by first | exact Nat.le_refl _ | (simp; done) | (simp; omega)⟩, trivial⟩⟩, rfl⟩) rfl rfl ?_)
        rintro ⟨v17, a17, s17⟩ ⟨hx17_0, hx17_1⟩
        refine ev_q rfl (q_fieldAddrP fO27_3 rfl rfl ?_)
        refine ev_k rfl (k_store sz2 rfl (by conv => lhs; whnf) rfl rfl rfl (Nat.le_of_ble_eq_true rfl) rfl ?_)
        refine ev_nil (hK2 _ ?_); clear hK2
        refine good_seq fun K18 hK18 => ?_
        refine good_region rfl ?_
        refine ev_q rfl (q_loadA tA27 rfl rfl rfl ?_)
        refine ev_k rfl (k_store sz27 rfl (by conv => lhs; whnf) rfl rfl rfl (Nat.le_of_ble_eq_true rfl) rfl ?_)
        refine ev_nil (hK18 _ ?_); clear hK18
        refine good_ret ?_
        repeat (first | refine thenQ_ret ?_ | refine blockQ_ret ?_)
        refine ex_3 (v := ⟨p.id, p.nd, p.tr, v17, p.re⟩) (a := a17) (b := s17) ?hF ?hR
        case hF =>
          refine fx_cell rfl tA27 rfl rfl rfl ?_
          exact ⟨_, conv_eq (by first | rfl | exact fAgg1 (by first | rfl | simp_all) (fAgg1 (by first | rfl | exact fI (by first | omega | grind) | (exfalso; first | omega | grind)) (fAgg1 (by first | rfl | exact fI (by first | omega | grind) | (exfalso; first | omega | grind)) (fAgg1 (by first | rfl | exact fI (by first | omega | grind) | (exfalso; first | omega | grind)) (fAgg1 (by first | rfl | exact fI (by first | omega | grind) | (exfalso; first | omega | grind)) (rfl)))))), weakH_box (boxEq (by first | rfl | (rw [e]; done) | (rw [e]; rfl) | (simp_all; done))) rfl (weakH_none _), refsIn_ok rfl⟩
        case hR =>
          exact ⟨rfl, by omega⟩
    · replace hb8 := eqT hb8
      refine ev_q rfl (q_assign (by conv => lhs; whnf) ?_)
      refine ev_nil (hK7 _ ?_); clear hK7
      refine good_condT rfl ?_
      refine good_region rfl ?_
      refine ev_q rfl (q_move (by conv => lhs; whnf) ?_)
      refine ev_k rfl (k_lit tE37 zA2 rfl rfl (by decide) (by decide) rfl rfl rfl ?_)
      refine ev_k rfl (k_callR [(1000000, 1000000), (1000001, 16)] (D_spec_l00Src_among cs _ _ [0, 1, 100000, 100001] hc hb (by omega) (by decide)) rfl (rfl) (rfl) ⟨rfl, ⟨rfl, trivial⟩⟩ rfl (by rintro ⟨v19, a19, s19⟩ ⟨hx19_0, hx19_1⟩; exact ⟨⟨rfl, rfl, ⟨rfl, ⟨rfl, rfl, by first | exact Nat.le_refl _ | (simp; done) | (simp; omega)⟩, trivial⟩⟩, rfl⟩) rfl rfl ?_)
      rintro ⟨v19, a19, s19⟩ ⟨hx19_0, hx19_1⟩
      simp only [List.mem_cons, List.not_mem_nil, or_false] at hx19_0
      refine ev_q rfl (q_fieldAddrP fO27_2 rfl rfl ?_)
      refine ev_k rfl (k_store sz2 rfl (by conv => lhs; whnf) rfl rfl rfl (Nat.le_of_ble_eq_true rfl) rfl ?_)
      refine ev_nil (hK2 _ ?_); clear hK2
      refine good_seq fun K20 hK20 => ?_
      refine good_region rfl ?_
      refine ev_q rfl (q_loadA tA27 rfl rfl rfl ?_)
      refine ev_k rfl (k_store sz27 rfl (by conv => lhs; whnf) rfl rfl rfl (Nat.le_of_ble_eq_true rfl) rfl ?_)
      refine ev_nil (hK20 _ ?_); clear hK20
      refine good_ret ?_
      repeat (first | refine thenQ_ret ?_ | refine blockQ_ret ?_)
      refine ex_3 (v := ⟨p.id, p.nd, v19, p.su, p.re⟩) (a := a19) (b := s19) ?hF ?hR
      case hF =>
        refine fx_cell rfl tA27 rfl rfl rfl ?_
        exact ⟨_, conv_eq (by first | rfl | exact fAgg1 (by first | rfl | simp_all) (fAgg1 (by first | rfl | exact fI (by first | omega | grind) | (exfalso; first | omega | grind)) (fAgg1 (by first | rfl | exact fI (by first | omega | grind) | (exfalso; first | omega | grind)) (fAgg1 (by first | rfl | exact fI (by first | omega | grind) | (exfalso; first | omega | grind)) (fAgg1 (by first | rfl | exact fI (by first | omega | grind) | (exfalso; first | omega | grind)) (rfl)))))), weakH_box (boxEq (by first | rfl | (rw [e]; done) | (rw [e]; rfl) | (simp_all; done))) rfl (weakH_none _), refsIn_ok rfl⟩
      case hR =>
        exact ⟨rfl, by omega⟩
  · replace hb6 := eqT hb6
    refine ev_q rfl (q_assign (by conv => lhs; whnf) ?_)
    refine ev_nil (hK5 _ ?_); clear hK5
    refine good_condT rfl ?_
    refine good_region rfl ?_
    refine ev_q rfl (q_move (by conv => lhs; whnf) ?_)
    refine ev_k rfl (k_lit tE37 zA2 rfl rfl (by decide) (by decide) rfl rfl rfl ?_)
    refine ev_k rfl (k_callR [(1000000, 1000000), (1000001, 10)] (D_spec_l00Src_among cs _ _ [(-1), 15, 16] hc hb (by omega) (by decide)) rfl (rfl) (rfl) ⟨rfl, ⟨rfl, trivial⟩⟩ rfl (by rintro ⟨v21, a21, s21⟩ ⟨hx21_0, hx21_1⟩; exact ⟨⟨rfl, rfl, ⟨rfl, ⟨rfl, rfl, by first | exact Nat.le_refl _ | (simp; done) | (simp; omega)⟩, trivial⟩⟩, rfl⟩) rfl rfl ?_)
    rintro ⟨v21, a21, s21⟩ ⟨hx21_0, hx21_1⟩
    simp only [List.mem_cons, List.not_mem_nil, or_false] at hx21_0
    refine ev_q rfl (q_fieldAddrP fO27_1 rfl rfl ?_)
    refine ev_k rfl (k_store sz2 rfl (by conv => lhs; whnf) rfl rfl rfl (Nat.le_of_ble_eq_true rfl) rfl ?_)
    refine ev_nil (hK2 _ ?_); clear hK2
    refine good_seq fun K22 hK22 => ?_
    refine good_region rfl ?_
    refine ev_q rfl (q_loadA tA27 rfl rfl rfl ?_)
    refine ev_k rfl (k_store sz27 rfl (by conv => lhs; whnf) rfl rfl rfl (Nat.le_of_ble_eq_true rfl) rfl ?_)
    refine ev_nil (hK22 _ ?_); clear hK22
    refine good_ret ?_
    repeat (first | refine thenQ_ret ?_ | refine blockQ_ret ?_)
    refine ex_3 (v := ⟨p.id, v21, p.tr, p.su, p.re⟩) (a := a21) (b := s21) ?hF ?hR
    case hF =>
      refine fx_cell rfl tA27 rfl rfl rfl ?_
      exact ⟨_, conv_eq (by first | rfl | exact fAgg1 (by first | rfl | simp_all) (fAgg1 (by first | rfl | exact fI (by first | omega | grind) | (exfalso; first | omega | grind)) (fAgg1 (by first | rfl | exact fI (by first | omega | grind) | (exfalso; first | omega | grind)) (fAgg1 (by first | rfl | exact fI (by first | omega | grind) | (exfalso; first | omega | grind)) (fAgg1 (by first | rfl | exact fI (by first | omega | grind) | (exfalso; first | omega | grind)) (rfl)))))), weakH_box (boxEq (by first | rfl | (rw [e]; done) | (rw [e]; rfl) | (simp_all; done))) rfl (weakH_none _), refsIn_ok rfl⟩
    case hR =>
      exact ⟨rfl, by omega⟩

-- spec.l12DrawPrimary
set_option maxRecDepth 20000 in
set_option maxHeartbeats 2000000 in
theorem D_spec_l12DrawPrimary (cs : List Int) (a s : Int) (hc : cs.length ≤ 17592186044416) (hb : byteL cs) (ha : 0 ≤ a ∧ a ≤ 3999999999999999996)  : DenXR Try.prog 76 [(1000000, .box 81 (src cs a s))] [.ptr 1000000 0] (τ := Int × Int × Int) (fun (v, a1, s1) => (-100000000000 ≤ v ∧ v ≤ 100000000000) ∧ (a ≤ a1 ∧ a1 ≤ a + 4)) (fun (v, a1, s1) => [(1000000, .box 81 (src cs a1 s1))]) (fun (v, a1, s1) => .s (.int .i64 v)) := by
  refine denXR_of_good Try.func76 (by decide) rfl (Nat.le_of_ble_eq_true rfl) (Nat.le_of_ble_eq_true rfl) rfl ?_
  refine good_seq fun K1 hK1 => ?_
  refine good_region rfl ?_
  refine ev_q rfl (q_assign (by conv => lhs; whnf) ?_)
  refine ev_nil (hK1 _ ?_); clear hK1
  refine good_seq fun K2 hK2 => ?_
  refine good_seq fun K3 hK3 => ?_
  refine good_region rfl ?_
  refine ev_q rfl (q_move (by conv => lhs; whnf) ?_)
  refine ev_k rfl (k_callR [(1000000, 1000000)] (D_spec_l00Src_one cs _ _ _ hc hb (by omega) (by omega)) rfl (rfl) (rfl) ⟨rfl, trivial⟩ rfl (by rintro ⟨v4, a4, s4⟩ ⟨hx4_0, hx4_1⟩; exact ⟨⟨rfl, rfl, trivial⟩, rfl⟩) rfl rfl ?_)
  rintro ⟨v4, a4, s4⟩ ⟨hx4_0, hx4_1⟩
  cases v4
  · refine ev_nil (hK3 _ ?_); clear hK3
    refine good_condF rfl ?_
    refine good_skip (hK2 _ ?_); clear hK2
    refine good_seq fun K5 hK5 => ?_
    refine good_region rfl ?_
    refine ev_q rfl (q_move (by conv => lhs; whnf) ?_)
    refine ev_k rfl (k_callR [(1000000, 1000000)] (D_spec_l00Src_pick cs _ _ _ hc hb (by omega) (by omega)) rfl (rfl) (rfl) ⟨rfl, trivial⟩ rfl (by rintro ⟨v6, a6, s6⟩ ⟨hx6_0, hx6_1⟩; exact ⟨⟨rfl, rfl, trivial⟩, rfl⟩) rfl rfl ?_)
    rintro ⟨v6, a6, s6⟩ ⟨hx6_0, hx6_1⟩
    refine ev_q rfl (q_int rfl rfl ?_)
    intro n7 hn7
    replace hn7 := in64 hn7 (by omega) (by omega)
    refine ev_q rfl (q_int rfl rfl ?_)
    intro n8 hn8
    replace hn8 := in64 hn8 (by omega) (by omega)
    refine ev_q rfl (q_assign (by conv => lhs; whnf) ?_)
    refine ev_nil (hK5 _ ?_); clear hK5
    refine good_ret ?_
    repeat (first | refine thenQ_ret ?_ | refine blockQ_ret ?_)
    apply ex_3
    case hF =>
      refine fx_tmp rfl (by conv => lhs; whnf) ?_
      exact ⟨_, conv_eq (by first | rfl | exact fI (by first | omega | grind) | (exfalso; first | omega | grind)), weakH_box (boxEq (by first | rfl | (rw [e]; done) | (rw [e]; rfl) | (simp_all; done))) rfl (weakH_none _), refsIn_ok rfl⟩
    case hR =>
      exact ⟨by omega, by omega⟩
  · refine ev_nil (hK3 _ ?_); clear hK3
    refine good_condT rfl ?_
    refine good_seq fun K9 hK9 => ?_
    refine good_region rfl ?_
    refine ev_q rfl (q_move (by conv => lhs; whnf) ?_)
    refine ev_k rfl (k_lit tE37 zA2 rfl rfl (by decide) (by decide) rfl rfl rfl ?_)
    refine ev_k rfl (k_callR [(1000000, 1000000), (1000001, 6)] (D_spec_l00Src_among cs _ _ [(-1), 0, 18000, 18001] hc hb (by omega) (by decide)) rfl (rfl) (rfl) ⟨rfl, ⟨rfl, trivial⟩⟩ rfl (by rintro ⟨v10, a10, s10⟩ ⟨hx10_0, hx10_1⟩; exact ⟨⟨rfl, rfl, ⟨rfl, ⟨rfl, rfl, by first | exact Nat.le_refl _ | (simp; done) | (simp; omega)⟩, trivial⟩⟩, rfl⟩) rfl rfl ?_)
    rintro ⟨v10, a10, s10⟩ ⟨hx10_0, hx10_1⟩
    simp only [List.mem_cons, List.not_mem_nil, or_false] at hx10_0
    refine ev_q rfl (q_assign (by conv => lhs; whnf) ?_)
    refine ev_nil (hK9 _ ?_); clear hK9
    refine good_ret ?_
    repeat (first | refine thenQ_ret ?_ | refine blockQ_ret ?_)
    clear hK2
    apply ex_3
    case hF =>
      refine fx_tmp rfl (by conv => lhs; whnf) ?_
      exact ⟨_, conv_eq (by first | rfl | exact fI (by first | omega | grind) | (exfalso; first | omega | grind)), weakH_box (boxEq (by first | rfl | (rw [e]; done) | (rw [e]; rfl) | (simp_all; done))) rfl (weakH_none _), refsIn_ok rfl⟩
    case hR =>
      exact ⟨by omega, by omega⟩

-- spec.l12DrawLoad
set_option maxRecDepth 20000 in
set_option maxHeartbeats 2000000 in
theorem D_spec_l12DrawLoad (cs : List Int) (a s : Int) (hc : cs.length ≤ 17592186044416) (hb : byteL cs) (ha : 0 ≤ a ∧ a ≤ 3999999999999999996)  : DenXR Try.prog 77 [(1000000, .box 81 (src cs a s))] [.ptr 1000000 0] (τ := Int × Int × Int) (fun (v, a1, s1) => (-100000000000 ≤ v ∧ v ≤ 100000000000) ∧ (a ≤ a1 ∧ a1 ≤ a + 4)) (fun (v, a1, s1) => [(1000000, .box 81 (src cs a1 s1))]) (fun (v, a1, s1) => .s (.int .i64 v)) := by
  refine denXR_of_good Try.func77 (by decide) rfl (Nat.le_of_ble_eq_true rfl) (Nat.le_of_ble_eq_true rfl) rfl ?_
  refine good_seq fun K1 hK1 => ?_
  refine good_region rfl ?_
  refine ev_q rfl (q_assign (by conv => lhs; whnf) ?_)
  refine ev_nil (hK1 _ ?_); clear hK1
  refine good_seq fun K2 hK2 => ?_
  refine good_seq fun K3 hK3 => ?_
  refine good_region rfl ?_
  refine ev_q rfl (q_move (by conv => lhs; whnf) ?_)
  refine ev_k rfl (k_callR [(1000000, 1000000)] (D_spec_l00Src_one cs _ _ _ hc hb (by omega) (by omega)) rfl (rfl) (rfl) ⟨rfl, trivial⟩ rfl (by rintro ⟨v4, a4, s4⟩ ⟨hx4_0, hx4_1⟩; exact ⟨⟨rfl, rfl, trivial⟩, rfl⟩) rfl rfl ?_)
  rintro ⟨v4, a4, s4⟩ ⟨hx4_0, hx4_1⟩
  cases v4
  · refine ev_nil (hK3 _ ?_); clear hK3
    refine good_condF rfl ?_
    refine good_skip (hK2 _ ?_); clear hK2
    refine good_seq fun K5 hK5 => ?_
    refine good_region rfl ?_
    refine ev_q rfl (q_move (by conv => lhs; whnf) ?_)
    refine ev_k rfl (k_callR [(1000000, 1000000)] (D_spec_l00Src_pick cs _ _ _ hc hb (by omega) (by omega)) rfl (rfl) (rfl) ⟨rfl, trivial⟩ rfl (by rintro ⟨v6, a6, s6⟩ ⟨hx6_0, hx6_1⟩; exact ⟨⟨rfl, rfl, trivial⟩, rfl⟩) rfl rfl ?_)
    rintro ⟨v6, a6, s6⟩ ⟨hx6_0, hx6_1⟩
    refine ev_q rfl (q_int rfl rfl ?_)
    intro n7 hn7
    replace hn7 := in64 hn7 (by omega) (by omega)
    refine ev_q rfl (q_assign (by conv => lhs; whnf) ?_)
    refine ev_nil (hK5 _ ?_); clear hK5
    refine good_ret ?_
    repeat (first | refine thenQ_ret ?_ | refine blockQ_ret ?_)
    apply ex_3
    case hF =>
      refine fx_tmp rfl (by conv => lhs; whnf) ?_
      exact ⟨_, conv_eq (by first | rfl | exact fI (by first | omega | grind) | (exfalso; first | omega | grind)), weakH_box (boxEq (by first | rfl | (rw [e]; done) | (rw [e]; rfl) | (simp_all; done))) rfl (weakH_none _), refsIn_ok rfl⟩
    case hR =>
      exact ⟨by omega, by omega⟩
  · refine ev_nil (hK3 _ ?_); clear hK3
    refine good_condT rfl ?_
    refine good_seq fun K8 hK8 => ?_
    refine good_region rfl ?_
    refine ev_q rfl (q_move (by conv => lhs; whnf) ?_)
    refine ev_k rfl (k_lit tE37 zA2 rfl rfl (by decide) (by decide) rfl rfl rfl ?_)
    refine ev_k rfl (k_callR [(1000000, 1000000), (1000001, 6)] (D_spec_l00Src_among cs _ _ [(-1), 0, 100000000, 100000001] hc hb (by omega) (by decide)) rfl (rfl) (rfl) ⟨rfl, ⟨rfl, trivial⟩⟩ rfl (by rintro ⟨v9, a9, s9⟩ ⟨hx9_0, hx9_1⟩; exact ⟨⟨rfl, rfl, ⟨rfl, ⟨rfl, rfl, by first | exact Nat.le_refl _ | (simp; done) | (simp; omega)⟩, trivial⟩⟩, rfl⟩) rfl rfl ?_)
    rintro ⟨v9, a9, s9⟩ ⟨hx9_0, hx9_1⟩
    simp only [List.mem_cons, List.not_mem_nil, or_false] at hx9_0
    refine ev_q rfl (q_assign (by conv => lhs; whnf) ?_)
    refine ev_nil (hK8 _ ?_); clear hK8
    refine good_ret ?_
    repeat (first | refine thenQ_ret ?_ | refine blockQ_ret ?_)
    clear hK2
    apply ex_3
    case hF =>
      refine fx_tmp rfl (by conv => lhs; whnf) ?_
      exact ⟨_, conv_eq (by first | rfl | exact fI (by first | omega | grind) | (exfalso; first | omega | grind)), weakH_box (boxEq (by first | rfl | (rw [e]; done) | (rw [e]; rfl) | (simp_all; done))) rfl (weakH_none _), refsIn_ok rfl⟩
    case hR =>
      exact ⟨by omega, by omega⟩

-- spec.l02DrawFlow
set_option maxRecDepth 20000 in
set_option maxHeartbeats 2000000 in
theorem D_spec_l02DrawFlow (cs : List Int) (a s : Int) (hc : cs.length ≤ 17592186044416) (hb : byteL cs) (ha : 0 ≤ a ∧ a ≤ 3999999999999999996)  : DenXR Try.prog 78 [(1000000, .box 81 (src cs a s))] [.ptr 1000000 0] (τ := Int × Int × Int) (fun (v, a1, s1) => (-100000000000 ≤ v ∧ v ≤ 100000000000) ∧ (a ≤ a1 ∧ a1 ≤ a + 4)) (fun (v, a1, s1) => [(1000000, .box 81 (src cs a1 s1))]) (fun (v, a1, s1) => .s (.int .i64 v)) := by
  refine denXR_of_good Try.func78 (by decide) rfl (Nat.le_of_ble_eq_true rfl) (Nat.le_of_ble_eq_true rfl) rfl ?_
  refine good_seq fun K1 hK1 => ?_
  refine good_region rfl ?_
  refine ev_q rfl (q_assign (by conv => lhs; whnf) ?_)
  refine ev_nil (hK1 _ ?_); clear hK1
  refine good_seq fun K2 hK2 => ?_
  refine good_seq fun K3 hK3 => ?_
  refine good_region rfl ?_
  refine ev_q rfl (q_move (by conv => lhs; whnf) ?_)
  refine ev_k rfl (k_callR [(1000000, 1000000)] (D_spec_l00Src_one cs _ _ _ hc hb (by omega) (by omega)) rfl (rfl) (rfl) ⟨rfl, trivial⟩ rfl (by rintro ⟨v4, a4, s4⟩ ⟨hx4_0, hx4_1⟩; exact ⟨⟨rfl, rfl, trivial⟩, rfl⟩) rfl rfl ?_)
  rintro ⟨v4, a4, s4⟩ ⟨hx4_0, hx4_1⟩
  cases v4
  · refine ev_nil (hK3 _ ?_); clear hK3
    refine good_condF rfl ?_
    refine good_skip (hK2 _ ?_); clear hK2
    refine good_seq fun K5 hK5 => ?_
    refine good_region rfl ?_
    refine ev_q rfl (q_move (by conv => lhs; whnf) ?_)
    refine ev_k rfl (k_callR [(1000000, 1000000)] (D_spec_l00Src_pick cs _ _ _ hc hb (by omega) (by omega)) rfl (rfl) (rfl) ⟨rfl, trivial⟩ rfl (by rintro ⟨v6, a6, s6⟩ ⟨hx6_0, hx6_1⟩; exact ⟨⟨rfl, rfl, trivial⟩, rfl⟩) rfl rfl ?_)
    rintro ⟨v6, a6, s6⟩ ⟨hx6_0, hx6_1⟩
    refine ev_q rfl (q_int rfl rfl ?_)
    intro n7 hn7
    replace hn7 := in64 hn7 (by omega) (by omega)
    refine ev_q rfl (q_assign (by conv => lhs; whnf) ?_)
    refine ev_nil (hK5 _ ?_); clear hK5
    refine good_ret ?_
    repeat (first | refine thenQ_ret ?_ | refine blockQ_ret ?_)
    apply ex_3
    case hF =>
      refine fx_tmp rfl (by conv => lhs; whnf) ?_
      exact ⟨_, conv_eq (by first | rfl | exact fI (by first | omega | grind) | (exfalso; first | omega | grind)), weakH_box (boxEq (by first | rfl | (rw [e]; done) | (rw [e]; rfl) | (simp_all; done))) rfl (weakH_none _), refsIn_ok rfl⟩
    case hR =>
      exact ⟨by omega, by omega⟩
  · refine ev_nil (hK3 _ ?_); clear hK3
    refine good_condT rfl ?_
    refine good_seq fun K8 hK8 => ?_
    refine good_region rfl ?_
    refine ev_q rfl (q_move (by conv => lhs; whnf) ?_)
    refine ev_k rfl (k_lit tE37 zA2 rfl rfl (by decide) (by decide) rfl rfl rfl ?_)
    refine ev_k rfl (k_callR [(1000000, 1000000), (1000001, 6)] (D_spec_l00Src_among cs _ _ [(-1), 0, 100000, 100001] hc hb (by omega) (by decide)) rfl (rfl) (rfl) ⟨rfl, ⟨rfl, trivial⟩⟩ rfl (by rintro ⟨v9, a9, s9⟩ ⟨hx9_0, hx9_1⟩; exact ⟨⟨rfl, rfl, ⟨rfl, ⟨rfl, rfl, by first | exact Nat.le_refl _ | (simp; done) | (simp; omega)⟩, trivial⟩⟩, rfl⟩) rfl rfl ?_)
    rintro ⟨v9, a9, s9⟩ ⟨hx9_0, hx9_1⟩
    simp only [List.mem_cons, List.not_mem_nil, or_false] at hx9_0
    refine ev_q rfl (q_assign (by conv => lhs; whnf) ?_)
    refine ev_nil (hK8 _ ?_); clear hK8
    refine good_ret ?_
    repeat (first | refine thenQ_ret ?_ | refine blockQ_ret ?_)
    clear hK2
    apply ex_3
    case hF =>
      refine fx_tmp rfl (by conv => lhs; whnf) ?_
      exact ⟨_, conv_eq (by first | rfl | exact fI (by first | omega | grind) | (exfalso; first | omega | grind)), weakH_box (boxEq (by first | rfl | (rw [e]; done) | (rw [e]; rfl) | (simp_all; done))) rfl (weakH_none _), refsIn_ok rfl⟩
    case hR =>
      exact ⟨by omega, by omega⟩

-- spec.DrawPrimaryFlow
set_option maxRecDepth 20000 in
set_option maxHeartbeats 2000000 in
theorem D_spec_DrawPrimaryFlow (cs : List Int) (hc : cs.length ≤ 17592186044416) (hb : byteL cs) : DenXR Try.prog 42 [] [.lst 1 (cs.map cb)] (τ := Sb × Int × Int) (fun (v, p, l) => v.id.size ≤ 100) (fun (v, p, l) => []) (fun (v, p, l) => .tup [.agg [.s (.string v.id), .s (.int .i64 (v.nd)), .s (.int .i64 (v.tr)), .s (.int .i64 (v.su)), .s (.int .i64 (v.re))], .s (.int .i64 p), .s (.int .i64 l)]) := by
  refine denXR_of_good Try.func42 (by decide) rfl (Nat.le_of_ble_eq_true rfl) (Nat.le_of_ble_eq_true rfl) rfl ?_
  refine good_seq fun K1 hK1 => ?_
  refine good_region rfl ?_
  refine ev_k rfl (k_alloc zA27 rfl ?_)
  refine ev_q rfl (q_assign (by conv => lhs; whnf) ?_)
  refine ev_q rfl (q_assign (by conv => lhs; whnf) ?_)
  refine ev_nil (hK1 _ ?_); clear hK1
  refine good_seq fun K2 hK2 => ?_
  refine good_region rfl ?_
  refine ev_q rfl (q_move (by conv => lhs; whnf) ?_)
  refine ev_k rfl (k_callX [(5, 900000)] (D_spec_l00From cs) rfl (rfl) (rfl) trivial ⟨⟨rfl, show (900000 : Nat) < 1000000 by decide⟩, trivial⟩ rfl rfl rfl ?_)
  refine ev_q rfl (q_assign (by conv => lhs; whnf) ?_)
  refine ev_nil (hK2 _ ?_); clear hK2
  refine good_seq fun K3 hK3 => ?_
  refine good_region rfl ?_
  refine ev_q rfl (q_move (by conv => lhs; whnf) ?_)
  refine ev_q rfl (q_move (by conv => lhs; whnf) ?_)
  refine ev_k rfl (k_callR [(1000000, 900000)] (D_spec_l12DrawOne cs _ _ _ hc hb (by omega)) rfl (rfl) (rfl) ⟨rfl, trivial⟩ rfl (by rintro ⟨v4, a4, s4⟩ ⟨hx4_0, hx4_1⟩; exact ⟨⟨rfl, rfl, trivial⟩, rfl⟩) rfl rfl ?_)
  rintro ⟨v4, a4, s4⟩ ⟨hx4_0, hx4_1⟩
  have hi1 := hx4_0.1
  refine ev_k rfl (k_callR [(1000000, 900000)] (D_spec_l12Bend cs _ _ v4 hc hb (by omega) (by omega)) rfl (rfl) (rfl) ⟨rfl, trivial⟩ rfl (by rintro ⟨v5, a5, s5⟩ ⟨hx5_0, hx5_1⟩; exact ⟨⟨rfl, rfl, trivial⟩, rfl⟩) rfl rfl ?_)
  rintro ⟨v5, a5, s5⟩ ⟨hx5_0, hx5_1⟩
  have hi2 : v5.id.size ≤ 100 := by rw [hx5_0, hi1]; decide
  refine ev_k rfl (k_alloc zA27 rfl ?_)
  refine ev_k rfl (k_store sz27 rfl (by conv => lhs; whnf) rfl rfl rfl (Nat.le_of_ble_eq_true rfl) rfl ?_)
  refine ev_nil (hK3 _ ?_); clear hK3
  refine good_seq fun K6 hK6 => ?_
  refine good_region rfl ?_
  refine ev_q rfl (q_move (by conv => lhs; whnf) ?_)
  refine ev_k rfl (k_callR [(1000000, 900000)] (D_spec_l12DrawPrimary cs _ _  hc hb (by omega)) rfl (rfl) (rfl) ⟨rfl, trivial⟩ rfl (by rintro ⟨v7, a7, s7⟩ ⟨hx7_0, hx7_1⟩; exact ⟨⟨rfl, rfl, trivial⟩, rfl⟩) rfl rfl ?_)
  rintro ⟨v7, a7, s7⟩ ⟨hx7_0, hx7_1⟩
  refine ev_q rfl (q_assign (by conv => lhs; whnf) ?_)
  refine ev_nil (hK6 _ ?_); clear hK6
  refine good_seq fun K8 hK8 => ?_
  refine good_orders 7 (listed := #[false, false, false, false, false, false, false]) rfl rfl hmix rfl ?_
  refine an_step [0, 1, 2] (by kernel_rfl) rfl ?_
  refine ⟨?_, ?_, ?_, trivial⟩
  · refine an_q (listed' := #[true, false, false, false, false, false, false]) rfl rfl rfl (q_loadA tA27 rfl rfl rfl ?_)
    refine an_step [1, 2] (by kernel_rfl) rfl ?_
    refine ⟨?_, ?_, trivial⟩
    · refine an_q (listed' := #[true, true, false, false, false, false, false]) rfl rfl rfl (q_move (by conv => lhs; whnf) ?_)
      refine an_step [2] (by kernel_rfl) rfl ?_
      refine ⟨?_, trivial⟩
      · refine an_q (listed' := #[true, true, true, false, false, false, false]) rfl rfl rfl (q_move (by conv => lhs; whnf) ?_)
        refine an_step [3] (by kernel_rfl) rfl ?_
        refine ⟨?_, trivial⟩
        · refine an_k (listed' := #[true, true, true, true, false, false, false]) rfl rfl rfl (k_callR [(1000000, 900000)] (D_spec_l12DrawLoad cs _ _  hc hb (by omega)) rfl (rfl) (rfl) ⟨rfl, trivial⟩ rfl (by rintro ⟨v9, a9, s9⟩ ⟨hx9_0, hx9_1⟩; exact ⟨⟨rfl, rfl, trivial⟩, rfl⟩) rfl rfl ?_)
          rintro ⟨v9, a9, s9⟩ ⟨hx9_0, hx9_1⟩
          refine an_step [4] (by kernel_rfl) rfl ?_
          refine ⟨?_, trivial⟩
          · refine an_k (listed' := #[true, true, true, true, true, false, false]) rfl rfl rfl (k_store sz27 rfl (by conv => lhs; whnf) rfl rfl rfl (Nat.le_of_ble_eq_true rfl) rfl ?_)
            refine an_step [5] (by kernel_rfl) rfl ?_
            refine ⟨?_, trivial⟩
            · refine an_q (listed' := #[true, true, true, true, true, true, false]) rfl rfl rfl (q_assign (by conv => lhs; whnf) ?_)
              refine an_step [6] (by kernel_rfl) rfl ?_
              refine ⟨?_, trivial⟩
              · refine an_q (listed' := #[true, true, true, true, true, true, true]) rfl rfl rfl (q_assign (by conv => lhs; whnf) ?_)
                refine an_end (by kernel_rfl) (hK8 _ ?_); clear hK8
                refine good_ret ?_
                repeat (first | refine thenQ_ret ?_ | refine blockQ_ret ?_)
                refine ex_3 (v := v5) (a := v7) (b := v9) ?hF ?hR
                case hF =>
                  refine fx_many rfl ?_
                  refine fxs_cell tA27 rfl rfl rfl ?_
                  refine fxs_tmp (by conv => lhs; whnf) ?_
                  refine fxs_tmp (by conv => lhs; whnf) ?_
                  refine fx_nil ?_
                  exact ⟨_, .tup (.cons (conv_eq (by first | rfl | exact fAgg1 (by first | rfl | simp_all) (fAgg1 (by first | rfl | exact fI (by first | omega | grind) | (exfalso; first | omega | grind)) (fAgg1 (by first | rfl | exact fI (by first | omega | grind) | (exfalso; first | omega | grind)) (fAgg1 (by first | rfl | exact fI (by first | omega | grind) | (exfalso; first | omega | grind)) (fAgg1 (by first | rfl | exact fI (by first | omega | grind) | (exfalso; first | omega | grind)) (rfl))))))) (.cons (conv_eq (by first | rfl | exact fI (by first | omega | grind) | (exfalso; first | omega | grind))) (.cons (conv_eq (by first | rfl | exact fI (by first | omega | grind) | (exfalso; first | omega | grind))) (.nil)))), weakH_none _, refsIn_ok rfl⟩
                case hR =>
                  exact hi2
    · refine an_q (listed' := #[true, false, true, false, false, false, false]) rfl rfl rfl (q_move (by conv => lhs; whnf) ?_)
      refine an_step [1, 3] (by kernel_rfl) rfl ?_
      refine ⟨?_, ?_, trivial⟩
      · refine an_q (listed' := #[true, true, true, false, false, false, false]) rfl rfl rfl (q_move (by conv => lhs; whnf) ?_)
        refine an_step [3] (by kernel_rfl) rfl ?_
        refine ⟨?_, trivial⟩
        · refine an_k (listed' := #[true, true, true, true, false, false, false]) rfl rfl rfl (k_callR [(1000000, 900000)] (D_spec_l12DrawLoad cs _ _  hc hb (by omega)) rfl (rfl) (rfl) ⟨rfl, trivial⟩ rfl (by rintro ⟨v10, a10, s10⟩ ⟨hx10_0, hx10_1⟩; exact ⟨⟨rfl, rfl, trivial⟩, rfl⟩) rfl rfl ?_)
          rintro ⟨v10, a10, s10⟩ ⟨hx10_0, hx10_1⟩
          refine an_step [4] (by kernel_rfl) rfl ?_
          refine ⟨?_, trivial⟩
          · refine an_k (listed' := #[true, true, true, true, true, false, false]) rfl rfl rfl (k_store sz27 rfl (by conv => lhs; whnf) rfl rfl rfl (Nat.le_of_ble_eq_true rfl) rfl ?_)
            refine an_step [5] (by kernel_rfl) rfl ?_
            refine ⟨?_, trivial⟩
            · refine an_q (listed' := #[true, true, true, true, true, true, false]) rfl rfl rfl (q_assign (by conv => lhs; whnf) ?_)
              refine an_step [6] (by kernel_rfl) rfl ?_
              refine ⟨?_, trivial⟩
              · refine an_q (listed' := #[true, true, true, true, true, true, true]) rfl rfl rfl (q_assign (by conv => lhs; whnf) ?_)
                refine an_end (by kernel_rfl) (hK8 _ ?_); clear hK8
                refine good_ret ?_
                repeat (first | refine thenQ_ret ?_ | refine blockQ_ret ?_)
                refine ex_3 (v := v5) (a := v7) (b := v10) ?hF ?hR
                case hF =>
                  refine fx_many rfl ?_
                  refine fxs_cell tA27 rfl rfl rfl ?_
                  refine fxs_tmp (by conv => lhs; whnf) ?_
                  refine fxs_tmp (by conv => lhs; whnf) ?_
                  refine fx_nil ?_
                  exact ⟨_, .tup (.cons (conv_eq (by first | rfl | exact fAgg1 (by first | rfl | simp_all) (fAgg1 (by first | rfl | exact fI (by first | omega | grind) | (exfalso; first | omega | grind)) (fAgg1 (by first | rfl | exact fI (by first | omega | grind) | (exfalso; first | omega | grind)) (fAgg1 (by first | rfl | exact fI (by first | omega | grind) | (exfalso; first | omega | grind)) (fAgg1 (by first | rfl | exact fI (by first | omega | grind) | (exfalso; first | omega | grind)) (rfl))))))) (.cons (conv_eq (by first | rfl | exact fI (by first | omega | grind) | (exfalso; first | omega | grind))) (.cons (conv_eq (by first | rfl | exact fI (by first | omega | grind) | (exfalso; first | omega | grind))) (.nil)))), weakH_none _, refsIn_ok rfl⟩
                case hR =>
                  exact hi2
      · refine an_k (listed' := #[true, false, true, true, false, false, false]) rfl rfl rfl (k_callR [(1000000, 900000)] (D_spec_l12DrawLoad cs _ _  hc hb (by omega)) rfl (rfl) (rfl) ⟨rfl, trivial⟩ rfl (by rintro ⟨v11, a11, s11⟩ ⟨hx11_0, hx11_1⟩; exact ⟨⟨rfl, rfl, trivial⟩, rfl⟩) rfl rfl ?_)
        rintro ⟨v11, a11, s11⟩ ⟨hx11_0, hx11_1⟩
        refine an_step [1, 4] (by kernel_rfl) rfl ?_
        refine ⟨?_, ?_, trivial⟩
        · refine an_q (listed' := #[true, true, true, true, false, false, false]) rfl rfl rfl (q_move (by conv => lhs; whnf) ?_)
          refine an_step [4] (by kernel_rfl) rfl ?_
          refine ⟨?_, trivial⟩
          · refine an_k (listed' := #[true, true, true, true, true, false, false]) rfl rfl rfl (k_store sz27 rfl (by conv => lhs; whnf) rfl rfl rfl (Nat.le_of_ble_eq_true rfl) rfl ?_)
            refine an_step [5] (by kernel_rfl) rfl ?_
            refine ⟨?_, trivial⟩
            · refine an_q (listed' := #[true, true, true, true, true, true, false]) rfl rfl rfl (q_assign (by conv => lhs; whnf) ?_)
              refine an_step [6] (by kernel_rfl) rfl ?_
              refine ⟨?_, trivial⟩
              · refine an_q (listed' := #[true, true, true, true, true, true, true]) rfl rfl rfl (q_assign (by conv => lhs; whnf) ?_)
                refine an_end (by kernel_rfl) (hK8 _ ?_); clear hK8
                refine good_ret ?_
                repeat (first | refine thenQ_ret ?_ | refine blockQ_ret ?_)
                refine ex_3 (v := v5) (a := v7) (b := v11) ?hF ?hR
                case hF =>
                  refine fx_many rfl ?_
                  refine fxs_cell tA27 rfl rfl rfl ?_
                  refine fxs_tmp (by conv => lhs; whnf) ?_
                  refine fxs_tmp (by conv => lhs; whnf) ?_
                  refine fx_nil ?_
                  exact ⟨_, .tup (.cons (conv_eq (by first | rfl | exact fAgg1 (by first | rfl | simp_all) (fAgg1 (by first | rfl | exact fI (by first | omega | grind) | (exfalso; first | omega | grind)) (fAgg1 (by first | rfl | exact fI (by first | omega | grind) | (exfalso; first | omega | grind)) (fAgg1 (by first | rfl | exact fI (by first | omega | grind) | (exfalso; first | omega | grind)) (fAgg1 (by first | rfl | exact fI (by first | omega | grind) | (exfalso; first | omega | grind)) (rfl))))))) (.cons (conv_eq (by first | rfl | exact fI (by first | omega | grind) | (exfalso; first | omega | grind))) (.cons (conv_eq (by first | rfl | exact fI (by first | omega | grind) | (exfalso; first | omega | grind))) (.nil)))), weakH_none _, refsIn_ok rfl⟩
                case hR =>
                  exact hi2
        · refine an_k (listed' := #[true, false, true, true, true, false, false]) rfl rfl rfl (k_store sz27 rfl (by conv => lhs; whnf) rfl rfl rfl (Nat.le_of_ble_eq_true rfl) rfl ?_)
          refine an_step [1] (by kernel_rfl) rfl ?_
          refine ⟨?_, trivial⟩
          · refine an_q (listed' := #[true, true, true, true, true, false, false]) rfl rfl rfl (q_move (by conv => lhs; whnf) ?_)
            refine an_step [5] (by kernel_rfl) rfl ?_
            refine ⟨?_, trivial⟩
            · refine an_q (listed' := #[true, true, true, true, true, true, false]) rfl rfl rfl (q_assign (by conv => lhs; whnf) ?_)
              refine an_step [6] (by kernel_rfl) rfl ?_
              refine ⟨?_, trivial⟩
              · refine an_q (listed' := #[true, true, true, true, true, true, true]) rfl rfl rfl (q_assign (by conv => lhs; whnf) ?_)
                refine an_end (by kernel_rfl) (hK8 _ ?_); clear hK8
                refine good_ret ?_
                repeat (first | refine thenQ_ret ?_ | refine blockQ_ret ?_)
                refine ex_3 (v := v5) (a := v7) (b := v11) ?hF ?hR
                case hF =>
                  refine fx_many rfl ?_
                  refine fxs_cell tA27 rfl rfl rfl ?_
                  refine fxs_tmp (by conv => lhs; whnf) ?_
                  refine fxs_tmp (by conv => lhs; whnf) ?_
                  refine fx_nil ?_
                  exact ⟨_, .tup (.cons (conv_eq (by first | rfl | exact fAgg1 (by first | rfl | simp_all) (fAgg1 (by first | rfl | exact fI (by first | omega | grind) | (exfalso; first | omega | grind)) (fAgg1 (by first | rfl | exact fI (by first | omega | grind) | (exfalso; first | omega | grind)) (fAgg1 (by first | rfl | exact fI (by first | omega | grind) | (exfalso; first | omega | grind)) (fAgg1 (by first | rfl | exact fI (by first | omega | grind) | (exfalso; first | omega | grind)) (rfl))))))) (.cons (conv_eq (by first | rfl | exact fI (by first | omega | grind) | (exfalso; first | omega | grind))) (.cons (conv_eq (by first | rfl | exact fI (by first | omega | grind) | (exfalso; first | omega | grind))) (.nil)))), weakH_none _, refsIn_ok rfl⟩
                case hR =>
                  exact hi2
  · refine an_q (listed' := #[false, true, false, false, false, false, false]) rfl rfl rfl (q_move (by conv => lhs; whnf) ?_)
    refine an_step [0, 2] (by kernel_rfl) rfl ?_
    refine ⟨?_, ?_, trivial⟩
    · refine an_q (listed' := #[true, true, false, false, false, false, false]) rfl rfl rfl (q_loadA tA27 rfl rfl rfl ?_)
      refine an_step [2] (by kernel_rfl) rfl ?_
      refine ⟨?_, trivial⟩
      · refine an_q (listed' := #[true, true, true, false, false, false, false]) rfl rfl rfl (q_move (by conv => lhs; whnf) ?_)
        refine an_step [3] (by kernel_rfl) rfl ?_
        refine ⟨?_, trivial⟩
        · refine an_k (listed' := #[true, true, true, true, false, false, false]) rfl rfl rfl (k_callR [(1000000, 900000)] (D_spec_l12DrawLoad cs _ _  hc hb (by omega)) rfl (rfl) (rfl) ⟨rfl, trivial⟩ rfl (by rintro ⟨v12, a12, s12⟩ ⟨hx12_0, hx12_1⟩; exact ⟨⟨rfl, rfl, trivial⟩, rfl⟩) rfl rfl ?_)
          rintro ⟨v12, a12, s12⟩ ⟨hx12_0, hx12_1⟩
          refine an_step [4] (by kernel_rfl) rfl ?_
          refine ⟨?_, trivial⟩
          · refine an_k (listed' := #[true, true, true, true, true, false, false]) rfl rfl rfl (k_store sz27 rfl (by conv => lhs; whnf) rfl rfl rfl (Nat.le_of_ble_eq_true rfl) rfl ?_)
            refine an_step [5] (by kernel_rfl) rfl ?_
            refine ⟨?_, trivial⟩
            · refine an_q (listed' := #[true, true, true, true, true, true, false]) rfl rfl rfl (q_assign (by conv => lhs; whnf) ?_)
              refine an_step [6] (by kernel_rfl) rfl ?_
              refine ⟨?_, trivial⟩
              · refine an_q (listed' := #[true, true, true, true, true, true, true]) rfl rfl rfl (q_assign (by conv => lhs; whnf) ?_)
                refine an_end (by kernel_rfl) (hK8 _ ?_); clear hK8
                refine good_ret ?_
                repeat (first | refine thenQ_ret ?_ | refine blockQ_ret ?_)
                refine ex_3 (v := v5) (a := v7) (b := v12) ?hF ?hR
                case hF =>
                  refine fx_many rfl ?_
                  refine fxs_cell tA27 rfl rfl rfl ?_
                  refine fxs_tmp (by conv => lhs; whnf) ?_
                  refine fxs_tmp (by conv => lhs; whnf) ?_
                  refine fx_nil ?_
                  exact ⟨_, .tup (.cons (conv_eq (by first | rfl | exact fAgg1 (by first | rfl | simp_all) (fAgg1 (by first | rfl | exact fI (by first | omega | grind) | (exfalso; first | omega | grind)) (fAgg1 (by first | rfl | exact fI (by first | omega | grind) | (exfalso; first | omega | grind)) (fAgg1 (by first | rfl | exact fI (by first | omega | grind) | (exfalso; first | omega | grind)) (fAgg1 (by first | rfl | exact fI (by first | omega | grind) | (exfalso; first | omega | grind)) (rfl))))))) (.cons (conv_eq (by first | rfl | exact fI (by first | omega | grind) | (exfalso; first | omega | grind))) (.cons (conv_eq (by first | rfl | exact fI (by first | omega | grind) | (exfalso; first | omega | grind))) (.nil)))), weakH_none _, refsIn_ok rfl⟩
                case hR =>
                  exact hi2
    · refine an_q (listed' := #[false, true, true, false, false, false, false]) rfl rfl rfl (q_move (by conv => lhs; whnf) ?_)
      refine an_step [0, 3] (by kernel_rfl) rfl ?_
      refine ⟨?_, ?_, trivial⟩
      · refine an_q (listed' := #[true, true, true, false, false, false, false]) rfl rfl rfl (q_loadA tA27 rfl rfl rfl ?_)
        refine an_step [3] (by kernel_rfl) rfl ?_
        refine ⟨?_, trivial⟩
        · refine an_k (listed' := #[true, true, true, true, false, false, false]) rfl rfl rfl (k_callR [(1000000, 900000)] (D_spec_l12DrawLoad cs _ _  hc hb (by omega)) rfl (rfl) (rfl) ⟨rfl, trivial⟩ rfl (by rintro ⟨v13, a13, s13⟩ ⟨hx13_0, hx13_1⟩; exact ⟨⟨rfl, rfl, trivial⟩, rfl⟩) rfl rfl ?_)
          rintro ⟨v13, a13, s13⟩ ⟨hx13_0, hx13_1⟩
          refine an_step [4] (by kernel_rfl) rfl ?_
          refine ⟨?_, trivial⟩
          · refine an_k (listed' := #[true, true, true, true, true, false, false]) rfl rfl rfl (k_store sz27 rfl (by conv => lhs; whnf) rfl rfl rfl (Nat.le_of_ble_eq_true rfl) rfl ?_)
            refine an_step [5] (by kernel_rfl) rfl ?_
            refine ⟨?_, trivial⟩
            · refine an_q (listed' := #[true, true, true, true, true, true, false]) rfl rfl rfl (q_assign (by conv => lhs; whnf) ?_)
              refine an_step [6] (by kernel_rfl) rfl ?_
              refine ⟨?_, trivial⟩
              · refine an_q (listed' := #[true, true, true, true, true, true, true]) rfl rfl rfl (q_assign (by conv => lhs; whnf) ?_)
                refine an_end (by kernel_rfl) (hK8 _ ?_); clear hK8
                refine good_ret ?_
                repeat (first | refine thenQ_ret ?_ | refine blockQ_ret ?_)
                refine ex_3 (v := v5) (a := v7) (b := v13) ?hF ?hR
                case hF =>
                  refine fx_many rfl ?_
                  refine fxs_cell tA27 rfl rfl rfl ?_
                  refine fxs_tmp (by conv => lhs; whnf) ?_
                  refine fxs_tmp (by conv => lhs; whnf) ?_
                  refine fx_nil ?_
                  exact ⟨_, .tup (.cons (conv_eq (by first | rfl | exact fAgg1 (by first | rfl | simp_all) (fAgg1 (by first | rfl | exact fI (by first | omega | grind) | (exfalso; first | omega | grind)) (fAgg1 (by first | rfl | exact fI (by first | omega | grind) | (exfalso; first | omega | grind)) (fAgg1 (by first | rfl | exact fI (by first | omega | grind) | (exfalso; first | omega | grind)) (fAgg1 (by first | rfl | exact fI (by first | omega | grind) | (exfalso; first | omega | grind)) (rfl))))))) (.cons (conv_eq (by first | rfl | exact fI (by first | omega | grind) | (exfalso; first | omega | grind))) (.cons (conv_eq (by first | rfl | exact fI (by first | omega | grind) | (exfalso; first | omega | grind))) (.nil)))), weakH_none _, refsIn_ok rfl⟩
                case hR =>
                  exact hi2
      · refine an_k (listed' := #[false, true, true, true, false, false, false]) rfl rfl rfl (k_callR [(1000000, 900000)] (D_spec_l12DrawLoad cs _ _  hc hb (by omega)) rfl (rfl) (rfl) ⟨rfl, trivial⟩ rfl (by rintro ⟨v14, a14, s14⟩ ⟨hx14_0, hx14_1⟩; exact ⟨⟨rfl, rfl, trivial⟩, rfl⟩) rfl rfl ?_)
        rintro ⟨v14, a14, s14⟩ ⟨hx14_0, hx14_1⟩
        refine an_step [0] (by kernel_rfl) rfl ?_
        refine ⟨?_, trivial⟩
        · refine an_q (listed' := #[true, true, true, true, false, false, false]) rfl rfl rfl (q_loadA tA27 rfl rfl rfl ?_)
          refine an_step [4] (by kernel_rfl) rfl ?_
          refine ⟨?_, trivial⟩
          · refine an_k (listed' := #[true, true, true, true, true, false, false]) rfl rfl rfl (k_store sz27 rfl (by conv => lhs; whnf) rfl rfl rfl (Nat.le_of_ble_eq_true rfl) rfl ?_)
            refine an_step [5] (by kernel_rfl) rfl ?_
            refine ⟨?_, trivial⟩
            · refine an_q (listed' := #[true, true, true, true, true, true, false]) rfl rfl rfl (q_assign (by conv => lhs; whnf) ?_)
              refine an_step [6] (by kernel_rfl) rfl ?_
              refine ⟨?_, trivial⟩
              · refine an_q (listed' := #[true, true, true, true, true, true, true]) rfl rfl rfl (q_assign (by conv => lhs; whnf) ?_)
                refine an_end (by kernel_rfl) (hK8 _ ?_); clear hK8
                refine good_ret ?_
                repeat (first | refine thenQ_ret ?_ | refine blockQ_ret ?_)
                refine ex_3 (v := v5) (a := v7) (b := v14) ?hF ?hR
                case hF =>
                  refine fx_many rfl ?_
                  refine fxs_cell tA27 rfl rfl rfl ?_
                  refine fxs_tmp (by conv => lhs; whnf) ?_
                  refine fxs_tmp (by conv => lhs; whnf) ?_
                  refine fx_nil ?_
                  exact ⟨_, .tup (.cons (conv_eq (by first | rfl | exact fAgg1 (by first | rfl | simp_all) (fAgg1 (by first | rfl | exact fI (by first | omega | grind) | (exfalso; first | omega | grind)) (fAgg1 (by first | rfl | exact fI (by first | omega | grind) | (exfalso; first | omega | grind)) (fAgg1 (by first | rfl | exact fI (by first | omega | grind) | (exfalso; first | omega | grind)) (fAgg1 (by first | rfl | exact fI (by first | omega | grind) | (exfalso; first | omega | grind)) (rfl))))))) (.cons (conv_eq (by first | rfl | exact fI (by first | omega | grind) | (exfalso; first | omega | grind))) (.cons (conv_eq (by first | rfl | exact fI (by first | omega | grind) | (exfalso; first | omega | grind))) (.nil)))), weakH_none _, refsIn_ok rfl⟩
                case hR =>
                  exact hi2
  · refine an_q (listed' := #[false, false, true, false, false, false, false]) rfl rfl rfl (q_move (by conv => lhs; whnf) ?_)
    refine an_step [0, 1, 3] (by kernel_rfl) rfl ?_
    refine ⟨?_, ?_, ?_, trivial⟩
    · refine an_q (listed' := #[true, false, true, false, false, false, false]) rfl rfl rfl (q_loadA tA27 rfl rfl rfl ?_)
      refine an_step [1, 3] (by kernel_rfl) rfl ?_
      refine ⟨?_, ?_, trivial⟩
      · refine an_q (listed' := #[true, true, true, false, false, false, false]) rfl rfl rfl (q_move (by conv => lhs; whnf) ?_)
        refine an_step [3] (by kernel_rfl) rfl ?_
        refine ⟨?_, trivial⟩
        · refine an_k (listed' := #[true, true, true, true, false, false, false]) rfl rfl rfl (k_callR [(1000000, 900000)] (D_spec_l12DrawLoad cs _ _  hc hb (by omega)) rfl (rfl) (rfl) ⟨rfl, trivial⟩ rfl (by rintro ⟨v15, a15, s15⟩ ⟨hx15_0, hx15_1⟩; exact ⟨⟨rfl, rfl, trivial⟩, rfl⟩) rfl rfl ?_)
          rintro ⟨v15, a15, s15⟩ ⟨hx15_0, hx15_1⟩
          refine an_step [4] (by kernel_rfl) rfl ?_
          refine ⟨?_, trivial⟩
          · refine an_k (listed' := #[true, true, true, true, true, false, false]) rfl rfl rfl (k_store sz27 rfl (by conv => lhs; whnf) rfl rfl rfl (Nat.le_of_ble_eq_true rfl) rfl ?_)
            refine an_step [5] (by kernel_rfl) rfl ?_
            refine ⟨?_, trivial⟩
            · refine an_q (listed' := #[true, true, true, true, true, true, false]) rfl rfl rfl (q_assign (by conv => lhs; whnf) ?_)
              refine an_step [6] (by kernel_rfl) rfl ?_
              refine ⟨?_, trivial⟩
              · refine an_q (listed' := #[true, true, true, true, true, true, true]) rfl rfl rfl (q_assign (by conv => lhs; whnf) ?_)
                refine an_end (by kernel_rfl) (hK8 _ ?_); clear hK8
                refine good_ret ?_
                repeat (first | refine thenQ_ret ?_ | refine blockQ_ret ?_)
                refine ex_3 (v := v5) (a := v7) (b := v15) ?hF ?hR
                case hF =>
                  refine fx_many rfl ?_
                  refine fxs_cell tA27 rfl rfl rfl ?_
                  refine fxs_tmp (by conv => lhs; whnf) ?_
                  refine fxs_tmp (by conv => lhs; whnf) ?_
                  refine fx_nil ?_
                  exact ⟨_, .tup (.cons (conv_eq (by first | rfl | exact fAgg1 (by first | rfl | simp_all) (fAgg1 (by first | rfl | exact fI (by first | omega | grind) | (exfalso; first | omega | grind)) (fAgg1 (by first | rfl | exact fI (by first | omega | grind) | (exfalso; first | omega | grind)) (fAgg1 (by first | rfl | exact fI (by first | omega | grind) | (exfalso; first | omega | grind)) (fAgg1 (by first | rfl | exact fI (by first | omega | grind) | (exfalso; first | omega | grind)) (rfl))))))) (.cons (conv_eq (by first | rfl | exact fI (by first | omega | grind) | (exfalso; first | omega | grind))) (.cons (conv_eq (by first | rfl | exact fI (by first | omega | grind) | (exfalso; first | omega | grind))) (.nil)))), weakH_none _, refsIn_ok rfl⟩
                case hR =>
                  exact hi2
      · refine an_k (listed' := #[true, false, true, true, false, false, false]) rfl rfl rfl (k_callR [(1000000, 900000)] (D_spec_l12DrawLoad cs _ _  hc hb (by omega)) rfl (rfl) (rfl) ⟨rfl, trivial⟩ rfl (by rintro ⟨v16, a16, s16⟩ ⟨hx16_0, hx16_1⟩; exact ⟨⟨rfl, rfl, trivial⟩, rfl⟩) rfl rfl ?_)
        rintro ⟨v16, a16, s16⟩ ⟨hx16_0, hx16_1⟩
        refine an_step [1, 4] (by kernel_rfl) rfl ?_
        refine ⟨?_, ?_, trivial⟩
        · refine an_q (listed' := #[true, true, true, true, false, false, false]) rfl rfl rfl (q_move (by conv => lhs; whnf) ?_)
          refine an_step [4] (by kernel_rfl) rfl ?_
          refine ⟨?_, trivial⟩
          · refine an_k (listed' := #[true, true, true, true, true, false, false]) rfl rfl rfl (k_store sz27 rfl (by conv => lhs; whnf) rfl rfl rfl (Nat.le_of_ble_eq_true rfl) rfl ?_)
            refine an_step [5] (by kernel_rfl) rfl ?_
            refine ⟨?_, trivial⟩
            · refine an_q (listed' := #[true, true, true, true, true, true, false]) rfl rfl rfl (q_assign (by conv => lhs; whnf) ?_)
              refine an_step [6] (by kernel_rfl) rfl ?_
              refine ⟨?_, trivial⟩
              · refine an_q (listed' := #[true, true, true, true, true, true, true]) rfl rfl rfl (q_assign (by conv => lhs; whnf) ?_)
                refine an_end (by kernel_rfl) (hK8 _ ?_); clear hK8
                refine good_ret ?_
                repeat (first | refine thenQ_ret ?_ | refine blockQ_ret ?_)
                refine ex_3 (v := v5) (a := v7) (b := v16) ?hF ?hR
                case hF =>
                  refine fx_many rfl ?_
                  refine fxs_cell tA27 rfl rfl rfl ?_
                  refine fxs_tmp (by conv => lhs; whnf) ?_
                  refine fxs_tmp (by conv => lhs; whnf) ?_
                  refine fx_nil ?_
                  exact ⟨_, .tup (.cons (conv_eq (by first | rfl | exact fAgg1 (by first | rfl | simp_all) (fAgg1 (by first | rfl | exact fI (by first | omega | grind) | (exfalso; first | omega | grind)) (fAgg1 (by first | rfl | exact fI (by first | omega | grind) | (exfalso; first | omega | grind)) (fAgg1 (by first | rfl | exact fI (by first | omega | grind) | (exfalso; first | omega | grind)) (fAgg1 (by first | rfl | exact fI (by first | omega | grind) | (exfalso; first | omega | grind)) (rfl))))))) (.cons (conv_eq (by first | rfl | exact fI (by first | omega | grind) | (exfalso; first | omega | grind))) (.cons (conv_eq (by first | rfl | exact fI (by first | omega | grind) | (exfalso; first | omega | grind))) (.nil)))), weakH_none _, refsIn_ok rfl⟩
                case hR =>
                  exact hi2
        · refine an_k (listed' := #[true, false, true, true, true, false, false]) rfl rfl rfl (k_store sz27 rfl (by conv => lhs; whnf) rfl rfl rfl (Nat.le_of_ble_eq_true rfl) rfl ?_)
          refine an_step [1] (by kernel_rfl) rfl ?_
          refine ⟨?_, trivial⟩
          · refine an_q (listed' := #[true, true, true, true, true, false, false]) rfl rfl rfl (q_move (by conv => lhs; whnf) ?_)
            refine an_step [5] (by kernel_rfl) rfl ?_
            refine ⟨?_, trivial⟩
            · refine an_q (listed' := #[true, true, true, true, true, true, false]) rfl rfl rfl (q_assign (by conv => lhs; whnf) ?_)
              refine an_step [6] (by kernel_rfl) rfl ?_
              refine ⟨?_, trivial⟩
              · refine an_q (listed' := #[true, true, true, true, true, true, true]) rfl rfl rfl (q_assign (by conv => lhs; whnf) ?_)
                refine an_end (by kernel_rfl) (hK8 _ ?_); clear hK8
                refine good_ret ?_
                repeat (first | refine thenQ_ret ?_ | refine blockQ_ret ?_)
                refine ex_3 (v := v5) (a := v7) (b := v16) ?hF ?hR
                case hF =>
                  refine fx_many rfl ?_
                  refine fxs_cell tA27 rfl rfl rfl ?_
                  refine fxs_tmp (by conv => lhs; whnf) ?_
                  refine fxs_tmp (by conv => lhs; whnf) ?_
                  refine fx_nil ?_
                  exact ⟨_, .tup (.cons (conv_eq (by first | rfl | exact fAgg1 (by first | rfl | simp_all) (fAgg1 (by first | rfl | exact fI (by first | omega | grind) | (exfalso; first | omega | grind)) (fAgg1 (by first | rfl | exact fI (by first | omega | grind) | (exfalso; first | omega | grind)) (fAgg1 (by first | rfl | exact fI (by first | omega | grind) | (exfalso; first | omega | grind)) (fAgg1 (by first | rfl | exact fI (by first | omega | grind) | (exfalso; first | omega | grind)) (rfl))))))) (.cons (conv_eq (by first | rfl | exact fI (by first | omega | grind) | (exfalso; first | omega | grind))) (.cons (conv_eq (by first | rfl | exact fI (by first | omega | grind) | (exfalso; first | omega | grind))) (.nil)))), weakH_none _, refsIn_ok rfl⟩
                case hR =>
                  exact hi2
    · refine an_q (listed' := #[false, true, true, false, false, false, false]) rfl rfl rfl (q_move (by conv => lhs; whnf) ?_)
      refine an_step [0, 3] (by kernel_rfl) rfl ?_
      refine ⟨?_, ?_, trivial⟩
      · refine an_q (listed' := #[true, true, true, false, false, false, false]) rfl rfl rfl (q_loadA tA27 rfl rfl rfl ?_)
        refine an_step [3] (by kernel_rfl) rfl ?_
        refine ⟨?_, trivial⟩
        · refine an_k (listed' := #[true, true, true, true, false, false, false]) rfl rfl rfl (k_callR [(1000000, 900000)] (D_spec_l12DrawLoad cs _ _  hc hb (by omega)) rfl (rfl) (rfl) ⟨rfl, trivial⟩ rfl (by rintro ⟨v17, a17, s17⟩ ⟨hx17_0, hx17_1⟩; exact ⟨⟨rfl, rfl, trivial⟩, rfl⟩) rfl rfl ?_)
          rintro ⟨v17, a17, s17⟩ ⟨hx17_0, hx17_1⟩
          refine an_step [4] (by kernel_rfl) rfl ?_
          refine ⟨?_, trivial⟩
          · refine an_k (listed' := #[true, true, true, true, true, false, false]) rfl rfl rfl (k_store sz27 rfl (by conv => lhs; whnf) rfl rfl rfl (Nat.le_of_ble_eq_true rfl) rfl ?_)
            refine an_step [5] (by kernel_rfl) rfl ?_
            refine ⟨?_, trivial⟩
            · refine an_q (listed' := #[true, true, true, true, true, true, false]) rfl rfl rfl (q_assign (by conv => lhs; whnf) ?_)
              refine an_step [6] (by kernel_rfl) rfl ?_
              refine ⟨?_, trivial⟩
              · refine an_q (listed' := #[true, true, true, true, true, true, true]) rfl rfl rfl (q_assign (by conv => lhs; whnf) ?_)
                refine an_end (by kernel_rfl) (hK8 _ ?_); clear hK8
                refine good_ret ?_
                repeat (first | refine thenQ_ret ?_ | refine blockQ_ret ?_)
                refine ex_3 (v := v5) (a := v7) (b := v17) ?hF ?hR
                case hF =>
                  refine fx_many rfl ?_
                  refine fxs_cell tA27 rfl rfl rfl ?_
                  refine fxs_tmp (by conv => lhs; whnf) ?_
                  refine fxs_tmp (by conv => lhs; whnf) ?_
                  refine fx_nil ?_
                  exact ⟨_, .tup (.cons (conv_eq (by first | rfl | exact fAgg1 (by first | rfl | simp_all) (fAgg1 (by first | rfl | exact fI (by first | omega | grind) | (exfalso; first | omega | grind)) (fAgg1 (by first | rfl | exact fI (by first | omega | grind) | (exfalso; first | omega | grind)) (fAgg1 (by first | rfl | exact fI (by first | omega | grind) | (exfalso; first | omega | grind)) (fAgg1 (by first | rfl | exact fI (by first | omega | grind) | (exfalso; first | omega | grind)) (rfl))))))) (.cons (conv_eq (by first | rfl | exact fI (by first | omega | grind) | (exfalso; first | omega | grind))) (.cons (conv_eq (by first | rfl | exact fI (by first | omega | grind) | (exfalso; first | omega | grind))) (.nil)))), weakH_none _, refsIn_ok rfl⟩
                case hR =>
                  exact hi2
      · refine an_k (listed' := #[false, true, true, true, false, false, false]) rfl rfl rfl (k_callR [(1000000, 900000)] (D_spec_l12DrawLoad cs _ _  hc hb (by omega)) rfl (rfl) (rfl) ⟨rfl, trivial⟩ rfl (by rintro ⟨v18, a18, s18⟩ ⟨hx18_0, hx18_1⟩; exact ⟨⟨rfl, rfl, trivial⟩, rfl⟩) rfl rfl ?_)
        rintro ⟨v18, a18, s18⟩ ⟨hx18_0, hx18_1⟩
        refine an_step [0] (by kernel_rfl) rfl ?_
        refine ⟨?_, trivial⟩
        · refine an_q (listed' := #[true, true, true, true, false, false, false]) rfl rfl rfl (q_loadA tA27 rfl rfl rfl ?_)
          refine an_step [4] (by kernel_rfl) rfl ?_
          refine ⟨?_, trivial⟩
          · refine an_k (listed' := #[true, true, true, true, true, false, false]) rfl rfl rfl (k_store sz27 rfl (by conv => lhs; whnf) rfl rfl rfl (Nat.le_of_ble_eq_true rfl) rfl ?_)
            refine an_step [5] (by kernel_rfl) rfl ?_
            refine ⟨?_, trivial⟩
            · refine an_q (listed' := #[true, true, true, true, true, true, false]) rfl rfl rfl (q_assign (by conv => lhs; whnf) ?_)
              refine an_step [6] (by kernel_rfl) rfl ?_
              refine ⟨?_, trivial⟩
              · refine an_q (listed' := #[true, true, true, true, true, true, true]) rfl rfl rfl (q_assign (by conv => lhs; whnf) ?_)
                refine an_end (by kernel_rfl) (hK8 _ ?_); clear hK8
                refine good_ret ?_
                repeat (first | refine thenQ_ret ?_ | refine blockQ_ret ?_)
                refine ex_3 (v := v5) (a := v7) (b := v18) ?hF ?hR
                case hF =>
                  refine fx_many rfl ?_
                  refine fxs_cell tA27 rfl rfl rfl ?_
                  refine fxs_tmp (by conv => lhs; whnf) ?_
                  refine fxs_tmp (by conv => lhs; whnf) ?_
                  refine fx_nil ?_
                  exact ⟨_, .tup (.cons (conv_eq (by first | rfl | exact fAgg1 (by first | rfl | simp_all) (fAgg1 (by first | rfl | exact fI (by first | omega | grind) | (exfalso; first | omega | grind)) (fAgg1 (by first | rfl | exact fI (by first | omega | grind) | (exfalso; first | omega | grind)) (fAgg1 (by first | rfl | exact fI (by first | omega | grind) | (exfalso; first | omega | grind)) (fAgg1 (by first | rfl | exact fI (by first | omega | grind) | (exfalso; first | omega | grind)) (rfl))))))) (.cons (conv_eq (by first | rfl | exact fI (by first | omega | grind) | (exfalso; first | omega | grind))) (.cons (conv_eq (by first | rfl | exact fI (by first | omega | grind) | (exfalso; first | omega | grind))) (.nil)))), weakH_none _, refsIn_ok rfl⟩
                case hR =>
                  exact hi2
    · refine an_k (listed' := #[false, false, true, true, false, false, false]) rfl rfl rfl (k_callR [(1000000, 900000)] (D_spec_l12DrawLoad cs _ _  hc hb (by omega)) rfl (rfl) (rfl) ⟨rfl, trivial⟩ rfl (by rintro ⟨v19, a19, s19⟩ ⟨hx19_0, hx19_1⟩; exact ⟨⟨rfl, rfl, trivial⟩, rfl⟩) rfl rfl ?_)
      rintro ⟨v19, a19, s19⟩ ⟨hx19_0, hx19_1⟩
      refine an_step [0, 1] (by kernel_rfl) rfl ?_
      refine ⟨?_, ?_, trivial⟩
      · refine an_q (listed' := #[true, false, true, true, false, false, false]) rfl rfl rfl (q_loadA tA27 rfl rfl rfl ?_)
        refine an_step [1, 4] (by kernel_rfl) rfl ?_
        refine ⟨?_, ?_, trivial⟩
        · refine an_q (listed' := #[true, true, true, true, false, false, false]) rfl rfl rfl (q_move (by conv => lhs; whnf) ?_)
          refine an_step [4] (by kernel_rfl) rfl ?_
          refine ⟨?_, trivial⟩
          · refine an_k (listed' := #[true, true, true, true, true, false, false]) rfl rfl rfl (k_store sz27 rfl (by conv => lhs; whnf) rfl rfl rfl (Nat.le_of_ble_eq_true rfl) rfl ?_)
            refine an_step [5] (by kernel_rfl) rfl ?_
            refine ⟨?_, trivial⟩
            · refine an_q (listed' := #[true, true, true, true, true, true, false]) rfl rfl rfl (q_assign (by conv => lhs; whnf) ?_)
              refine an_step [6] (by kernel_rfl) rfl ?_
              refine ⟨?_, trivial⟩
              · refine an_q (listed' := #[true, true, true, true, true, true, true]) rfl rfl rfl (q_assign (by conv => lhs; whnf) ?_)
                refine an_end (by kernel_rfl) (hK8 _ ?_); clear hK8
                refine good_ret ?_
                repeat (first | refine thenQ_ret ?_ | refine blockQ_ret ?_)
                refine ex_3 (v := v5) (a := v7) (b := v19) ?hF ?hR
                case hF =>
                  refine fx_many rfl ?_
                  refine fxs_cell tA27 rfl rfl rfl ?_
                  refine fxs_tmp (by conv => lhs; whnf) ?_
                  refine fxs_tmp (by conv => lhs; whnf) ?_
                  refine fx_nil ?_
                  exact ⟨_, .tup (.cons (conv_eq (by first | rfl | exact fAgg1 (by first | rfl | simp_all) (fAgg1 (by first | rfl | exact fI (by first | omega | grind) | (exfalso; first | omega | grind)) (fAgg1 (by first | rfl | exact fI (by first | omega | grind) | (exfalso; first | omega | grind)) (fAgg1 (by first | rfl | exact fI (by first | omega | grind) | (exfalso; first | omega | grind)) (fAgg1 (by first | rfl | exact fI (by first | omega | grind) | (exfalso; first | omega | grind)) (rfl))))))) (.cons (conv_eq (by first | rfl | exact fI (by first | omega | grind) | (exfalso; first | omega | grind))) (.cons (conv_eq (by first | rfl | exact fI (by first | omega | grind) | (exfalso; first | omega | grind))) (.nil)))), weakH_none _, refsIn_ok rfl⟩
                case hR =>
                  exact hi2
        · refine an_k (listed' := #[true, false, true, true, true, false, false]) rfl rfl rfl (k_store sz27 rfl (by conv => lhs; whnf) rfl rfl rfl (Nat.le_of_ble_eq_true rfl) rfl ?_)
          refine an_step [1] (by kernel_rfl) rfl ?_
          refine ⟨?_, trivial⟩
          · refine an_q (listed' := #[true, true, true, true, true, false, false]) rfl rfl rfl (q_move (by conv => lhs; whnf) ?_)
            refine an_step [5] (by kernel_rfl) rfl ?_
            refine ⟨?_, trivial⟩
            · refine an_q (listed' := #[true, true, true, true, true, true, false]) rfl rfl rfl (q_assign (by conv => lhs; whnf) ?_)
              refine an_step [6] (by kernel_rfl) rfl ?_
              refine ⟨?_, trivial⟩
              · refine an_q (listed' := #[true, true, true, true, true, true, true]) rfl rfl rfl (q_assign (by conv => lhs; whnf) ?_)
                refine an_end (by kernel_rfl) (hK8 _ ?_); clear hK8
                refine good_ret ?_
                repeat (first | refine thenQ_ret ?_ | refine blockQ_ret ?_)
                refine ex_3 (v := v5) (a := v7) (b := v19) ?hF ?hR
                case hF =>
                  refine fx_many rfl ?_
                  refine fxs_cell tA27 rfl rfl rfl ?_
                  refine fxs_tmp (by conv => lhs; whnf) ?_
                  refine fxs_tmp (by conv => lhs; whnf) ?_
                  refine fx_nil ?_
                  exact ⟨_, .tup (.cons (conv_eq (by first | rfl | exact fAgg1 (by first | rfl | simp_all) (fAgg1 (by first | rfl | exact fI (by first | omega | grind) | (exfalso; first | omega | grind)) (fAgg1 (by first | rfl | exact fI (by first | omega | grind) | (exfalso; first | omega | grind)) (fAgg1 (by first | rfl | exact fI (by first | omega | grind) | (exfalso; first | omega | grind)) (fAgg1 (by first | rfl | exact fI (by first | omega | grind) | (exfalso; first | omega | grind)) (rfl))))))) (.cons (conv_eq (by first | rfl | exact fI (by first | omega | grind) | (exfalso; first | omega | grind))) (.cons (conv_eq (by first | rfl | exact fI (by first | omega | grind) | (exfalso; first | omega | grind))) (.nil)))), weakH_none _, refsIn_ok rfl⟩
                case hR =>
                  exact hi2
      · refine an_q (listed' := #[false, true, true, true, false, false, false]) rfl rfl rfl (q_move (by conv => lhs; whnf) ?_)
        refine an_step [0] (by kernel_rfl) rfl ?_
        refine ⟨?_, trivial⟩
        · refine an_q (listed' := #[true, true, true, true, false, false, false]) rfl rfl rfl (q_loadA tA27 rfl rfl rfl ?_)
          refine an_step [4] (by kernel_rfl) rfl ?_
          refine ⟨?_, trivial⟩
          · refine an_k (listed' := #[true, true, true, true, true, false, false]) rfl rfl rfl (k_store sz27 rfl (by conv => lhs; whnf) rfl rfl rfl (Nat.le_of_ble_eq_true rfl) rfl ?_)
            refine an_step [5] (by kernel_rfl) rfl ?_
            refine ⟨?_, trivial⟩
            · refine an_q (listed' := #[true, true, true, true, true, true, false]) rfl rfl rfl (q_assign (by conv => lhs; whnf) ?_)
              refine an_step [6] (by kernel_rfl) rfl ?_
              refine ⟨?_, trivial⟩
              · refine an_q (listed' := #[true, true, true, true, true, true, true]) rfl rfl rfl (q_assign (by conv => lhs; whnf) ?_)
                refine an_end (by kernel_rfl) (hK8 _ ?_); clear hK8
                refine good_ret ?_
                repeat (first | refine thenQ_ret ?_ | refine blockQ_ret ?_)
                refine ex_3 (v := v5) (a := v7) (b := v19) ?hF ?hR
                case hF =>
                  refine fx_many rfl ?_
                  refine fxs_cell tA27 rfl rfl rfl ?_
                  refine fxs_tmp (by conv => lhs; whnf) ?_
                  refine fxs_tmp (by conv => lhs; whnf) ?_
                  refine fx_nil ?_
                  exact ⟨_, .tup (.cons (conv_eq (by first | rfl | exact fAgg1 (by first | rfl | simp_all) (fAgg1 (by first | rfl | exact fI (by first | omega | grind) | (exfalso; first | omega | grind)) (fAgg1 (by first | rfl | exact fI (by first | omega | grind) | (exfalso; first | omega | grind)) (fAgg1 (by first | rfl | exact fI (by first | omega | grind) | (exfalso; first | omega | grind)) (fAgg1 (by first | rfl | exact fI (by first | omega | grind) | (exfalso; first | omega | grind)) (rfl))))))) (.cons (conv_eq (by first | rfl | exact fI (by first | omega | grind) | (exfalso; first | omega | grind))) (.cons (conv_eq (by first | rfl | exact fI (by first | omega | grind) | (exfalso; first | omega | grind))) (.nil)))), weakH_none _, refsIn_ok rfl⟩
                case hR =>
                  exact hi2

-- spec.DrawLeastTransfer
set_option maxRecDepth 20000 in
set_option maxHeartbeats 2000000 in
theorem D_spec_DrawLeastTransfer (cs : List Int) (hc : cs.length ≤ 17592186044416) (hb : byteL cs) : DenXR Try.prog 43 [] [.lst 1 (cs.map cb)] (τ := Sb × Int × Int) (fun (v, p, l) => v.id.size ≤ 100) (fun (v, p, l) => []) (fun (v, p, l) => .tup [.agg [.s (.string v.id), .s (.int .i64 (v.nd)), .s (.int .i64 (v.tr)), .s (.int .i64 (v.su)), .s (.int .i64 (v.re))], .s (.int .i64 p), .s (.int .i64 l)]) := by
  refine denXR_of_good Try.func43 (by decide) rfl (Nat.le_of_ble_eq_true rfl) (Nat.le_of_ble_eq_true rfl) rfl ?_
  refine good_seq fun K1 hK1 => ?_
  refine good_region rfl ?_
  refine ev_k rfl (k_alloc zA27 rfl ?_)
  refine ev_q rfl (q_assign (by conv => lhs; whnf) ?_)
  refine ev_q rfl (q_assign (by conv => lhs; whnf) ?_)
  refine ev_nil (hK1 _ ?_); clear hK1
  refine good_seq fun K2 hK2 => ?_
  refine good_region rfl ?_
  refine ev_q rfl (q_move (by conv => lhs; whnf) ?_)
  refine ev_k rfl (k_callX [(5, 900000)] (D_spec_l00From cs) rfl (rfl) (rfl) trivial ⟨⟨rfl, show (900000 : Nat) < 1000000 by decide⟩, trivial⟩ rfl rfl rfl ?_)
  refine ev_q rfl (q_assign (by conv => lhs; whnf) ?_)
  refine ev_nil (hK2 _ ?_); clear hK2
  refine good_seq fun K3 hK3 => ?_
  refine good_region rfl ?_
  refine ev_q rfl (q_move (by conv => lhs; whnf) ?_)
  refine ev_q rfl (q_move (by conv => lhs; whnf) ?_)
  refine ev_k rfl (k_callR [(1000000, 900000)] (D_spec_l12DrawOne cs _ _ _ hc hb (by omega)) rfl (rfl) (rfl) ⟨rfl, trivial⟩ rfl (by rintro ⟨v4, a4, s4⟩ ⟨hx4_0, hx4_1⟩; exact ⟨⟨rfl, rfl, trivial⟩, rfl⟩) rfl rfl ?_)
  rintro ⟨v4, a4, s4⟩ ⟨hx4_0, hx4_1⟩
  have hi1 := hx4_0.1
  refine ev_k rfl (k_callR [(1000000, 900000)] (D_spec_l12Bend cs _ _ v4 hc hb (by omega) (by omega)) rfl (rfl) (rfl) ⟨rfl, trivial⟩ rfl (by rintro ⟨v5, a5, s5⟩ ⟨hx5_0, hx5_1⟩; exact ⟨⟨rfl, rfl, trivial⟩, rfl⟩) rfl rfl ?_)
  rintro ⟨v5, a5, s5⟩ ⟨hx5_0, hx5_1⟩
  have hi2 : v5.id.size ≤ 100 := by rw [hx5_0, hi1]; decide
  refine ev_k rfl (k_alloc zA27 rfl ?_)
  refine ev_k rfl (k_store sz27 rfl (by conv => lhs; whnf) rfl rfl rfl (Nat.le_of_ble_eq_true rfl) rfl ?_)
  refine ev_nil (hK3 _ ?_); clear hK3
  refine good_seq fun K6 hK6 => ?_
  refine good_region rfl ?_
  refine ev_q rfl (q_move (by conv => lhs; whnf) ?_)
  refine ev_k rfl (k_callR [(1000000, 900000)] (D_spec_l12DrawPrimary cs _ _  hc hb (by omega)) rfl (rfl) (rfl) ⟨rfl, trivial⟩ rfl (by rintro ⟨v7, a7, s7⟩ ⟨hx7_0, hx7_1⟩; exact ⟨⟨rfl, rfl, trivial⟩, rfl⟩) rfl rfl ?_)
  rintro ⟨v7, a7, s7⟩ ⟨hx7_0, hx7_1⟩
  refine ev_q rfl (q_assign (by conv => lhs; whnf) ?_)
  refine ev_nil (hK6 _ ?_); clear hK6
  refine good_seq fun K8 hK8 => ?_
  refine good_orders 7 (listed := #[false, false, false, false, false, false, false]) rfl rfl hmix rfl ?_
  refine an_step [0, 1, 2] (by kernel_rfl) rfl ?_
  refine ⟨?_, ?_, ?_, trivial⟩
  · refine an_q (listed' := #[true, false, false, false, false, false, false]) rfl rfl rfl (q_loadA tA27 rfl rfl rfl ?_)
    refine an_step [1, 2] (by kernel_rfl) rfl ?_
    refine ⟨?_, ?_, trivial⟩
    · refine an_q (listed' := #[true, true, false, false, false, false, false]) rfl rfl rfl (q_move (by conv => lhs; whnf) ?_)
      refine an_step [2] (by kernel_rfl) rfl ?_
      refine ⟨?_, trivial⟩
      · refine an_q (listed' := #[true, true, true, false, false, false, false]) rfl rfl rfl (q_move (by conv => lhs; whnf) ?_)
        refine an_step [3] (by kernel_rfl) rfl ?_
        refine ⟨?_, trivial⟩
        · refine an_k (listed' := #[true, true, true, true, false, false, false]) rfl rfl rfl (k_callR [(1000000, 900000)] (D_spec_l12DrawLoad cs _ _  hc hb (by omega)) rfl (rfl) (rfl) ⟨rfl, trivial⟩ rfl (by rintro ⟨v9, a9, s9⟩ ⟨hx9_0, hx9_1⟩; exact ⟨⟨rfl, rfl, trivial⟩, rfl⟩) rfl rfl ?_)
          rintro ⟨v9, a9, s9⟩ ⟨hx9_0, hx9_1⟩
          refine an_step [4] (by kernel_rfl) rfl ?_
          refine ⟨?_, trivial⟩
          · refine an_k (listed' := #[true, true, true, true, true, false, false]) rfl rfl rfl (k_store sz27 rfl (by conv => lhs; whnf) rfl rfl rfl (Nat.le_of_ble_eq_true rfl) rfl ?_)
            refine an_step [5] (by kernel_rfl) rfl ?_
            refine ⟨?_, trivial⟩
            · refine an_q (listed' := #[true, true, true, true, true, true, false]) rfl rfl rfl (q_assign (by conv => lhs; whnf) ?_)
              refine an_step [6] (by kernel_rfl) rfl ?_
              refine ⟨?_, trivial⟩
              · refine an_q (listed' := #[true, true, true, true, true, true, true]) rfl rfl rfl (q_assign (by conv => lhs; whnf) ?_)
                refine an_end (by kernel_rfl) (hK8 _ ?_); clear hK8
                refine good_ret ?_
                repeat (first | refine thenQ_ret ?_ | refine blockQ_ret ?_)
                refine ex_3 (v := v5) (a := v7) (b := v9) ?hF ?hR
                case hF =>
                  refine fx_many rfl ?_
                  refine fxs_cell tA27 rfl rfl rfl ?_
                  refine fxs_tmp (by conv => lhs; whnf) ?_
                  refine fxs_tmp (by conv => lhs; whnf) ?_
                  refine fx_nil ?_
                  exact ⟨_, .tup (.cons (conv_eq (by first | rfl | exact fAgg1 (by first | rfl | simp_all) (fAgg1 (by first | rfl | exact fI (by first | omega | grind) | (exfalso; first | omega | grind)) (fAgg1 (by first | rfl | exact fI (by first | omega | grind) | (exfalso; first | omega | grind)) (fAgg1 (by first | rfl | exact fI (by first | omega | grind) | (exfalso; first | omega | grind)) (fAgg1 (by first | rfl | exact fI (by first | omega | grind) | (exfalso; first | omega | grind)) (rfl))))))) (.cons (conv_eq (by first | rfl | exact fI (by first | omega | grind) | (exfalso; first | omega | grind))) (.cons (conv_eq (by first | rfl | exact fI (by first | omega | grind) | (exfalso; first | omega | grind))) (.nil)))), weakH_none _, refsIn_ok rfl⟩
                case hR =>
                  exact hi2
    · refine an_q (listed' := #[true, false, true, false, false, false, false]) rfl rfl rfl (q_move (by conv => lhs; whnf) ?_)
      refine an_step [1, 3] (by kernel_rfl) rfl ?_
      refine ⟨?_, ?_, trivial⟩
      · refine an_q (listed' := #[true, true, true, false, false, false, false]) rfl rfl rfl (q_move (by conv => lhs; whnf) ?_)
        refine an_step [3] (by kernel_rfl) rfl ?_
        refine ⟨?_, trivial⟩
        · refine an_k (listed' := #[true, true, true, true, false, false, false]) rfl rfl rfl (k_callR [(1000000, 900000)] (D_spec_l12DrawLoad cs _ _  hc hb (by omega)) rfl (rfl) (rfl) ⟨rfl, trivial⟩ rfl (by rintro ⟨v10, a10, s10⟩ ⟨hx10_0, hx10_1⟩; exact ⟨⟨rfl, rfl, trivial⟩, rfl⟩) rfl rfl ?_)
          rintro ⟨v10, a10, s10⟩ ⟨hx10_0, hx10_1⟩
          refine an_step [4] (by kernel_rfl) rfl ?_
          refine ⟨?_, trivial⟩
          · refine an_k (listed' := #[true, true, true, true, true, false, false]) rfl rfl rfl (k_store sz27 rfl (by conv => lhs; whnf) rfl rfl rfl (Nat.le_of_ble_eq_true rfl) rfl ?_)
            refine an_step [5] (by kernel_rfl) rfl ?_
            refine ⟨?_, trivial⟩
            · refine an_q (listed' := #[true, true, true, true, true, true, false]) rfl rfl rfl (q_assign (by conv => lhs; whnf) ?_)
              refine an_step [6] (by kernel_rfl) rfl ?_
              refine ⟨?_, trivial⟩
              · refine an_q (listed' := #[true, true, true, true, true, true, true]) rfl rfl rfl (q_assign (by conv => lhs; whnf) ?_)
                refine an_end (by kernel_rfl) (hK8 _ ?_); clear hK8
                refine good_ret ?_
                repeat (first | refine thenQ_ret ?_ | refine blockQ_ret ?_)
                refine ex_3 (v := v5) (a := v7) (b := v10) ?hF ?hR
                case hF =>
                  refine fx_many rfl ?_
                  refine fxs_cell tA27 rfl rfl rfl ?_
                  refine fxs_tmp (by conv => lhs; whnf) ?_
                  refine fxs_tmp (by conv => lhs; whnf) ?_
                  refine fx_nil ?_
                  exact ⟨_, .tup (.cons (conv_eq (by first | rfl | exact fAgg1 (by first | rfl | simp_all) (fAgg1 (by first | rfl | exact fI (by first | omega | grind) | (exfalso; first | omega | grind)) (fAgg1 (by first | rfl | exact fI (by first | omega | grind) | (exfalso; first | omega | grind)) (fAgg1 (by first | rfl | exact fI (by first | omega | grind) | (exfalso; first | omega | grind)) (fAgg1 (by first | rfl | exact fI (by first | omega | grind) | (exfalso; first | omega | grind)) (rfl))))))) (.cons (conv_eq (by first | rfl | exact fI (by first | omega | grind) | (exfalso; first | omega | grind))) (.cons (conv_eq (by first | rfl | exact fI (by first | omega | grind) | (exfalso; first | omega | grind))) (.nil)))), weakH_none _, refsIn_ok rfl⟩
                case hR =>
                  exact hi2
      · refine an_k (listed' := #[true, false, true, true, false, false, false]) rfl rfl rfl (k_callR [(1000000, 900000)] (D_spec_l12DrawLoad cs _ _  hc hb (by omega)) rfl (rfl) (rfl) ⟨rfl, trivial⟩ rfl (by rintro ⟨v11, a11, s11⟩ ⟨hx11_0, hx11_1⟩; exact ⟨⟨rfl, rfl, trivial⟩, rfl⟩) rfl rfl ?_)
        rintro ⟨v11, a11, s11⟩ ⟨hx11_0, hx11_1⟩
        refine an_step [1, 4] (by kernel_rfl) rfl ?_
        refine ⟨?_, ?_, trivial⟩
        · refine an_q (listed' := #[true, true, true, true, false, false, false]) rfl rfl rfl (q_move (by conv => lhs; whnf) ?_)
          refine an_step [4] (by kernel_rfl) rfl ?_
          refine ⟨?_, trivial⟩
          · refine an_k (listed' := #[true, true, true, true, true, false, false]) rfl rfl rfl (k_store sz27 rfl (by conv => lhs; whnf) rfl rfl rfl (Nat.le_of_ble_eq_true rfl) rfl ?_)
            refine an_step [5] (by kernel_rfl) rfl ?_
            refine ⟨?_, trivial⟩
            · refine an_q (listed' := #[true, true, true, true, true, true, false]) rfl rfl rfl (q_assign (by conv => lhs; whnf) ?_)
              refine an_step [6] (by kernel_rfl) rfl ?_
              refine ⟨?_, trivial⟩
              · refine an_q (listed' := #[true, true, true, true, true, true, true]) rfl rfl rfl (q_assign (by conv => lhs; whnf) ?_)
                refine an_end (by kernel_rfl) (hK8 _ ?_); clear hK8
                refine good_ret ?_
                repeat (first | refine thenQ_ret ?_ | refine blockQ_ret ?_)
                refine ex_3 (v := v5) (a := v7) (b := v11) ?hF ?hR
                case hF =>
                  refine fx_many rfl ?_
                  refine fxs_cell tA27 rfl rfl rfl ?_
                  refine fxs_tmp (by conv => lhs; whnf) ?_
                  refine fxs_tmp (by conv => lhs; whnf) ?_
                  refine fx_nil ?_
                  exact ⟨_, .tup (.cons (conv_eq (by first | rfl | exact fAgg1 (by first | rfl | simp_all) (fAgg1 (by first | rfl | exact fI (by first | omega | grind) | (exfalso; first | omega | grind)) (fAgg1 (by first | rfl | exact fI (by first | omega | grind) | (exfalso; first | omega | grind)) (fAgg1 (by first | rfl | exact fI (by first | omega | grind) | (exfalso; first | omega | grind)) (fAgg1 (by first | rfl | exact fI (by first | omega | grind) | (exfalso; first | omega | grind)) (rfl))))))) (.cons (conv_eq (by first | rfl | exact fI (by first | omega | grind) | (exfalso; first | omega | grind))) (.cons (conv_eq (by first | rfl | exact fI (by first | omega | grind) | (exfalso; first | omega | grind))) (.nil)))), weakH_none _, refsIn_ok rfl⟩
                case hR =>
                  exact hi2
        · refine an_k (listed' := #[true, false, true, true, true, false, false]) rfl rfl rfl (k_store sz27 rfl (by conv => lhs; whnf) rfl rfl rfl (Nat.le_of_ble_eq_true rfl) rfl ?_)
          refine an_step [1] (by kernel_rfl) rfl ?_
          refine ⟨?_, trivial⟩
          · refine an_q (listed' := #[true, true, true, true, true, false, false]) rfl rfl rfl (q_move (by conv => lhs; whnf) ?_)
            refine an_step [5] (by kernel_rfl) rfl ?_
            refine ⟨?_, trivial⟩
            · refine an_q (listed' := #[true, true, true, true, true, true, false]) rfl rfl rfl (q_assign (by conv => lhs; whnf) ?_)
              refine an_step [6] (by kernel_rfl) rfl ?_
              refine ⟨?_, trivial⟩
              · refine an_q (listed' := #[true, true, true, true, true, true, true]) rfl rfl rfl (q_assign (by conv => lhs; whnf) ?_)
                refine an_end (by kernel_rfl) (hK8 _ ?_); clear hK8
                refine good_ret ?_
                repeat (first | refine thenQ_ret ?_ | refine blockQ_ret ?_)
                refine ex_3 (v := v5) (a := v7) (b := v11) ?hF ?hR
                case hF =>
                  refine fx_many rfl ?_
                  refine fxs_cell tA27 rfl rfl rfl ?_
                  refine fxs_tmp (by conv => lhs; whnf) ?_
                  refine fxs_tmp (by conv => lhs; whnf) ?_
                  refine fx_nil ?_
                  exact ⟨_, .tup (.cons (conv_eq (by first | rfl | exact fAgg1 (by first | rfl | simp_all) (fAgg1 (by first | rfl | exact fI (by first | omega | grind) | (exfalso; first | omega | grind)) (fAgg1 (by first | rfl | exact fI (by first | omega | grind) | (exfalso; first | omega | grind)) (fAgg1 (by first | rfl | exact fI (by first | omega | grind) | (exfalso; first | omega | grind)) (fAgg1 (by first | rfl | exact fI (by first | omega | grind) | (exfalso; first | omega | grind)) (rfl))))))) (.cons (conv_eq (by first | rfl | exact fI (by first | omega | grind) | (exfalso; first | omega | grind))) (.cons (conv_eq (by first | rfl | exact fI (by first | omega | grind) | (exfalso; first | omega | grind))) (.nil)))), weakH_none _, refsIn_ok rfl⟩
                case hR =>
                  exact hi2
  · refine an_q (listed' := #[false, true, false, false, false, false, false]) rfl rfl rfl (q_move (by conv => lhs; whnf) ?_)
    refine an_step [0, 2] (by kernel_rfl) rfl ?_
    refine ⟨?_, ?_, trivial⟩
    · refine an_q (listed' := #[true, true, false, false, false, false, false]) rfl rfl rfl (q_loadA tA27 rfl rfl rfl ?_)
      refine an_step [2] (by kernel_rfl) rfl ?_
      refine ⟨?_, trivial⟩
      · refine an_q (listed' := #[true, true, true, false, false, false, false]) rfl rfl rfl (q_move (by conv => lhs; whnf) ?_)
        refine an_step [3] (by kernel_rfl) rfl ?_
        refine ⟨?_, trivial⟩
        · refine an_k (listed' := #[true, true, true, true, false, false, false]) rfl rfl rfl (k_callR [(1000000, 900000)] (D_spec_l12DrawLoad cs _ _  hc hb (by omega)) rfl (rfl) (rfl) ⟨rfl, trivial⟩ rfl (by rintro ⟨v12, a12, s12⟩ ⟨hx12_0, hx12_1⟩; exact ⟨⟨rfl, rfl, trivial⟩, rfl⟩) rfl rfl ?_)
          rintro ⟨v12, a12, s12⟩ ⟨hx12_0, hx12_1⟩
          refine an_step [4] (by kernel_rfl) rfl ?_
          refine ⟨?_, trivial⟩
          · refine an_k (listed' := #[true, true, true, true, true, false, false]) rfl rfl rfl (k_store sz27 rfl (by conv => lhs; whnf) rfl rfl rfl (Nat.le_of_ble_eq_true rfl) rfl ?_)
            refine an_step [5] (by kernel_rfl) rfl ?_
            refine ⟨?_, trivial⟩
            · refine an_q (listed' := #[true, true, true, true, true, true, false]) rfl rfl rfl (q_assign (by conv => lhs; whnf) ?_)
              refine an_step [6] (by kernel_rfl) rfl ?_
              refine ⟨?_, trivial⟩
              · refine an_q (listed' := #[true, true, true, true, true, true, true]) rfl rfl rfl (q_assign (by conv => lhs; whnf) ?_)
                refine an_end (by kernel_rfl) (hK8 _ ?_); clear hK8
                refine good_ret ?_
                repeat (first | refine thenQ_ret ?_ | refine blockQ_ret ?_)
                refine ex_3 (v := v5) (a := v7) (b := v12) ?hF ?hR
                case hF =>
                  refine fx_many rfl ?_
                  refine fxs_cell tA27 rfl rfl rfl ?_
                  refine fxs_tmp (by conv => lhs; whnf) ?_
                  refine fxs_tmp (by conv => lhs; whnf) ?_
                  refine fx_nil ?_
                  exact ⟨_, .tup (.cons (conv_eq (by first | rfl | exact fAgg1 (by first | rfl | simp_all) (fAgg1 (by first | rfl | exact fI (by first | omega | grind) | (exfalso; first | omega | grind)) (fAgg1 (by first | rfl | exact fI (by first | omega | grind) | (exfalso; first | omega | grind)) (fAgg1 (by first | rfl | exact fI (by first | omega | grind) | (exfalso; first | omega | grind)) (fAgg1 (by first | rfl | exact fI (by first | omega | grind) | (exfalso; first | omega | grind)) (rfl))))))) (.cons (conv_eq (by first | rfl | exact fI (by first | omega | grind) | (exfalso; first | omega | grind))) (.cons (conv_eq (by first | rfl | exact fI (by first | omega | grind) | (exfalso; first | omega | grind))) (.nil)))), weakH_none _, refsIn_ok rfl⟩
                case hR =>
                  exact hi2
    · refine an_q (listed' := #[false, true, true, false, false, false, false]) rfl rfl rfl (q_move (by conv => lhs; whnf) ?_)
      refine an_step [0, 3] (by kernel_rfl) rfl ?_
      refine ⟨?_, ?_, trivial⟩
      · refine an_q (listed' := #[true, true, true, false, false, false, false]) rfl rfl rfl (q_loadA tA27 rfl rfl rfl ?_)
        refine an_step [3] (by kernel_rfl) rfl ?_
        refine ⟨?_, trivial⟩
        · refine an_k (listed' := #[true, true, true, true, false, false, false]) rfl rfl rfl (k_callR [(1000000, 900000)] (D_spec_l12DrawLoad cs _ _  hc hb (by omega)) rfl (rfl) (rfl) ⟨rfl, trivial⟩ rfl (by rintro ⟨v13, a13, s13⟩ ⟨hx13_0, hx13_1⟩; exact ⟨⟨rfl, rfl, trivial⟩, rfl⟩) rfl rfl ?_)
          rintro ⟨v13, a13, s13⟩ ⟨hx13_0, hx13_1⟩
          refine an_step [4] (by kernel_rfl) rfl ?_
          refine ⟨?_, trivial⟩
          · refine an_k (listed' := #[true, true, true, true, true, false, false]) rfl rfl rfl (k_store sz27 rfl (by conv => lhs; whnf) rfl rfl rfl (Nat.le_of_ble_eq_true rfl) rfl ?_)
            refine an_step [5] (by kernel_rfl) rfl ?_
            refine ⟨?_, trivial⟩
            · refine an_q (listed' := #[true, true, true, true, true, true, false]) rfl rfl rfl (q_assign (by conv => lhs; whnf) ?_)
              refine an_step [6] (by kernel_rfl) rfl ?_
              refine ⟨?_, trivial⟩
              · refine an_q (listed' := #[true, true, true, true, true, true, true]) rfl rfl rfl (q_assign (by conv => lhs; whnf) ?_)
                refine an_end (by kernel_rfl) (hK8 _ ?_); clear hK8
                refine good_ret ?_
                repeat (first | refine thenQ_ret ?_ | refine blockQ_ret ?_)
                refine ex_3 (v := v5) (a := v7) (b := v13) ?hF ?hR
                case hF =>
                  refine fx_many rfl ?_
                  refine fxs_cell tA27 rfl rfl rfl ?_
                  refine fxs_tmp (by conv => lhs; whnf) ?_
                  refine fxs_tmp (by conv => lhs; whnf) ?_
                  refine fx_nil ?_
                  exact ⟨_, .tup (.cons (conv_eq (by first | rfl | exact fAgg1 (by first | rfl | simp_all) (fAgg1 (by first | rfl | exact fI (by first | omega | grind) | (exfalso; first | omega | grind)) (fAgg1 (by first | rfl | exact fI (by first | omega | grind) | (exfalso; first | omega | grind)) (fAgg1 (by first | rfl | exact fI (by first | omega | grind) | (exfalso; first | omega | grind)) (fAgg1 (by first | rfl | exact fI (by first | omega | grind) | (exfalso; first | omega | grind)) (rfl))))))) (.cons (conv_eq (by first | rfl | exact fI (by first | omega | grind) | (exfalso; first | omega | grind))) (.cons (conv_eq (by first | rfl | exact fI (by first | omega | grind) | (exfalso; first | omega | grind))) (.nil)))), weakH_none _, refsIn_ok rfl⟩
                case hR =>
                  exact hi2
      · refine an_k (listed' := #[false, true, true, true, false, false, false]) rfl rfl rfl (k_callR [(1000000, 900000)] (D_spec_l12DrawLoad cs _ _  hc hb (by omega)) rfl (rfl) (rfl) ⟨rfl, trivial⟩ rfl (by rintro ⟨v14, a14, s14⟩ ⟨hx14_0, hx14_1⟩; exact ⟨⟨rfl, rfl, trivial⟩, rfl⟩) rfl rfl ?_)
        rintro ⟨v14, a14, s14⟩ ⟨hx14_0, hx14_1⟩
        refine an_step [0] (by kernel_rfl) rfl ?_
        refine ⟨?_, trivial⟩
        · refine an_q (listed' := #[true, true, true, true, false, false, false]) rfl rfl rfl (q_loadA tA27 rfl rfl rfl ?_)
          refine an_step [4] (by kernel_rfl) rfl ?_
          refine ⟨?_, trivial⟩
          · refine an_k (listed' := #[true, true, true, true, true, false, false]) rfl rfl rfl (k_store sz27 rfl (by conv => lhs; whnf) rfl rfl rfl (Nat.le_of_ble_eq_true rfl) rfl ?_)
            refine an_step [5] (by kernel_rfl) rfl ?_
            refine ⟨?_, trivial⟩
            · refine an_q (listed' := #[true, true, true, true, true, true, false]) rfl rfl rfl (q_assign (by conv => lhs; whnf) ?_)
              refine an_step [6] (by kernel_rfl) rfl ?_
              refine ⟨?_, trivial⟩
              · refine an_q (listed' := #[true, true, true, true, true, true, true]) rfl rfl rfl (q_assign (by conv => lhs; whnf) ?_)
                refine an_end (by kernel_rfl) (hK8 _ ?_); clear hK8
                refine good_ret ?_
                repeat (first | refine thenQ_ret ?_ | refine blockQ_ret ?_)
                refine ex_3 (v := v5) (a := v7) (b := v14) ?hF ?hR
                case hF =>
                  refine fx_many rfl ?_
                  refine fxs_cell tA27 rfl rfl rfl ?_
                  refine fxs_tmp (by conv => lhs; whnf) ?_
                  refine fxs_tmp (by conv => lhs; whnf) ?_
                  refine fx_nil ?_
                  exact ⟨_, .tup (.cons (conv_eq (by first | rfl | exact fAgg1 (by first | rfl | simp_all) (fAgg1 (by first | rfl | exact fI (by first | omega | grind) | (exfalso; first | omega | grind)) (fAgg1 (by first | rfl | exact fI (by first | omega | grind) | (exfalso; first | omega | grind)) (fAgg1 (by first | rfl | exact fI (by first | omega | grind) | (exfalso; first | omega | grind)) (fAgg1 (by first | rfl | exact fI (by first | omega | grind) | (exfalso; first | omega | grind)) (rfl))))))) (.cons (conv_eq (by first | rfl | exact fI (by first | omega | grind) | (exfalso; first | omega | grind))) (.cons (conv_eq (by first | rfl | exact fI (by first | omega | grind) | (exfalso; first | omega | grind))) (.nil)))), weakH_none _, refsIn_ok rfl⟩
                case hR =>
                  exact hi2
  · refine an_q (listed' := #[false, false, true, false, false, false, false]) rfl rfl rfl (q_move (by conv => lhs; whnf) ?_)
    refine an_step [0, 1, 3] (by kernel_rfl) rfl ?_
    refine ⟨?_, ?_, ?_, trivial⟩
    · refine an_q (listed' := #[true, false, true, false, false, false, false]) rfl rfl rfl (q_loadA tA27 rfl rfl rfl ?_)
      refine an_step [1, 3] (by kernel_rfl) rfl ?_
      refine ⟨?_, ?_, trivial⟩
      · refine an_q (listed' := #[true, true, true, false, false, false, false]) rfl rfl rfl (q_move (by conv => lhs; whnf) ?_)
        refine an_step [3] (by kernel_rfl) rfl ?_
        refine ⟨?_, trivial⟩
        · refine an_k (listed' := #[true, true, true, true, false, false, false]) rfl rfl rfl (k_callR [(1000000, 900000)] (D_spec_l12DrawLoad cs _ _  hc hb (by omega)) rfl (rfl) (rfl) ⟨rfl, trivial⟩ rfl (by rintro ⟨v15, a15, s15⟩ ⟨hx15_0, hx15_1⟩; exact ⟨⟨rfl, rfl, trivial⟩, rfl⟩) rfl rfl ?_)
          rintro ⟨v15, a15, s15⟩ ⟨hx15_0, hx15_1⟩
          refine an_step [4] (by kernel_rfl) rfl ?_
          refine ⟨?_, trivial⟩
          · refine an_k (listed' := #[true, true, true, true, true, false, false]) rfl rfl rfl (k_store sz27 rfl (by conv => lhs; whnf) rfl rfl rfl (Nat.le_of_ble_eq_true rfl) rfl ?_)
            refine an_step [5] (by kernel_rfl) rfl ?_
            refine ⟨?_, trivial⟩
            · refine an_q (listed' := #[true, true, true, true, true, true, false]) rfl rfl rfl (q_assign (by conv => lhs; whnf) ?_)
              refine an_step [6] (by kernel_rfl) rfl ?_
              refine ⟨?_, trivial⟩
              · refine an_q (listed' := #[true, true, true, true, true, true, true]) rfl rfl rfl (q_assign (by conv => lhs; whnf) ?_)
                refine an_end (by kernel_rfl) (hK8 _ ?_); clear hK8
                refine good_ret ?_
                repeat (first | refine thenQ_ret ?_ | refine blockQ_ret ?_)
                refine ex_3 (v := v5) (a := v7) (b := v15) ?hF ?hR
                case hF =>
                  refine fx_many rfl ?_
                  refine fxs_cell tA27 rfl rfl rfl ?_
                  refine fxs_tmp (by conv => lhs; whnf) ?_
                  refine fxs_tmp (by conv => lhs; whnf) ?_
                  refine fx_nil ?_
                  exact ⟨_, .tup (.cons (conv_eq (by first | rfl | exact fAgg1 (by first | rfl | simp_all) (fAgg1 (by first | rfl | exact fI (by first | omega | grind) | (exfalso; first | omega | grind)) (fAgg1 (by first | rfl | exact fI (by first | omega | grind) | (exfalso; first | omega | grind)) (fAgg1 (by first | rfl | exact fI (by first | omega | grind) | (exfalso; first | omega | grind)) (fAgg1 (by first | rfl | exact fI (by first | omega | grind) | (exfalso; first | omega | grind)) (rfl))))))) (.cons (conv_eq (by first | rfl | exact fI (by first | omega | grind) | (exfalso; first | omega | grind))) (.cons (conv_eq (by first | rfl | exact fI (by first | omega | grind) | (exfalso; first | omega | grind))) (.nil)))), weakH_none _, refsIn_ok rfl⟩
                case hR =>
                  exact hi2
      · refine an_k (listed' := #[true, false, true, true, false, false, false]) rfl rfl rfl (k_callR [(1000000, 900000)] (D_spec_l12DrawLoad cs _ _  hc hb (by omega)) rfl (rfl) (rfl) ⟨rfl, trivial⟩ rfl (by rintro ⟨v16, a16, s16⟩ ⟨hx16_0, hx16_1⟩; exact ⟨⟨rfl, rfl, trivial⟩, rfl⟩) rfl rfl ?_)
        rintro ⟨v16, a16, s16⟩ ⟨hx16_0, hx16_1⟩
        refine an_step [1, 4] (by kernel_rfl) rfl ?_
        refine ⟨?_, ?_, trivial⟩
        · refine an_q (listed' := #[true, true, true, true, false, false, false]) rfl rfl rfl (q_move (by conv => lhs; whnf) ?_)
          refine an_step [4] (by kernel_rfl) rfl ?_
          refine ⟨?_, trivial⟩
          · refine an_k (listed' := #[true, true, true, true, true, false, false]) rfl rfl rfl (k_store sz27 rfl (by conv => lhs; whnf) rfl rfl rfl (Nat.le_of_ble_eq_true rfl) rfl ?_)
            refine an_step [5] (by kernel_rfl) rfl ?_
            refine ⟨?_, trivial⟩
            · refine an_q (listed' := #[true, true, true, true, true, true, false]) rfl rfl rfl (q_assign (by conv => lhs; whnf) ?_)
              refine an_step [6] (by kernel_rfl) rfl ?_
              refine ⟨?_, trivial⟩
              · refine an_q (listed' := #[true, true, true, true, true, true, true]) rfl rfl rfl (q_assign (by conv => lhs; whnf) ?_)
                refine an_end (by kernel_rfl) (hK8 _ ?_); clear hK8
                refine good_ret ?_
                repeat (first | refine thenQ_ret ?_ | refine blockQ_ret ?_)
                refine ex_3 (v := v5) (a := v7) (b := v16) ?hF ?hR
                case hF =>
                  refine fx_many rfl ?_
                  refine fxs_cell tA27 rfl rfl rfl ?_
                  refine fxs_tmp (by conv => lhs; whnf) ?_
                  refine fxs_tmp (by conv => lhs; whnf) ?_
                  refine fx_nil ?_
                  exact ⟨_, .tup (.cons (conv_eq (by first | rfl | exact fAgg1 (by first | rfl | simp_all) (fAgg1 (by first | rfl | exact fI (by first | omega | grind) | (exfalso; first | omega | grind)) (fAgg1 (by first | rfl | exact fI (by first | omega | grind) | (exfalso; first | omega | grind)) (fAgg1 (by first | rfl | exact fI (by first | omega | grind) | (exfalso; first | omega | grind)) (fAgg1 (by first | rfl | exact fI (by first | omega | grind) | (exfalso; first | omega | grind)) (rfl))))))) (.cons (conv_eq (by first | rfl | exact fI (by first | omega | grind) | (exfalso; first | omega | grind))) (.cons (conv_eq (by first | rfl | exact fI (by first | omega | grind) | (exfalso; first | omega | grind))) (.nil)))), weakH_none _, refsIn_ok rfl⟩
                case hR =>
                  exact hi2
        · refine an_k (listed' := #[true, false, true, true, true, false, false]) rfl rfl rfl (k_store sz27 rfl (by conv => lhs; whnf) rfl rfl rfl (Nat.le_of_ble_eq_true rfl) rfl ?_)
          refine an_step [1] (by kernel_rfl) rfl ?_
          refine ⟨?_, trivial⟩
          · refine an_q (listed' := #[true, true, true, true, true, false, false]) rfl rfl rfl (q_move (by conv => lhs; whnf) ?_)
            refine an_step [5] (by kernel_rfl) rfl ?_
            refine ⟨?_, trivial⟩
            · refine an_q (listed' := #[true, true, true, true, true, true, false]) rfl rfl rfl (q_assign (by conv => lhs; whnf) ?_)
              refine an_step [6] (by kernel_rfl) rfl ?_
              refine ⟨?_, trivial⟩
              · refine an_q (listed' := #[true, true, true, true, true, true, true]) rfl rfl rfl (q_assign (by conv => lhs; whnf) ?_)
                refine an_end (by kernel_rfl) (hK8 _ ?_); clear hK8
                refine good_ret ?_
                repeat (first | refine thenQ_ret ?_ | refine blockQ_ret ?_)
                refine ex_3 (v := v5) (a := v7) (b := v16) ?hF ?hR
                case hF =>
                  refine fx_many rfl ?_
                  refine fxs_cell tA27 rfl rfl rfl ?_
                  refine fxs_tmp (by conv => lhs; whnf) ?_
                  refine fxs_tmp (by conv => lhs; whnf) ?_
                  refine fx_nil ?_
                  exact ⟨_, .tup (.cons (conv_eq (by first | rfl | exact fAgg1 (by first | rfl | simp_all) (fAgg1 (by first | rfl | exact fI (by first | omega | grind) | (exfalso; first | omega | grind)) (fAgg1 (by first | rfl | exact fI (by first | omega | grind) | (exfalso; first | omega | grind)) (fAgg1 (by first | rfl | exact fI (by first | omega | grind) | (exfalso; first | omega | grind)) (fAgg1 (by first | rfl | exact fI (by first | omega | grind) | (exfalso; first | omega | grind)) (rfl))))))) (.cons (conv_eq (by first | rfl | exact fI (by first | omega | grind) | (exfalso; first | omega | grind))) (.cons (conv_eq (by first | rfl | exact fI (by first | omega | grind) | (exfalso; first | omega | grind))) (.nil)))), weakH_none _, refsIn_ok rfl⟩
                case hR =>
                  exact hi2
    · refine an_q (listed' := #[false, true, true, false, false, false, false]) rfl rfl rfl (q_move (by conv => lhs; whnf) ?_)
      refine an_step [0, 3] (by kernel_rfl) rfl ?_
      refine ⟨?_, ?_, trivial⟩
      · refine an_q (listed' := #[true, true, true, false, false, false, false]) rfl rfl rfl (q_loadA tA27 rfl rfl rfl ?_)
        refine an_step [3] (by kernel_rfl) rfl ?_
        refine ⟨?_, trivial⟩
        · refine an_k (listed' := #[true, true, true, true, false, false, false]) rfl rfl rfl (k_callR [(1000000, 900000)] (D_spec_l12DrawLoad cs _ _  hc hb (by omega)) rfl (rfl) (rfl) ⟨rfl, trivial⟩ rfl (by rintro ⟨v17, a17, s17⟩ ⟨hx17_0, hx17_1⟩; exact ⟨⟨rfl, rfl, trivial⟩, rfl⟩) rfl rfl ?_)
          rintro ⟨v17, a17, s17⟩ ⟨hx17_0, hx17_1⟩
          refine an_step [4] (by kernel_rfl) rfl ?_
          refine ⟨?_, trivial⟩
          · refine an_k (listed' := #[true, true, true, true, true, false, false]) rfl rfl rfl (k_store sz27 rfl (by conv => lhs; whnf) rfl rfl rfl (Nat.le_of_ble_eq_true rfl) rfl ?_)
            refine an_step [5] (by kernel_rfl) rfl ?_
            refine ⟨?_, trivial⟩
            · refine an_q (listed' := #[true, true, true, true, true, true, false]) rfl rfl rfl (q_assign (by conv => lhs; whnf) ?_)
              refine an_step [6] (by kernel_rfl) rfl ?_
              refine ⟨?_, trivial⟩
              · refine an_q (listed' := #[true, true, true, true, true, true, true]) rfl rfl rfl (q_assign (by conv => lhs; whnf) ?_)
                refine an_end (by kernel_rfl) (hK8 _ ?_); clear hK8
                refine good_ret ?_
                repeat (first | refine thenQ_ret ?_ | refine blockQ_ret ?_)
                refine ex_3 (v := v5) (a := v7) (b := v17) ?hF ?hR
                case hF =>
                  refine fx_many rfl ?_
                  refine fxs_cell tA27 rfl rfl rfl ?_
                  refine fxs_tmp (by conv => lhs; whnf) ?_
                  refine fxs_tmp (by conv => lhs; whnf) ?_
                  refine fx_nil ?_
                  exact ⟨_, .tup (.cons (conv_eq (by first | rfl | exact fAgg1 (by first | rfl | simp_all) (fAgg1 (by first | rfl | exact fI (by first | omega | grind) | (exfalso; first | omega | grind)) (fAgg1 (by first | rfl | exact fI (by first | omega | grind) | (exfalso; first | omega | grind)) (fAgg1 (by first | rfl | exact fI (by first | omega | grind) | (exfalso; first | omega | grind)) (fAgg1 (by first | rfl | exact fI (by first | omega | grind) | (exfalso; first | omega | grind)) (rfl))))))) (.cons (conv_eq (by first | rfl | exact fI (by first | omega | grind) | (exfalso; first | omega | grind))) (.cons (conv_eq (by first | rfl | exact fI (by first | omega | grind) | (exfalso; first | omega | grind))) (.nil)))), weakH_none _, refsIn_ok rfl⟩
                case hR =>
                  exact hi2
      · refine an_k (listed' := #[false, true, true, true, false, false, false]) rfl rfl rfl (k_callR [(1000000, 900000)] (D_spec_l12DrawLoad cs _ _  hc hb (by omega)) rfl (rfl) (rfl) ⟨rfl, trivial⟩ rfl (by rintro ⟨v18, a18, s18⟩ ⟨hx18_0, hx18_1⟩; exact ⟨⟨rfl, rfl, trivial⟩, rfl⟩) rfl rfl ?_)
        rintro ⟨v18, a18, s18⟩ ⟨hx18_0, hx18_1⟩
        refine an_step [0] (by kernel_rfl) rfl ?_
        refine ⟨?_, trivial⟩
        · refine an_q (listed' := #[true, true, true, true, false, false, false]) rfl rfl rfl (q_loadA tA27 rfl rfl rfl ?_)
          refine an_step [4] (by kernel_rfl) rfl ?_
          refine ⟨?_, trivial⟩
          · refine an_k (listed' := #[true, true, true, true, true, false, false]) rfl rfl rfl (k_store sz27 rfl (by conv => lhs; whnf) rfl rfl rfl (Nat.le_of_ble_eq_true rfl) rfl ?_)
            refine an_step [5] (by kernel_rfl) rfl ?_
            refine ⟨?_, trivial⟩
            · refine an_q (listed' := #[true, true, true, true, true, true, false]) rfl rfl rfl (q_assign (by conv => lhs; whnf) ?_)
              refine an_step [6] (by kernel_rfl) rfl ?_
              refine ⟨?_, trivial⟩
              · refine an_q (listed' := #[true, true, true, true, true, true, true]) rfl rfl rfl (q_assign (by conv => lhs; whnf) ?_)
                refine an_end (by kernel_rfl) (hK8 _ ?_); clear hK8
                refine good_ret ?_
                repeat (first | refine thenQ_ret ?_ | refine blockQ_ret ?_)
                refine ex_3 (v := v5) (a := v7) (b := v18) ?hF ?hR
                case hF =>
                  refine fx_many rfl ?_
                  refine fxs_cell tA27 rfl rfl rfl ?_
                  refine fxs_tmp (by conv => lhs; whnf) ?_
                  refine fxs_tmp (by conv => lhs; whnf) ?_
                  refine fx_nil ?_
                  exact ⟨_, .tup (.cons (conv_eq (by first | rfl | exact fAgg1 (by first | rfl | simp_all) (fAgg1 (by first | rfl | exact fI (by first | omega | grind) | (exfalso; first | omega | grind)) (fAgg1 (by first | rfl | exact fI (by first | omega | grind) | (exfalso; first | omega | grind)) (fAgg1 (by first | rfl | exact fI (by first | omega | grind) | (exfalso; first | omega | grind)) (fAgg1 (by first | rfl | exact fI (by first | omega | grind) | (exfalso; first | omega | grind)) (rfl))))))) (.cons (conv_eq (by first | rfl | exact fI (by first | omega | grind) | (exfalso; first | omega | grind))) (.cons (conv_eq (by first | rfl | exact fI (by first | omega | grind) | (exfalso; first | omega | grind))) (.nil)))), weakH_none _, refsIn_ok rfl⟩
                case hR =>
                  exact hi2
    · refine an_k (listed' := #[false, false, true, true, false, false, false]) rfl rfl rfl (k_callR [(1000000, 900000)] (D_spec_l12DrawLoad cs _ _  hc hb (by omega)) rfl (rfl) (rfl) ⟨rfl, trivial⟩ rfl (by rintro ⟨v19, a19, s19⟩ ⟨hx19_0, hx19_1⟩; exact ⟨⟨rfl, rfl, trivial⟩, rfl⟩) rfl rfl ?_)
      rintro ⟨v19, a19, s19⟩ ⟨hx19_0, hx19_1⟩
      refine an_step [0, 1] (by kernel_rfl) rfl ?_
      refine ⟨?_, ?_, trivial⟩
      · refine an_q (listed' := #[true, false, true, true, false, false, false]) rfl rfl rfl (q_loadA tA27 rfl rfl rfl ?_)
        refine an_step [1, 4] (by kernel_rfl) rfl ?_
        refine ⟨?_, ?_, trivial⟩
        · refine an_q (listed' := #[true, true, true, true, false, false, false]) rfl rfl rfl (q_move (by conv => lhs; whnf) ?_)
          refine an_step [4] (by kernel_rfl) rfl ?_
          refine ⟨?_, trivial⟩
          · refine an_k (listed' := #[true, true, true, true, true, false, false]) rfl rfl rfl (k_store sz27 rfl (by conv => lhs; whnf) rfl rfl rfl (Nat.le_of_ble_eq_true rfl) rfl ?_)
            refine an_step [5] (by kernel_rfl) rfl ?_
            refine ⟨?_, trivial⟩
            · refine an_q (listed' := #[true, true, true, true, true, true, false]) rfl rfl rfl (q_assign (by conv => lhs; whnf) ?_)
              refine an_step [6] (by kernel_rfl) rfl ?_
              refine ⟨?_, trivial⟩
              · refine an_q (listed' := #[true, true, true, true, true, true, true]) rfl rfl rfl (q_assign (by conv => lhs; whnf) ?_)
                refine an_end (by kernel_rfl) (hK8 _ ?_); clear hK8
                refine good_ret ?_
                repeat (first | refine thenQ_ret ?_ | refine blockQ_ret ?_)
                refine ex_3 (v := v5) (a := v7) (b := v19) ?hF ?hR
                case hF =>
                  refine fx_many rfl ?_
                  refine fxs_cell tA27 rfl rfl rfl ?_
                  refine fxs_tmp (by conv => lhs; whnf) ?_
                  refine fxs_tmp (by conv => lhs; whnf) ?_
                  refine fx_nil ?_
                  exact ⟨_, .tup (.cons (conv_eq (by first | rfl | exact fAgg1 (by first | rfl | simp_all) (fAgg1 (by first | rfl | exact fI (by first | omega | grind) | (exfalso; first | omega | grind)) (fAgg1 (by first | rfl | exact fI (by first | omega | grind) | (exfalso; first | omega | grind)) (fAgg1 (by first | rfl | exact fI (by first | omega | grind) | (exfalso; first | omega | grind)) (fAgg1 (by first | rfl | exact fI (by first | omega | grind) | (exfalso; first | omega | grind)) (rfl))))))) (.cons (conv_eq (by first | rfl | exact fI (by first | omega | grind) | (exfalso; first | omega | grind))) (.cons (conv_eq (by first | rfl | exact fI (by first | omega | grind) | (exfalso; first | omega | grind))) (.nil)))), weakH_none _, refsIn_ok rfl⟩
                case hR =>
                  exact hi2
        · refine an_k (listed' := #[true, false, true, true, true, false, false]) rfl rfl rfl (k_store sz27 rfl (by conv => lhs; whnf) rfl rfl rfl (Nat.le_of_ble_eq_true rfl) rfl ?_)
          refine an_step [1] (by kernel_rfl) rfl ?_
          refine ⟨?_, trivial⟩
          · refine an_q (listed' := #[true, true, true, true, true, false, false]) rfl rfl rfl (q_move (by conv => lhs; whnf) ?_)
            refine an_step [5] (by kernel_rfl) rfl ?_
            refine ⟨?_, trivial⟩
            · refine an_q (listed' := #[true, true, true, true, true, true, false]) rfl rfl rfl (q_assign (by conv => lhs; whnf) ?_)
              refine an_step [6] (by kernel_rfl) rfl ?_
              refine ⟨?_, trivial⟩
              · refine an_q (listed' := #[true, true, true, true, true, true, true]) rfl rfl rfl (q_assign (by conv => lhs; whnf) ?_)
                refine an_end (by kernel_rfl) (hK8 _ ?_); clear hK8
                refine good_ret ?_
                repeat (first | refine thenQ_ret ?_ | refine blockQ_ret ?_)
                refine ex_3 (v := v5) (a := v7) (b := v19) ?hF ?hR
                case hF =>
                  refine fx_many rfl ?_
                  refine fxs_cell tA27 rfl rfl rfl ?_
                  refine fxs_tmp (by conv => lhs; whnf) ?_
                  refine fxs_tmp (by conv => lhs; whnf) ?_
                  refine fx_nil ?_
                  exact ⟨_, .tup (.cons (conv_eq (by first | rfl | exact fAgg1 (by first | rfl | simp_all) (fAgg1 (by first | rfl | exact fI (by first | omega | grind) | (exfalso; first | omega | grind)) (fAgg1 (by first | rfl | exact fI (by first | omega | grind) | (exfalso; first | omega | grind)) (fAgg1 (by first | rfl | exact fI (by first | omega | grind) | (exfalso; first | omega | grind)) (fAgg1 (by first | rfl | exact fI (by first | omega | grind) | (exfalso; first | omega | grind)) (rfl))))))) (.cons (conv_eq (by first | rfl | exact fI (by first | omega | grind) | (exfalso; first | omega | grind))) (.cons (conv_eq (by first | rfl | exact fI (by first | omega | grind) | (exfalso; first | omega | grind))) (.nil)))), weakH_none _, refsIn_ok rfl⟩
                case hR =>
                  exact hi2
      · refine an_q (listed' := #[false, true, true, true, false, false, false]) rfl rfl rfl (q_move (by conv => lhs; whnf) ?_)
        refine an_step [0] (by kernel_rfl) rfl ?_
        refine ⟨?_, trivial⟩
        · refine an_q (listed' := #[true, true, true, true, false, false, false]) rfl rfl rfl (q_loadA tA27 rfl rfl rfl ?_)
          refine an_step [4] (by kernel_rfl) rfl ?_
          refine ⟨?_, trivial⟩
          · refine an_k (listed' := #[true, true, true, true, true, false, false]) rfl rfl rfl (k_store sz27 rfl (by conv => lhs; whnf) rfl rfl rfl (Nat.le_of_ble_eq_true rfl) rfl ?_)
            refine an_step [5] (by kernel_rfl) rfl ?_
            refine ⟨?_, trivial⟩
            · refine an_q (listed' := #[true, true, true, true, true, true, false]) rfl rfl rfl (q_assign (by conv => lhs; whnf) ?_)
              refine an_step [6] (by kernel_rfl) rfl ?_
              refine ⟨?_, trivial⟩
              · refine an_q (listed' := #[true, true, true, true, true, true, true]) rfl rfl rfl (q_assign (by conv => lhs; whnf) ?_)
                refine an_end (by kernel_rfl) (hK8 _ ?_); clear hK8
                refine good_ret ?_
                repeat (first | refine thenQ_ret ?_ | refine blockQ_ret ?_)
                refine ex_3 (v := v5) (a := v7) (b := v19) ?hF ?hR
                case hF =>
                  refine fx_many rfl ?_
                  refine fxs_cell tA27 rfl rfl rfl ?_
                  refine fxs_tmp (by conv => lhs; whnf) ?_
                  refine fxs_tmp (by conv => lhs; whnf) ?_
                  refine fx_nil ?_
                  exact ⟨_, .tup (.cons (conv_eq (by first | rfl | exact fAgg1 (by first | rfl | simp_all) (fAgg1 (by first | rfl | exact fI (by first | omega | grind) | (exfalso; first | omega | grind)) (fAgg1 (by first | rfl | exact fI (by first | omega | grind) | (exfalso; first | omega | grind)) (fAgg1 (by first | rfl | exact fI (by first | omega | grind) | (exfalso; first | omega | grind)) (fAgg1 (by first | rfl | exact fI (by first | omega | grind) | (exfalso; first | omega | grind)) (rfl))))))) (.cons (conv_eq (by first | rfl | exact fI (by first | omega | grind) | (exfalso; first | omega | grind))) (.cons (conv_eq (by first | rfl | exact fI (by first | omega | grind) | (exfalso; first | omega | grind))) (.nil)))), weakH_none _, refsIn_ok rfl⟩
                case hR =>
                  exact hi2

-- spec.DrawLeastPrimary
set_option maxRecDepth 20000 in
set_option maxHeartbeats 2000000 in
theorem D_spec_DrawLeastPrimary (cs : List Int) (hc : cs.length ≤ 17592186044416) (hb : byteL cs) : DenXR Try.prog 44 [] [.lst 1 (cs.map cb)] (τ := Sb × Int × Int) (fun (v, p, l) => v.id.size ≤ 100) (fun (v, p, l) => []) (fun (v, p, l) => .tup [.agg [.s (.string v.id), .s (.int .i64 (v.nd)), .s (.int .i64 (v.tr)), .s (.int .i64 (v.su)), .s (.int .i64 (v.re))], .s (.int .i64 p), .s (.int .i64 l)]) := by
  refine denXR_of_good Try.func44 (by decide) rfl (Nat.le_of_ble_eq_true rfl) (Nat.le_of_ble_eq_true rfl) rfl ?_
  refine good_seq fun K1 hK1 => ?_
  refine good_region rfl ?_
  refine ev_k rfl (k_alloc zA27 rfl ?_)
  refine ev_q rfl (q_assign (by conv => lhs; whnf) ?_)
  refine ev_q rfl (q_assign (by conv => lhs; whnf) ?_)
  refine ev_nil (hK1 _ ?_); clear hK1
  refine good_seq fun K2 hK2 => ?_
  refine good_region rfl ?_
  refine ev_q rfl (q_move (by conv => lhs; whnf) ?_)
  refine ev_k rfl (k_callX [(5, 900000)] (D_spec_l00From cs) rfl (rfl) (rfl) trivial ⟨⟨rfl, show (900000 : Nat) < 1000000 by decide⟩, trivial⟩ rfl rfl rfl ?_)
  refine ev_q rfl (q_assign (by conv => lhs; whnf) ?_)
  refine ev_nil (hK2 _ ?_); clear hK2
  refine good_seq fun K3 hK3 => ?_
  refine good_region rfl ?_
  refine ev_q rfl (q_move (by conv => lhs; whnf) ?_)
  refine ev_q rfl (q_move (by conv => lhs; whnf) ?_)
  refine ev_k rfl (k_callR [(1000000, 900000)] (D_spec_l12DrawOne cs _ _ _ hc hb (by omega)) rfl (rfl) (rfl) ⟨rfl, trivial⟩ rfl (by rintro ⟨v4, a4, s4⟩ ⟨hx4_0, hx4_1⟩; exact ⟨⟨rfl, rfl, trivial⟩, rfl⟩) rfl rfl ?_)
  rintro ⟨v4, a4, s4⟩ ⟨hx4_0, hx4_1⟩
  have hi1 := hx4_0.1
  refine ev_k rfl (k_callR [(1000000, 900000)] (D_spec_l12Bend cs _ _ v4 hc hb (by omega) (by omega)) rfl (rfl) (rfl) ⟨rfl, trivial⟩ rfl (by rintro ⟨v5, a5, s5⟩ ⟨hx5_0, hx5_1⟩; exact ⟨⟨rfl, rfl, trivial⟩, rfl⟩) rfl rfl ?_)
  rintro ⟨v5, a5, s5⟩ ⟨hx5_0, hx5_1⟩
  have hi2 : v5.id.size ≤ 100 := by rw [hx5_0, hi1]; decide
  refine ev_k rfl (k_alloc zA27 rfl ?_)
  refine ev_k rfl (k_store sz27 rfl (by conv => lhs; whnf) rfl rfl rfl (Nat.le_of_ble_eq_true rfl) rfl ?_)
  refine ev_nil (hK3 _ ?_); clear hK3
  refine good_seq fun K6 hK6 => ?_
  refine good_region rfl ?_
  refine ev_q rfl (q_move (by conv => lhs; whnf) ?_)
  refine ev_k rfl (k_callR [(1000000, 900000)] (D_spec_l12DrawLoad cs _ _  hc hb (by omega)) rfl (rfl) (rfl) ⟨rfl, trivial⟩ rfl (by rintro ⟨v7, a7, s7⟩ ⟨hx7_0, hx7_1⟩; exact ⟨⟨rfl, rfl, trivial⟩, rfl⟩) rfl rfl ?_)
  rintro ⟨v7, a7, s7⟩ ⟨hx7_0, hx7_1⟩
  refine ev_q rfl (q_assign (by conv => lhs; whnf) ?_)
  refine ev_nil (hK6 _ ?_); clear hK6
  refine good_seq fun K8 hK8 => ?_
  refine good_orders 7 (listed := #[false, false, false, false, false, false, false]) rfl rfl hmix rfl ?_
  refine an_step [0, 1, 2] (by kernel_rfl) rfl ?_
  refine ⟨?_, ?_, ?_, trivial⟩
  · refine an_q (listed' := #[true, false, false, false, false, false, false]) rfl rfl rfl (q_loadA tA27 rfl rfl rfl ?_)
    refine an_step [1, 2] (by kernel_rfl) rfl ?_
    refine ⟨?_, ?_, trivial⟩
    · refine an_q (listed' := #[true, true, false, false, false, false, false]) rfl rfl rfl (q_move (by conv => lhs; whnf) ?_)
      refine an_step [2] (by kernel_rfl) rfl ?_
      refine ⟨?_, trivial⟩
      · refine an_q (listed' := #[true, true, true, false, false, false, false]) rfl rfl rfl (q_move (by conv => lhs; whnf) ?_)
        refine an_step [3] (by kernel_rfl) rfl ?_
        refine ⟨?_, trivial⟩
        · refine an_k (listed' := #[true, true, true, true, false, false, false]) rfl rfl rfl (k_callR [(1000000, 900000)] (D_spec_l02DrawFlow cs _ _  hc hb (by omega)) rfl (rfl) (rfl) ⟨rfl, trivial⟩ rfl (by rintro ⟨v9, a9, s9⟩ ⟨hx9_0, hx9_1⟩; exact ⟨⟨rfl, rfl, trivial⟩, rfl⟩) rfl rfl ?_)
          rintro ⟨v9, a9, s9⟩ ⟨hx9_0, hx9_1⟩
          refine an_step [4] (by kernel_rfl) rfl ?_
          refine ⟨?_, trivial⟩
          · refine an_k (listed' := #[true, true, true, true, true, false, false]) rfl rfl rfl (k_store sz27 rfl (by conv => lhs; whnf) rfl rfl rfl (Nat.le_of_ble_eq_true rfl) rfl ?_)
            refine an_step [5] (by kernel_rfl) rfl ?_
            refine ⟨?_, trivial⟩
            · refine an_q (listed' := #[true, true, true, true, true, true, false]) rfl rfl rfl (q_assign (by conv => lhs; whnf) ?_)
              refine an_step [6] (by kernel_rfl) rfl ?_
              refine ⟨?_, trivial⟩
              · refine an_q (listed' := #[true, true, true, true, true, true, true]) rfl rfl rfl (q_assign (by conv => lhs; whnf) ?_)
                refine an_end (by kernel_rfl) (hK8 _ ?_); clear hK8
                refine good_ret ?_
                repeat (first | refine thenQ_ret ?_ | refine blockQ_ret ?_)
                refine ex_3 (v := v5) (a := v7) (b := v9) ?hF ?hR
                case hF =>
                  refine fx_many rfl ?_
                  refine fxs_cell tA27 rfl rfl rfl ?_
                  refine fxs_tmp (by conv => lhs; whnf) ?_
                  refine fxs_tmp (by conv => lhs; whnf) ?_
                  refine fx_nil ?_
                  exact ⟨_, .tup (.cons (conv_eq (by first | rfl | exact fAgg1 (by first | rfl | simp_all) (fAgg1 (by first | rfl | exact fI (by first | omega | grind) | (exfalso; first | omega | grind)) (fAgg1 (by first | rfl | exact fI (by first | omega | grind) | (exfalso; first | omega | grind)) (fAgg1 (by first | rfl | exact fI (by first | omega | grind) | (exfalso; first | omega | grind)) (fAgg1 (by first | rfl | exact fI (by first | omega | grind) | (exfalso; first | omega | grind)) (rfl))))))) (.cons (conv_eq (by first | rfl | exact fI (by first | omega | grind) | (exfalso; first | omega | grind))) (.cons (conv_eq (by first | rfl | exact fI (by first | omega | grind) | (exfalso; first | omega | grind))) (.nil)))), weakH_none _, refsIn_ok rfl⟩
                case hR =>
                  exact hi2
    · refine an_q (listed' := #[true, false, true, false, false, false, false]) rfl rfl rfl (q_move (by conv => lhs; whnf) ?_)
      refine an_step [1, 3] (by kernel_rfl) rfl ?_
      refine ⟨?_, ?_, trivial⟩
      · refine an_q (listed' := #[true, true, true, false, false, false, false]) rfl rfl rfl (q_move (by conv => lhs; whnf) ?_)
        refine an_step [3] (by kernel_rfl) rfl ?_
        refine ⟨?_, trivial⟩
        · refine an_k (listed' := #[true, true, true, true, false, false, false]) rfl rfl rfl (k_callR [(1000000, 900000)] (D_spec_l02DrawFlow cs _ _  hc hb (by omega)) rfl (rfl) (rfl) ⟨rfl, trivial⟩ rfl (by rintro ⟨v10, a10, s10⟩ ⟨hx10_0, hx10_1⟩; exact ⟨⟨rfl, rfl, trivial⟩, rfl⟩) rfl rfl ?_)
          rintro ⟨v10, a10, s10⟩ ⟨hx10_0, hx10_1⟩
          refine an_step [4] (by kernel_rfl) rfl ?_
          refine ⟨?_, trivial⟩
          · refine an_k (listed' := #[true, true, true, true, true, false, false]) rfl rfl rfl (k_store sz27 rfl (by conv => lhs; whnf) rfl rfl rfl (Nat.le_of_ble_eq_true rfl) rfl ?_)
            refine an_step [5] (by kernel_rfl) rfl ?_
            refine ⟨?_, trivial⟩
            · refine an_q (listed' := #[true, true, true, true, true, true, false]) rfl rfl rfl (q_assign (by conv => lhs; whnf) ?_)
              refine an_step [6] (by kernel_rfl) rfl ?_
              refine ⟨?_, trivial⟩
              · refine an_q (listed' := #[true, true, true, true, true, true, true]) rfl rfl rfl (q_assign (by conv => lhs; whnf) ?_)
                refine an_end (by kernel_rfl) (hK8 _ ?_); clear hK8
                refine good_ret ?_
                repeat (first | refine thenQ_ret ?_ | refine blockQ_ret ?_)
                refine ex_3 (v := v5) (a := v7) (b := v10) ?hF ?hR
                case hF =>
                  refine fx_many rfl ?_
                  refine fxs_cell tA27 rfl rfl rfl ?_
                  refine fxs_tmp (by conv => lhs; whnf) ?_
                  refine fxs_tmp (by conv => lhs; whnf) ?_
                  refine fx_nil ?_
                  exact ⟨_, .tup (.cons (conv_eq (by first | rfl | exact fAgg1 (by first | rfl | simp_all) (fAgg1 (by first | rfl | exact fI (by first | omega | grind) | (exfalso; first | omega | grind)) (fAgg1 (by first | rfl | exact fI (by first | omega | grind) | (exfalso; first | omega | grind)) (fAgg1 (by first | rfl | exact fI (by first | omega | grind) | (exfalso; first | omega | grind)) (fAgg1 (by first | rfl | exact fI (by first | omega | grind) | (exfalso; first | omega | grind)) (rfl))))))) (.cons (conv_eq (by first | rfl | exact fI (by first | omega | grind) | (exfalso; first | omega | grind))) (.cons (conv_eq (by first | rfl | exact fI (by first | omega | grind) | (exfalso; first | omega | grind))) (.nil)))), weakH_none _, refsIn_ok rfl⟩
                case hR =>
                  exact hi2
      · refine an_k (listed' := #[true, false, true, true, false, false, false]) rfl rfl rfl (k_callR [(1000000, 900000)] (D_spec_l02DrawFlow cs _ _  hc hb (by omega)) rfl (rfl) (rfl) ⟨rfl, trivial⟩ rfl (by rintro ⟨v11, a11, s11⟩ ⟨hx11_0, hx11_1⟩; exact ⟨⟨rfl, rfl, trivial⟩, rfl⟩) rfl rfl ?_)
        rintro ⟨v11, a11, s11⟩ ⟨hx11_0, hx11_1⟩
        refine an_step [1, 4] (by kernel_rfl) rfl ?_
        refine ⟨?_, ?_, trivial⟩
        · refine an_q (listed' := #[true, true, true, true, false, false, false]) rfl rfl rfl (q_move (by conv => lhs; whnf) ?_)
          refine an_step [4] (by kernel_rfl) rfl ?_
          refine ⟨?_, trivial⟩
          · refine an_k (listed' := #[true, true, true, true, true, false, false]) rfl rfl rfl (k_store sz27 rfl (by conv => lhs; whnf) rfl rfl rfl (Nat.le_of_ble_eq_true rfl) rfl ?_)
            refine an_step [5] (by kernel_rfl) rfl ?_
            refine ⟨?_, trivial⟩
            · refine an_q (listed' := #[true, true, true, true, true, true, false]) rfl rfl rfl (q_assign (by conv => lhs; whnf) ?_)
              refine an_step [6] (by kernel_rfl) rfl ?_
              refine ⟨?_, trivial⟩
              · refine an_q (listed' := #[true, true, true, true, true, true, true]) rfl rfl rfl (q_assign (by conv => lhs; whnf) ?_)
                refine an_end (by kernel_rfl) (hK8 _ ?_); clear hK8
                refine good_ret ?_
                repeat (first | refine thenQ_ret ?_ | refine blockQ_ret ?_)
                refine ex_3 (v := v5) (a := v7) (b := v11) ?hF ?hR
                case hF =>
                  refine fx_many rfl ?_
                  refine fxs_cell tA27 rfl rfl rfl ?_
                  refine fxs_tmp (by conv => lhs; whnf) ?_
                  refine fxs_tmp (by conv => lhs; whnf) ?_
                  refine fx_nil ?_
                  exact ⟨_, .tup (.cons (conv_eq (by first | rfl | exact fAgg1 (by first | rfl | simp_all) (fAgg1 (by first | rfl | exact fI (by first | omega | grind) | (exfalso; first | omega | grind)) (fAgg1 (by first | rfl | exact fI (by first | omega | grind) | (exfalso; first | omega | grind)) (fAgg1 (by first | rfl | exact fI (by first | omega | grind) | (exfalso; first | omega | grind)) (fAgg1 (by first | rfl | exact fI (by first | omega | grind) | (exfalso; first | omega | grind)) (rfl))))))) (.cons (conv_eq (by first | rfl | exact fI (by first | omega | grind) | (exfalso; first | omega | grind))) (.cons (conv_eq (by first | rfl | exact fI (by first | omega | grind) | (exfalso; first | omega | grind))) (.nil)))), weakH_none _, refsIn_ok rfl⟩
                case hR =>
                  exact hi2
        · refine an_k (listed' := #[true, false, true, true, true, false, false]) rfl rfl rfl (k_store sz27 rfl (by conv => lhs; whnf) rfl rfl rfl (Nat.le_of_ble_eq_true rfl) rfl ?_)
          refine an_step [1] (by kernel_rfl) rfl ?_
          refine ⟨?_, trivial⟩
          · refine an_q (listed' := #[true, true, true, true, true, false, false]) rfl rfl rfl (q_move (by conv => lhs; whnf) ?_)
            refine an_step [5] (by kernel_rfl) rfl ?_
            refine ⟨?_, trivial⟩
            · refine an_q (listed' := #[true, true, true, true, true, true, false]) rfl rfl rfl (q_assign (by conv => lhs; whnf) ?_)
              refine an_step [6] (by kernel_rfl) rfl ?_
              refine ⟨?_, trivial⟩
              · refine an_q (listed' := #[true, true, true, true, true, true, true]) rfl rfl rfl (q_assign (by conv => lhs; whnf) ?_)
                refine an_end (by kernel_rfl) (hK8 _ ?_); clear hK8
                refine good_ret ?_
                repeat (first | refine thenQ_ret ?_ | refine blockQ_ret ?_)
                refine ex_3 (v := v5) (a := v7) (b := v11) ?hF ?hR
                case hF =>
                  refine fx_many rfl ?_
                  refine fxs_cell tA27 rfl rfl rfl ?_
                  refine fxs_tmp (by conv => lhs; whnf) ?_
                  refine fxs_tmp (by conv => lhs; whnf) ?_
                  refine fx_nil ?_
                  exact ⟨_, .tup (.cons (conv_eq (by first | rfl | exact fAgg1 (by first | rfl | simp_all) (fAgg1 (by first | rfl | exact fI (by first | omega | grind) | (exfalso; first | omega | grind)) (fAgg1 (by first | rfl | exact fI (by first | omega | grind) | (exfalso; first | omega | grind)) (fAgg1 (by first | rfl | exact fI (by first | omega | grind) | (exfalso; first | omega | grind)) (fAgg1 (by first | rfl | exact fI (by first | omega | grind) | (exfalso; first | omega | grind)) (rfl))))))) (.cons (conv_eq (by first | rfl | exact fI (by first | omega | grind) | (exfalso; first | omega | grind))) (.cons (conv_eq (by first | rfl | exact fI (by first | omega | grind) | (exfalso; first | omega | grind))) (.nil)))), weakH_none _, refsIn_ok rfl⟩
                case hR =>
                  exact hi2
  · refine an_q (listed' := #[false, true, false, false, false, false, false]) rfl rfl rfl (q_move (by conv => lhs; whnf) ?_)
    refine an_step [0, 2] (by kernel_rfl) rfl ?_
    refine ⟨?_, ?_, trivial⟩
    · refine an_q (listed' := #[true, true, false, false, false, false, false]) rfl rfl rfl (q_loadA tA27 rfl rfl rfl ?_)
      refine an_step [2] (by kernel_rfl) rfl ?_
      refine ⟨?_, trivial⟩
      · refine an_q (listed' := #[true, true, true, false, false, false, false]) rfl rfl rfl (q_move (by conv => lhs; whnf) ?_)
        refine an_step [3] (by kernel_rfl) rfl ?_
        refine ⟨?_, trivial⟩
        · refine an_k (listed' := #[true, true, true, true, false, false, false]) rfl rfl rfl (k_callR [(1000000, 900000)] (D_spec_l02DrawFlow cs _ _  hc hb (by omega)) rfl (rfl) (rfl) ⟨rfl, trivial⟩ rfl (by rintro ⟨v12, a12, s12⟩ ⟨hx12_0, hx12_1⟩; exact ⟨⟨rfl, rfl, trivial⟩, rfl⟩) rfl rfl ?_)
          rintro ⟨v12, a12, s12⟩ ⟨hx12_0, hx12_1⟩
          refine an_step [4] (by kernel_rfl) rfl ?_
          refine ⟨?_, trivial⟩
          · refine an_k (listed' := #[true, true, true, true, true, false, false]) rfl rfl rfl (k_store sz27 rfl (by conv => lhs; whnf) rfl rfl rfl (Nat.le_of_ble_eq_true rfl) rfl ?_)
            refine an_step [5] (by kernel_rfl) rfl ?_
            refine ⟨?_, trivial⟩
            · refine an_q (listed' := #[true, true, true, true, true, true, false]) rfl rfl rfl (q_assign (by conv => lhs; whnf) ?_)
              refine an_step [6] (by kernel_rfl) rfl ?_
              refine ⟨?_, trivial⟩
              · refine an_q (listed' := #[true, true, true, true, true, true, true]) rfl rfl rfl (q_assign (by conv => lhs; whnf) ?_)
                refine an_end (by kernel_rfl) (hK8 _ ?_); clear hK8
                refine good_ret ?_
                repeat (first | refine thenQ_ret ?_ | refine blockQ_ret ?_)
                refine ex_3 (v := v5) (a := v7) (b := v12) ?hF ?hR
                case hF =>
                  refine fx_many rfl ?_
                  refine fxs_cell tA27 rfl rfl rfl ?_
                  refine fxs_tmp (by conv => lhs; whnf) ?_
                  refine fxs_tmp (by conv => lhs; whnf) ?_
                  refine fx_nil ?_
                  exact ⟨_, .tup (.cons (conv_eq (by first | rfl | exact fAgg1 (by first | rfl | simp_all) (fAgg1 (by first | rfl | exact fI (by first | omega | grind) | (exfalso; first | omega | grind)) (fAgg1 (by first | rfl | exact fI (by first | omega | grind) | (exfalso; first | omega | grind)) (fAgg1 (by first | rfl | exact fI (by first | omega | grind) | (exfalso; first | omega | grind)) (fAgg1 (by first | rfl | exact fI (by first | omega | grind) | (exfalso; first | omega | grind)) (rfl))))))) (.cons (conv_eq (by first | rfl | exact fI (by first | omega | grind) | (exfalso; first | omega | grind))) (.cons (conv_eq (by first | rfl | exact fI (by first | omega | grind) | (exfalso; first | omega | grind))) (.nil)))), weakH_none _, refsIn_ok rfl⟩
                case hR =>
                  exact hi2
    · refine an_q (listed' := #[false, true, true, false, false, false, false]) rfl rfl rfl (q_move (by conv => lhs; whnf) ?_)
      refine an_step [0, 3] (by kernel_rfl) rfl ?_
      refine ⟨?_, ?_, trivial⟩
      · refine an_q (listed' := #[true, true, true, false, false, false, false]) rfl rfl rfl (q_loadA tA27 rfl rfl rfl ?_)
        refine an_step [3] (by kernel_rfl) rfl ?_
        refine ⟨?_, trivial⟩
        · refine an_k (listed' := #[true, true, true, true, false, false, false]) rfl rfl rfl (k_callR [(1000000, 900000)] (D_spec_l02DrawFlow cs _ _  hc hb (by omega)) rfl (rfl) (rfl) ⟨rfl, trivial⟩ rfl (by rintro ⟨v13, a13, s13⟩ ⟨hx13_0, hx13_1⟩; exact ⟨⟨rfl, rfl, trivial⟩, rfl⟩) rfl rfl ?_)
          rintro ⟨v13, a13, s13⟩ ⟨hx13_0, hx13_1⟩
          refine an_step [4] (by kernel_rfl) rfl ?_
          refine ⟨?_, trivial⟩
          · refine an_k (listed' := #[true, true, true, true, true, false, false]) rfl rfl rfl (k_store sz27 rfl (by conv => lhs; whnf) rfl rfl rfl (Nat.le_of_ble_eq_true rfl) rfl ?_)
            refine an_step [5] (by kernel_rfl) rfl ?_
            refine ⟨?_, trivial⟩
            · refine an_q (listed' := #[true, true, true, true, true, true, false]) rfl rfl rfl (q_assign (by conv => lhs; whnf) ?_)
              refine an_step [6] (by kernel_rfl) rfl ?_
              refine ⟨?_, trivial⟩
              · refine an_q (listed' := #[true, true, true, true, true, true, true]) rfl rfl rfl (q_assign (by conv => lhs; whnf) ?_)
                refine an_end (by kernel_rfl) (hK8 _ ?_); clear hK8
                refine good_ret ?_
                repeat (first | refine thenQ_ret ?_ | refine blockQ_ret ?_)
                refine ex_3 (v := v5) (a := v7) (b := v13) ?hF ?hR
                case hF =>
                  refine fx_many rfl ?_
                  refine fxs_cell tA27 rfl rfl rfl ?_
                  refine fxs_tmp (by conv => lhs; whnf) ?_
                  refine fxs_tmp (by conv => lhs; whnf) ?_
                  refine fx_nil ?_
                  exact ⟨_, .tup (.cons (conv_eq (by first | rfl | exact fAgg1 (by first | rfl | simp_all) (fAgg1 (by first | rfl | exact fI (by first | omega | grind) | (exfalso; first | omega | grind)) (fAgg1 (by first | rfl | exact fI (by first | omega | grind) | (exfalso; first | omega | grind)) (fAgg1 (by first | rfl | exact fI (by first | omega | grind) | (exfalso; first | omega | grind)) (fAgg1 (by first | rfl | exact fI (by first | omega | grind) | (exfalso; first | omega | grind)) (rfl))))))) (.cons (conv_eq (by first | rfl | exact fI (by first | omega | grind) | (exfalso; first | omega | grind))) (.cons (conv_eq (by first | rfl | exact fI (by first | omega | grind) | (exfalso; first | omega | grind))) (.nil)))), weakH_none _, refsIn_ok rfl⟩
                case hR =>
                  exact hi2
      · refine an_k (listed' := #[false, true, true, true, false, false, false]) rfl rfl rfl (k_callR [(1000000, 900000)] (D_spec_l02DrawFlow cs _ _  hc hb (by omega)) rfl (rfl) (rfl) ⟨rfl, trivial⟩ rfl (by rintro ⟨v14, a14, s14⟩ ⟨hx14_0, hx14_1⟩; exact ⟨⟨rfl, rfl, trivial⟩, rfl⟩) rfl rfl ?_)
        rintro ⟨v14, a14, s14⟩ ⟨hx14_0, hx14_1⟩
        refine an_step [0] (by kernel_rfl) rfl ?_
        refine ⟨?_, trivial⟩
        · refine an_q (listed' := #[true, true, true, true, false, false, false]) rfl rfl rfl (q_loadA tA27 rfl rfl rfl ?_)
          refine an_step [4] (by kernel_rfl) rfl ?_
          refine ⟨?_, trivial⟩
          · refine an_k (listed' := #[true, true, true, true, true, false, false]) rfl rfl rfl (k_store sz27 rfl (by conv => lhs; whnf) rfl rfl rfl (Nat.le_of_ble_eq_true rfl) rfl ?_)
            refine an_step [5] (by kernel_rfl) rfl ?_
            refine ⟨?_, trivial⟩
            · refine an_q (listed' := #[true, true, true, true, true, true, false]) rfl rfl rfl (q_assign (by conv => lhs; whnf) ?_)
              refine an_step [6] (by kernel_rfl) rfl ?_
              refine ⟨?_, trivial⟩
              · refine an_q (listed' := #[true, true, true, true, true, true, true]) rfl rfl rfl (q_assign (by conv => lhs; whnf) ?_)
                refine an_end (by kernel_rfl) (hK8 _ ?_); clear hK8
                refine good_ret ?_
                repeat (first | refine thenQ_ret ?_ | refine blockQ_ret ?_)
                refine ex_3 (v := v5) (a := v7) (b := v14) ?hF ?hR
                case hF =>
                  refine fx_many rfl ?_
                  refine fxs_cell tA27 rfl rfl rfl ?_
                  refine fxs_tmp (by conv => lhs; whnf) ?_
                  refine fxs_tmp (by conv => lhs; whnf) ?_
                  refine fx_nil ?_
                  exact ⟨_, .tup (.cons (conv_eq (by first | rfl | exact fAgg1 (by first | rfl | simp_all) (fAgg1 (by first | rfl | exact fI (by first | omega | grind) | (exfalso; first | omega | grind)) (fAgg1 (by first | rfl | exact fI (by first | omega | grind) | (exfalso; first | omega | grind)) (fAgg1 (by first | rfl | exact fI (by first | omega | grind) | (exfalso; first | omega | grind)) (fAgg1 (by first | rfl | exact fI (by first | omega | grind) | (exfalso; first | omega | grind)) (rfl))))))) (.cons (conv_eq (by first | rfl | exact fI (by first | omega | grind) | (exfalso; first | omega | grind))) (.cons (conv_eq (by first | rfl | exact fI (by first | omega | grind) | (exfalso; first | omega | grind))) (.nil)))), weakH_none _, refsIn_ok rfl⟩
                case hR =>
                  exact hi2
  · refine an_q (listed' := #[false, false, true, false, false, false, false]) rfl rfl rfl (q_move (by conv => lhs; whnf) ?_)
    refine an_step [0, 1, 3] (by kernel_rfl) rfl ?_
    refine ⟨?_, ?_, ?_, trivial⟩
    · refine an_q (listed' := #[true, false, true, false, false, false, false]) rfl rfl rfl (q_loadA tA27 rfl rfl rfl ?_)
      refine an_step [1, 3] (by kernel_rfl) rfl ?_
      refine ⟨?_, ?_, trivial⟩
      · refine an_q (listed' := #[true, true, true, false, false, false, false]) rfl rfl rfl (q_move (by conv => lhs; whnf) ?_)
        refine an_step [3] (by kernel_rfl) rfl ?_
        refine ⟨?_, trivial⟩
        · refine an_k (listed' := #[true, true, true, true, false, false, false]) rfl rfl rfl (k_callR [(1000000, 900000)] (D_spec_l02DrawFlow cs _ _  hc hb (by omega)) rfl (rfl) (rfl) ⟨rfl, trivial⟩ rfl (by rintro ⟨v15, a15, s15⟩ ⟨hx15_0, hx15_1⟩; exact ⟨⟨rfl, rfl, trivial⟩, rfl⟩) rfl rfl ?_)
          rintro ⟨v15, a15, s15⟩ ⟨hx15_0, hx15_1⟩
          refine an_step [4] (by kernel_rfl) rfl ?_
          refine ⟨?_, trivial⟩
          · refine an_k (listed' := #[true, true, true, true, true, false, false]) rfl rfl rfl (k_store sz27 rfl (by conv => lhs; whnf) rfl rfl rfl (Nat.le_of_ble_eq_true rfl) rfl ?_)
            refine an_step [5] (by kernel_rfl) rfl ?_
            refine ⟨?_, trivial⟩
            · refine an_q (listed' := #[true, true, true, true, true, true, false]) rfl rfl rfl (q_assign (by conv => lhs; whnf) ?_)
              refine an_step [6] (by kernel_rfl) rfl ?_
              refine ⟨?_, trivial⟩
              · refine an_q (listed' := #[true, true, true, true, true, true, true]) rfl rfl rfl (q_assign (by conv => lhs; whnf) ?_)
                refine an_end (by kernel_rfl) (hK8 _ ?_); clear hK8
                refine good_ret ?_
                repeat (first | refine thenQ_ret ?_ | refine blockQ_ret ?_)
                refine ex_3 (v := v5) (a := v7) (b := v15) ?hF ?hR
                case hF =>
                  refine fx_many rfl ?_
                  refine fxs_cell tA27 rfl rfl rfl ?_
                  refine fxs_tmp (by conv => lhs; whnf) ?_
                  refine fxs_tmp (by conv => lhs; whnf) ?_
                  refine fx_nil ?_
                  exact ⟨_, .tup (.cons (conv_eq (by first | rfl | exact fAgg1 (by first | rfl | simp_all) (fAgg1 (by first | rfl | exact fI (by first | omega | grind) | (exfalso; first | omega | grind)) (fAgg1 (by first | rfl | exact fI (by first | omega | grind) | (exfalso; first | omega | grind)) (fAgg1 (by first | rfl | exact fI (by first | omega | grind) | (exfalso; first | omega | grind)) (fAgg1 (by first | rfl | exact fI (by first | omega | grind) | (exfalso; first | omega | grind)) (rfl))))))) (.cons (conv_eq (by first | rfl | exact fI (by first | omega | grind) | (exfalso; first | omega | grind))) (.cons (conv_eq (by first | rfl | exact fI (by first | omega | grind) | (exfalso; first | omega | grind))) (.nil)))), weakH_none _, refsIn_ok rfl⟩
                case hR =>
                  exact hi2
      · refine an_k (listed' := #[true, false, true, true, false, false, false]) rfl rfl rfl (k_callR [(1000000, 900000)] (D_spec_l02DrawFlow cs _ _  hc hb (by omega)) rfl (rfl) (rfl) ⟨rfl, trivial⟩ rfl (by rintro ⟨v16, a16, s16⟩ ⟨hx16_0, hx16_1⟩; exact ⟨⟨rfl, rfl, trivial⟩, rfl⟩) rfl rfl ?_)
        rintro ⟨v16, a16, s16⟩ ⟨hx16_0, hx16_1⟩
        refine an_step [1, 4] (by kernel_rfl) rfl ?_
        refine ⟨?_, ?_, trivial⟩
        · refine an_q (listed' := #[true, true, true, true, false, false, false]) rfl rfl rfl (q_move (by conv => lhs; whnf) ?_)
          refine an_step [4] (by kernel_rfl) rfl ?_
          refine ⟨?_, trivial⟩
          · refine an_k (listed' := #[true, true, true, true, true, false, false]) rfl rfl rfl (k_store sz27 rfl (by conv => lhs; whnf) rfl rfl rfl (Nat.le_of_ble_eq_true rfl) rfl ?_)
            refine an_step [5] (by kernel_rfl) rfl ?_
            refine ⟨?_, trivial⟩
            · refine an_q (listed' := #[true, true, true, true, true, true, false]) rfl rfl rfl (q_assign (by conv => lhs; whnf) ?_)
              refine an_step [6] (by kernel_rfl) rfl ?_
              refine ⟨?_, trivial⟩
              · refine an_q (listed' := #[true, true, true, true, true, true, true]) rfl rfl rfl (q_assign (by conv => lhs; whnf) ?_)
                refine an_end (by kernel_rfl) (hK8 _ ?_); clear hK8
                refine good_ret ?_
                repeat (first | refine thenQ_ret ?_ | refine blockQ_ret ?_)
                refine ex_3 (v := v5) (a := v7) (b := v16) ?hF ?hR
                case hF =>
                  refine fx_many rfl ?_
                  refine fxs_cell tA27 rfl rfl rfl ?_
                  refine fxs_tmp (by conv => lhs; whnf) ?_
                  refine fxs_tmp (by conv => lhs; whnf) ?_
                  refine fx_nil ?_
                  exact ⟨_, .tup (.cons (conv_eq (by first | rfl | exact fAgg1 (by first | rfl | simp_all) (fAgg1 (by first | rfl | exact fI (by first | omega | grind) | (exfalso; first | omega | grind)) (fAgg1 (by first | rfl | exact fI (by first | omega | grind) | (exfalso; first | omega | grind)) (fAgg1 (by first | rfl | exact fI (by first | omega | grind) | (exfalso; first | omega | grind)) (fAgg1 (by first | rfl | exact fI (by first | omega | grind) | (exfalso; first | omega | grind)) (rfl))))))) (.cons (conv_eq (by first | rfl | exact fI (by first | omega | grind) | (exfalso; first | omega | grind))) (.cons (conv_eq (by first | rfl | exact fI (by first | omega | grind) | (exfalso; first | omega | grind))) (.nil)))), weakH_none _, refsIn_ok rfl⟩
                case hR =>
                  exact hi2
        · refine an_k (listed' := #[true, false, true, true, true, false, false]) rfl rfl rfl (k_store sz27 rfl (by conv => lhs; whnf) rfl rfl rfl (Nat.le_of_ble_eq_true rfl) rfl ?_)
          refine an_step [1] (by kernel_rfl) rfl ?_
          refine ⟨?_, trivial⟩
          · refine an_q (listed' := #[true, true, true, true, true, false, false]) rfl rfl rfl (q_move (by conv => lhs; whnf) ?_)
            refine an_step [5] (by kernel_rfl) rfl ?_
            refine ⟨?_, trivial⟩
            · refine an_q (listed' := #[true, true, true, true, true, true, false]) rfl rfl rfl (q_assign (by conv => lhs; whnf) ?_)
              refine an_step [6] (by kernel_rfl) rfl ?_
              refine ⟨?_, trivial⟩
              · refine an_q (listed' := #[true, true, true, true, true, true, true]) rfl rfl rfl (q_assign (by conv => lhs; whnf) ?_)
                refine an_end (by kernel_rfl) (hK8 _ ?_); clear hK8
                refine good_ret ?_
                repeat (first | refine thenQ_ret ?_ | refine blockQ_ret ?_)
                refine ex_3 (v := v5) (a := v7) (b := v16) ?hF ?hR
                case hF =>
                  refine fx_many rfl ?_
                  refine fxs_cell tA27 rfl rfl rfl ?_
                  refine fxs_tmp (by conv => lhs; whnf) ?_
                  refine fxs_tmp (by conv => lhs; whnf) ?_
                  refine fx_nil ?_
                  exact ⟨_, .tup (.cons (conv_eq (by first | rfl | exact fAgg1 (by first | rfl | simp_all) (fAgg1 (by first | rfl | exact fI (by first | omega | grind) | (exfalso; first | omega | grind)) (fAgg1 (by first | rfl | exact fI (by first | omega | grind) | (exfalso; first | omega | grind)) (fAgg1 (by first | rfl | exact fI (by first | omega | grind) | (exfalso; first | omega | grind)) (fAgg1 (by first | rfl | exact fI (by first | omega | grind) | (exfalso; first | omega | grind)) (rfl))))))) (.cons (conv_eq (by first | rfl | exact fI (by first | omega | grind) | (exfalso; first | omega | grind))) (.cons (conv_eq (by first | rfl | exact fI (by first | omega | grind) | (exfalso; first | omega | grind))) (.nil)))), weakH_none _, refsIn_ok rfl⟩
                case hR =>
                  exact hi2
    · refine an_q (listed' := #[false, true, true, false, false, false, false]) rfl rfl rfl (q_move (by conv => lhs; whnf) ?_)
      refine an_step [0, 3] (by kernel_rfl) rfl ?_
      refine ⟨?_, ?_, trivial⟩
      · refine an_q (listed' := #[true, true, true, false, false, false, false]) rfl rfl rfl (q_loadA tA27 rfl rfl rfl ?_)
        refine an_step [3] (by kernel_rfl) rfl ?_
        refine ⟨?_, trivial⟩
        · refine an_k (listed' := #[true, true, true, true, false, false, false]) rfl rfl rfl (k_callR [(1000000, 900000)] (D_spec_l02DrawFlow cs _ _  hc hb (by omega)) rfl (rfl) (rfl) ⟨rfl, trivial⟩ rfl (by rintro ⟨v17, a17, s17⟩ ⟨hx17_0, hx17_1⟩; exact ⟨⟨rfl, rfl, trivial⟩, rfl⟩) rfl rfl ?_)
          rintro ⟨v17, a17, s17⟩ ⟨hx17_0, hx17_1⟩
          refine an_step [4] (by kernel_rfl) rfl ?_
          refine ⟨?_, trivial⟩
          · refine an_k (listed' := #[true, true, true, true, true, false, false]) rfl rfl rfl (k_store sz27 rfl (by conv => lhs; whnf) rfl rfl rfl (Nat.le_of_ble_eq_true rfl) rfl ?_)
            refine an_step [5] (by kernel_rfl) rfl ?_
            refine ⟨?_, trivial⟩
            · refine an_q (listed' := #[true, true, true, true, true, true, false]) rfl rfl rfl (q_assign (by conv => lhs; whnf) ?_)
              refine an_step [6] (by kernel_rfl) rfl ?_
              refine ⟨?_, trivial⟩
              · refine an_q (listed' := #[true, true, true, true, true, true, true]) rfl rfl rfl (q_assign (by conv => lhs; whnf) ?_)
                refine an_end (by kernel_rfl) (hK8 _ ?_); clear hK8
                refine good_ret ?_
                repeat (first | refine thenQ_ret ?_ | refine blockQ_ret ?_)
                refine ex_3 (v := v5) (a := v7) (b := v17) ?hF ?hR
                case hF =>
                  refine fx_many rfl ?_
                  refine fxs_cell tA27 rfl rfl rfl ?_
                  refine fxs_tmp (by conv => lhs; whnf) ?_
                  refine fxs_tmp (by conv => lhs; whnf) ?_
                  refine fx_nil ?_
                  exact ⟨_, .tup (.cons (conv_eq (by first | rfl | exact fAgg1 (by first | rfl | simp_all) (fAgg1 (by first | rfl | exact fI (by first | omega | grind) | (exfalso; first | omega | grind)) (fAgg1 (by first | rfl | exact fI (by first | omega | grind) | (exfalso; first | omega | grind)) (fAgg1 (by first | rfl | exact fI (by first | omega | grind) | (exfalso; first | omega | grind)) (fAgg1 (by first | rfl | exact fI (by first | omega | grind) | (exfalso; first | omega | grind)) (rfl))))))) (.cons (conv_eq (by first | rfl | exact fI (by first | omega | grind) | (exfalso; first | omega | grind))) (.cons (conv_eq (by first | rfl | exact fI (by first | omega | grind) | (exfalso; first | omega | grind))) (.nil)))), weakH_none _, refsIn_ok rfl⟩
                case hR =>
                  exact hi2
      · refine an_k (listed' := #[false, true, true, true, false, false, false]) rfl rfl rfl (k_callR [(1000000, 900000)] (D_spec_l02DrawFlow cs _ _  hc hb (by omega)) rfl (rfl) (rfl) ⟨rfl, trivial⟩ rfl (by rintro ⟨v18, a18, s18⟩ ⟨hx18_0, hx18_1⟩; exact ⟨⟨rfl, rfl, trivial⟩, rfl⟩) rfl rfl ?_)
        rintro ⟨v18, a18, s18⟩ ⟨hx18_0, hx18_1⟩
        refine an_step [0] (by kernel_rfl) rfl ?_
        refine ⟨?_, trivial⟩
        · refine an_q (listed' := #[true, true, true, true, false, false, false]) rfl rfl rfl (q_loadA tA27 rfl rfl rfl ?_)
          refine an_step [4] (by kernel_rfl) rfl ?_
          refine ⟨?_, trivial⟩
          · refine an_k (listed' := #[true, true, true, true, true, false, false]) rfl rfl rfl (k_store sz27 rfl (by conv => lhs; whnf) rfl rfl rfl (Nat.le_of_ble_eq_true rfl) rfl ?_)
            refine an_step [5] (by kernel_rfl) rfl ?_
            refine ⟨?_, trivial⟩
            · refine an_q (listed' := #[true, true, true, true, true, true, false]) rfl rfl rfl (q_assign (by conv => lhs; whnf) ?_)
              refine an_step [6] (by kernel_rfl) rfl ?_
              refine ⟨?_, trivial⟩
              · refine an_q (listed' := #[true, true, true, true, true, true, true]) rfl rfl rfl (q_assign (by conv => lhs; whnf) ?_)
                refine an_end (by kernel_rfl) (hK8 _ ?_); clear hK8
                refine good_ret ?_
                repeat (first | refine thenQ_ret ?_ | refine blockQ_ret ?_)
                refine ex_3 (v := v5) (a := v7) (b := v18) ?hF ?hR
                case hF =>
                  refine fx_many rfl ?_
                  refine fxs_cell tA27 rfl rfl rfl ?_
                  refine fxs_tmp (by conv => lhs; whnf) ?_
                  refine fxs_tmp (by conv => lhs; whnf) ?_
                  refine fx_nil ?_
                  exact ⟨_, .tup (.cons (conv_eq (by first | rfl | exact fAgg1 (by first | rfl | simp_all) (fAgg1 (by first | rfl | exact fI (by first | omega | grind) | (exfalso; first | omega | grind)) (fAgg1 (by first | rfl | exact fI (by first | omega | grind) | (exfalso; first | omega | grind)) (fAgg1 (by first | rfl | exact fI (by first | omega | grind) | (exfalso; first | omega | grind)) (fAgg1 (by first | rfl | exact fI (by first | omega | grind) | (exfalso; first | omega | grind)) (rfl))))))) (.cons (conv_eq (by first | rfl | exact fI (by first | omega | grind) | (exfalso; first | omega | grind))) (.cons (conv_eq (by first | rfl | exact fI (by first | omega | grind) | (exfalso; first | omega | grind))) (.nil)))), weakH_none _, refsIn_ok rfl⟩
                case hR =>
                  exact hi2
    · refine an_k (listed' := #[false, false, true, true, false, false, false]) rfl rfl rfl (k_callR [(1000000, 900000)] (D_spec_l02DrawFlow cs _ _  hc hb (by omega)) rfl (rfl) (rfl) ⟨rfl, trivial⟩ rfl (by rintro ⟨v19, a19, s19⟩ ⟨hx19_0, hx19_1⟩; exact ⟨⟨rfl, rfl, trivial⟩, rfl⟩) rfl rfl ?_)
      rintro ⟨v19, a19, s19⟩ ⟨hx19_0, hx19_1⟩
      refine an_step [0, 1] (by kernel_rfl) rfl ?_
      refine ⟨?_, ?_, trivial⟩
      · refine an_q (listed' := #[true, false, true, true, false, false, false]) rfl rfl rfl (q_loadA tA27 rfl rfl rfl ?_)
        refine an_step [1, 4] (by kernel_rfl) rfl ?_
        refine ⟨?_, ?_, trivial⟩
        · refine an_q (listed' := #[true, true, true, true, false, false, false]) rfl rfl rfl (q_move (by conv => lhs; whnf) ?_)
          refine an_step [4] (by kernel_rfl) rfl ?_
          refine ⟨?_, trivial⟩
          · refine an_k (listed' := #[true, true, true, true, true, false, false]) rfl rfl rfl (k_store sz27 rfl (by conv => lhs; whnf) rfl rfl rfl (Nat.le_of_ble_eq_true rfl) rfl ?_)
            refine an_step [5] (by kernel_rfl) rfl ?_
            refine ⟨?_, trivial⟩
            · refine an_q (listed' := #[true, true, true, true, true, true, false]) rfl rfl rfl (q_assign (by conv => lhs; whnf) ?_)
              refine an_step [6] (by kernel_rfl) rfl ?_
              refine ⟨?_, trivial⟩
              · refine an_q (listed' := #[true, true, true, true, true, true, true]) rfl rfl rfl (q_assign (by conv => lhs; whnf) ?_)
                refine an_end (by kernel_rfl) (hK8 _ ?_); clear hK8
                refine good_ret ?_
                repeat (first | refine thenQ_ret ?_ | refine blockQ_ret ?_)
                refine ex_3 (v := v5) (a := v7) (b := v19) ?hF ?hR
                case hF =>
                  refine fx_many rfl ?_
                  refine fxs_cell tA27 rfl rfl rfl ?_
                  refine fxs_tmp (by conv => lhs; whnf) ?_
                  refine fxs_tmp (by conv => lhs; whnf) ?_
                  refine fx_nil ?_
                  exact ⟨_, .tup (.cons (conv_eq (by first | rfl | exact fAgg1 (by first | rfl | simp_all) (fAgg1 (by first | rfl | exact fI (by first | omega | grind) | (exfalso; first | omega | grind)) (fAgg1 (by first | rfl | exact fI (by first | omega | grind) | (exfalso; first | omega | grind)) (fAgg1 (by first | rfl | exact fI (by first | omega | grind) | (exfalso; first | omega | grind)) (fAgg1 (by first | rfl | exact fI (by first | omega | grind) | (exfalso; first | omega | grind)) (rfl))))))) (.cons (conv_eq (by first | rfl | exact fI (by first | omega | grind) | (exfalso; first | omega | grind))) (.cons (conv_eq (by first | rfl | exact fI (by first | omega | grind) | (exfalso; first | omega | grind))) (.nil)))), weakH_none _, refsIn_ok rfl⟩
                case hR =>
                  exact hi2
        · refine an_k (listed' := #[true, false, true, true, true, false, false]) rfl rfl rfl (k_store sz27 rfl (by conv => lhs; whnf) rfl rfl rfl (Nat.le_of_ble_eq_true rfl) rfl ?_)
          refine an_step [1] (by kernel_rfl) rfl ?_
          refine ⟨?_, trivial⟩
          · refine an_q (listed' := #[true, true, true, true, true, false, false]) rfl rfl rfl (q_move (by conv => lhs; whnf) ?_)
            refine an_step [5] (by kernel_rfl) rfl ?_
            refine ⟨?_, trivial⟩
            · refine an_q (listed' := #[true, true, true, true, true, true, false]) rfl rfl rfl (q_assign (by conv => lhs; whnf) ?_)
              refine an_step [6] (by kernel_rfl) rfl ?_
              refine ⟨?_, trivial⟩
              · refine an_q (listed' := #[true, true, true, true, true, true, true]) rfl rfl rfl (q_assign (by conv => lhs; whnf) ?_)
                refine an_end (by kernel_rfl) (hK8 _ ?_); clear hK8
                refine good_ret ?_
                repeat (first | refine thenQ_ret ?_ | refine blockQ_ret ?_)
                refine ex_3 (v := v5) (a := v7) (b := v19) ?hF ?hR
                case hF =>
                  refine fx_many rfl ?_
                  refine fxs_cell tA27 rfl rfl rfl ?_
                  refine fxs_tmp (by conv => lhs; whnf) ?_
                  refine fxs_tmp (by conv => lhs; whnf) ?_
                  refine fx_nil ?_
                  exact ⟨_, .tup (.cons (conv_eq (by first | rfl | exact fAgg1 (by first | rfl | simp_all) (fAgg1 (by first | rfl | exact fI (by first | omega | grind) | (exfalso; first | omega | grind)) (fAgg1 (by first | rfl | exact fI (by first | omega | grind) | (exfalso; first | omega | grind)) (fAgg1 (by first | rfl | exact fI (by first | omega | grind) | (exfalso; first | omega | grind)) (fAgg1 (by first | rfl | exact fI (by first | omega | grind) | (exfalso; first | omega | grind)) (rfl))))))) (.cons (conv_eq (by first | rfl | exact fI (by first | omega | grind) | (exfalso; first | omega | grind))) (.cons (conv_eq (by first | rfl | exact fI (by first | omega | grind) | (exfalso; first | omega | grind))) (.nil)))), weakH_none _, refsIn_ok rfl⟩
                case hR =>
                  exact hi2
      · refine an_q (listed' := #[false, true, true, true, false, false, false]) rfl rfl rfl (q_move (by conv => lhs; whnf) ?_)
        refine an_step [0] (by kernel_rfl) rfl ?_
        refine ⟨?_, trivial⟩
        · refine an_q (listed' := #[true, true, true, true, false, false, false]) rfl rfl rfl (q_loadA tA27 rfl rfl rfl ?_)
          refine an_step [4] (by kernel_rfl) rfl ?_
          refine ⟨?_, trivial⟩
          · refine an_k (listed' := #[true, true, true, true, true, false, false]) rfl rfl rfl (k_store sz27 rfl (by conv => lhs; whnf) rfl rfl rfl (Nat.le_of_ble_eq_true rfl) rfl ?_)
            refine an_step [5] (by kernel_rfl) rfl ?_
            refine ⟨?_, trivial⟩
            · refine an_q (listed' := #[true, true, true, true, true, true, false]) rfl rfl rfl (q_assign (by conv => lhs; whnf) ?_)
              refine an_step [6] (by kernel_rfl) rfl ?_
              refine ⟨?_, trivial⟩
              · refine an_q (listed' := #[true, true, true, true, true, true, true]) rfl rfl rfl (q_assign (by conv => lhs; whnf) ?_)
                refine an_end (by kernel_rfl) (hK8 _ ?_); clear hK8
                refine good_ret ?_
                repeat (first | refine thenQ_ret ?_ | refine blockQ_ret ?_)
                refine ex_3 (v := v5) (a := v7) (b := v19) ?hF ?hR
                case hF =>
                  refine fx_many rfl ?_
                  refine fxs_cell tA27 rfl rfl rfl ?_
                  refine fxs_tmp (by conv => lhs; whnf) ?_
                  refine fxs_tmp (by conv => lhs; whnf) ?_
                  refine fx_nil ?_
                  exact ⟨_, .tup (.cons (conv_eq (by first | rfl | exact fAgg1 (by first | rfl | simp_all) (fAgg1 (by first | rfl | exact fI (by first | omega | grind) | (exfalso; first | omega | grind)) (fAgg1 (by first | rfl | exact fI (by first | omega | grind) | (exfalso; first | omega | grind)) (fAgg1 (by first | rfl | exact fI (by first | omega | grind) | (exfalso; first | omega | grind)) (fAgg1 (by first | rfl | exact fI (by first | omega | grind) | (exfalso; first | omega | grind)) (rfl))))))) (.cons (conv_eq (by first | rfl | exact fI (by first | omega | grind) | (exfalso; first | omega | grind))) (.cons (conv_eq (by first | rfl | exact fI (by first | omega | grind) | (exfalso; first | omega | grind))) (.nil)))), weakH_none _, refsIn_ok rfl⟩
                case hR =>
                  exact hi2

-- laws.b10Long
set_option maxRecDepth 20000 in
set_option maxHeartbeats 2000000 in
theorem D_laws_b10Long (cs : List Int)  : Den Try.prog 41 [.lst 1 (cs.map cb)] (.s (.bool (decide ((cs.length : Int) > 1048576)))) := by
  refine den_of_good Try.func41 (by decide) rfl (Nat.le_of_ble_eq_true rfl) (Nat.le_of_ble_eq_true rfl) ?_
  refine good_seq fun K1 hK1 => ?_
  refine good_region rfl ?_
  refine ev_q rfl (q_assign (by conv => lhs; whnf) ?_)
  refine ev_nil (hK1 _ ?_); clear hK1
  refine good_seq fun K2 hK2 => ?_
  refine good_region rfl ?_
  refine ev_q rfl (q_move (by conv => lhs; whnf) ?_)
  refine ev_q rfl (q_len tEs46 rfl ?_)
  intro n3 hn3
  try simp only [List.length_map] at hn3
  refine ev_q rfl (q_int rfl rfl ?_)
  intro b4 hb4; cases b4
  · replace hb4 := dF hb4
    refine ev_q rfl (q_assign (by conv => lhs; whnf) ?_)
    refine ev_nil (hK2 _ ?_); clear hK2
    refine good_ret ?_
    repeat (first | refine thenQ_ret ?_ | refine blockQ_ret ?_)
    refine ret_tmp (st := _) rfl (by conv => lhs; whnf) rfl ?_
    first | exact fT (by omega) | exact fF (by omega)
  · replace hb4 := dT hb4
    refine ev_q rfl (q_assign (by conv => lhs; whnf) ?_)
    refine ev_nil (hK2 _ ?_); clear hK2
    refine good_ret ?_
    repeat (first | refine thenQ_ret ?_ | refine blockQ_ret ?_)
    refine ret_tmp (st := _) rfl (by conv => lhs; whnf) rfl ?_
    first | exact fT (by omega) | exact fF (by omega)

end Go.Proofs.Ythhajcpgbcpbmaa.DFnSubstations
