/- Walks through the functions that FnHydraulics reaches: what each answers. -/
import Derived.Test.YtdnndlalflahhaaDFnHydraulicsc
set_option linter.unusedVariables false
set_option linter.unusedSimpArgs false
set_option maxRecDepth 20000
set_option maxHeartbeats 2000000
namespace Go.Proofs.Ytdnndlalflahhaa.DFnHydraulics
open Go Go.RowKit Go.Proofs Go.Proofs.Ytdnndlalflahhaa Go.Proofs.Ytdnndlalflahhaa.Ev
-- (*spec.l00Src).next
theorem D_spec_l00Src_next (cs : List Int) (a s : Int) (hc : cs.length ≤ 17592186044416) (hb : byteL cs) (ha : 0 ≤ a ∧ a ≤ 3999999999999999999)  : DenXR Try.prog 116 [(1000000, .box 102 (src cs a s))] [.ptr 1000000 0] (τ := Int × Int × Int) (fun (v, a1, s1) => (0 ≤ v ∧ v ≤ 255) ∧ (a ≤ a1 ∧ a1 ≤ a + 1)) (fun (v, a1, s1) => [(1000000, .box 102 (src cs a1 s1))]) (fun (v, a1, s1) => .s (.int .i64 v)) := by
  refine denXR_of_good Try.func116 (by decide) rfl (Nat.le_of_ble_eq_true rfl) (Nat.le_of_ble_eq_true rfl) rfl ?_
  refine good_seq fun K1 hK1 => ?_
  refine gr rfl ?_
  refine ea rfl (by conv=>lhs;whnf) ?_
  refine ev_nil (hK1 _ ?_); clear hK1
  refine good_seq fun K2 hK2 => ?_
  refine gr rfl ?_
  refine ea rfl (by conv=>lhs;whnf) ?_
  refine ev_nil (hK2 _ ?_); clear hK2
  refine good_seq fun K3 hK3 => ?_
  refine good_seq fun K4 hK4 => ?_
  refine good_draw 10 hmix (by kernel_rfl) rfl ?_
  refine qm rfl (by conv=>lhs;whnf) ?_
  refine qo_q rfl (q_nilCheck (by conv=>lhs;whnf) rfl ?_)
  refine qo_q rfl (q_fieldAddrP fO102_1 rfl rfl ?_)
  refine qo_q rfl (q_load tA3 rfl ?_)
  refine qm rfl (by conv=>lhs;whnf) ?_
  refine qo_q rfl (q_nilCheck (by conv=>lhs;whnf) rfl ?_)
  refine qo_q rfl (q_fieldAddrP fO102_0 rfl rfl ?_)
  refine qo_q rfl (q_load tA22 rfl ?_)
  refine qo_q rfl (q_len tEs22 rfl ?_)
  intro n5 hn5
  try simp only [List.length_map] at hn5
  refine qo_q rfl (q_int rfl rfl ?_)
  intro b6 hb6; cases b6
  · replace hb6 := dF hb6
    refine qo_nil ?_
    refine ev_nil (hK4 _ ?_); clear hK4
    refine good_condF rfl ?_
    refine good_skip (hK3 _ ?_); clear hK3
    refine good_seq fun K7 hK7 => ?_
    refine gr rfl ?_
    refine em rfl (by conv=>lhs;whnf) ?_
    refine ev_q rfl (q_nilCheck (by conv=>lhs;whnf) rfl ?_)
    refine ev_q rfl (q_fieldAddrP fO102_1 rfl rfl ?_)
    refine ev_q rfl (q_load tA3 rfl ?_)
    refine ei rfl rfl rfl ?_
    intro n8 hn8
    replace hn8 := in64 hn8 (by omega) (by omega)
    refine ev_q rfl (q_nilCheck (by conv=>lhs;whnf) rfl ?_)
    refine ev_q rfl (q_fieldAddrP fO102_1 rfl rfl ?_)
    refine ev_k rfl (k_store sz3 rfl (by conv=>lhs;whnf) rfl rfl rfl (Nat.le_of_ble_eq_true rfl) rfl ?_)
    refine ev_nil (hK7 _ ?_); clear hK7
    refine good_seq fun K9 hK9 => ?_
    refine gr rfl ?_
    refine em rfl (by conv=>lhs;whnf) ?_
    refine em rfl (by conv=>lhs;whnf) ?_
    refine ev_q rfl (q_nilCheck (by conv=>lhs;whnf) rfl ?_)
    refine ev_q rfl (q_fieldAddrP fO102_2 rfl rfl ?_)
    refine ev_q rfl (q_load tA100 rfl ?_)
    refine ei rfl rfl rfl ?_
    intro n10 hn10
    skip
    refine em rfl (by conv=>lhs;whnf) ?_
    refine ev_q rfl (q_conv tK3 tK100 rfl ?_)
    intro n11 hn11
    skip
    refine ei rfl rfl rfl ?_
    intro n12 hn12
    skip
    refine ei rfl rfl rfl ?_
    intro n13 hn13
    skip
    refine ev_q rfl (q_nilCheck (by conv=>lhs;whnf) rfl ?_)
    refine ev_q rfl (q_fieldAddrP fO102_2 rfl rfl ?_)
    refine ev_k rfl (k_store sz100 rfl (by conv=>lhs;whnf) rfl rfl rfl (Nat.le_of_ble_eq_true rfl) rfl ?_)
    refine ev_nil (hK9 _ ?_); clear hK9
    refine good_seq fun K14 hK14 => ?_
    refine good_seq fun K15 hK15 => ?_
    refine good_draw 10 hmix (by kernel_rfl) rfl ?_
    refine qm rfl (by conv=>lhs;whnf) ?_
    refine qo_q rfl (q_nilCheck (by conv=>lhs;whnf) rfl ?_)
    refine qo_q rfl (q_fieldAddrP fO102_1 rfl rfl ?_)
    refine qo_q rfl (q_load tA3 rfl ?_)
    refine qm rfl (by conv=>lhs;whnf) ?_
    refine qo_q rfl (q_nilCheck (by conv=>lhs;whnf) rfl ?_)
    refine qo_q rfl (q_fieldAddrP fO102_0 rfl rfl ?_)
    refine qo_q rfl (q_load tA22 rfl ?_)
    refine qo_q rfl (q_len tEs22 rfl ?_)
    intro n16 hn16
    try simp only [List.length_map] at hn16
    refine qo_q rfl (q_int rfl rfl ?_)
    intro b17 hb17; cases b17
    · replace hb17 := dF hb17
      refine qo_nil ?_
      refine ev_nil (hK15 _ ?_); clear hK15
      refine good_condF rfl ?_
      refine good_skip (hK14 _ ?_); clear hK14
      refine good_seq fun K18 hK18 => ?_
      refine gr rfl ?_
      refine em rfl (by conv=>lhs;whnf) ?_
      refine ev_q rfl (q_nilCheck (by conv=>lhs;whnf) rfl ?_)
      refine ev_q rfl (q_fieldAddrP fO102_2 rfl rfl ?_)
      refine ev_q rfl (q_load tA100 rfl ?_)
      refine ev_q rfl (q_shr rfl rfl ⟨by omega, ?_⟩)
      intro n19 hn19
      skip
      refine ei rfl rfl rfl ?_
      intro n20 hn20
      have hv := and255 hn20
      refine ev_q rfl (q_conv tK100 tK2 rfl ?_)
      intro n21 hn21
      replace hn21 := in64 hn21 (by omega) (by omega)
      refine ea rfl (by conv=>lhs;whnf) ?_
      refine ev_nil (hK18 _ ?_); clear hK18
      refine good_ret ?_
      repeat first|refine thenQ_ret ?_|refine blockQ_ret ?_
      apply ex_3
      case hF =>
        refine fx_tmp rfl (by conv=>lhs;whnf) ?_
        exact ⟨_, conv_eq (by first | rfl | exact fI (by first | omega | grind) | (exfalso; first | omega | grind)), weakH_box (boxEq (by first | rfl | (rw [e]; done) | (rw [e]; rfl) | (simp_all; done))) rfl (weakH_none _), refsIn_ok rfl⟩
      case hR =>
        exact ⟨by omega, by omega⟩
    · replace hb17 := dT hb17
      refine qo_nil ?_
      refine ev_nil (hK15 _ ?_); clear hK15
      refine good_condT rfl ?_
      refine good_seq fun K22 hK22 => ?_
      refine gr rfl ?_
      refine em rfl (by conv=>lhs;whnf) ?_
      refine ea rfl (by conv=>lhs;whnf) ?_
      refine ev_nil (hK22 _ ?_); clear hK22
      refine good_ret ?_
      repeat first|refine thenQ_ret ?_|refine blockQ_ret ?_
      clear hK14
      apply ex_3
      case hF =>
        refine fx_tmp rfl (by conv=>lhs;whnf) ?_
        exact ⟨_, conv_eq (by first | rfl | exact fI (by first | omega | grind) | (exfalso; first | omega | grind)), weakH_box (boxEq (by first | rfl | (rw [e]; done) | (rw [e]; rfl) | (simp_all; done))) rfl (weakH_none _), refsIn_ok rfl⟩
      case hR =>
        exact ⟨by omega, by omega⟩
  · replace hb6 := dT hb6
    obtain ⟨p, hp⟩ := getL (xs := cs) (n := a) (by omega) (by omega)
    have hpb := hb p (List.mem_of_getElem? hp)
    refine qo_nil ?_
    refine ev_nil (hK4 _ ?_); clear hK4
    refine good_condT rfl ?_
    refine good_draw 12 hmix (by kernel_rfl) rfl ?_
    refine qm rfl (by conv=>lhs;whnf) ?_
    refine qo_q rfl (q_nilCheck (by conv=>lhs;whnf) rfl ?_)
    refine qo_q rfl (q_fieldAddrP fO102_0 rfl rfl ?_)
    refine qo_q rfl (q_load tA22 rfl ?_)
    refine qm rfl (by conv=>lhs;whnf) ?_
    refine qo_q rfl (q_nilCheck (by conv=>lhs;whnf) rfl ?_)
    refine qo_q rfl (q_fieldAddrP fO102_1 rfl rfl ?_)
    refine qo_q rfl (q_load tA3 rfl ?_)
    refine qo_q rfl (q_idx tE22 rfl rfl (by omega) (by exact map_get hp) rfl ?_)
    refine qo_q rfl (q_load tA5 rfl ?_)
    refine qo_q rfl (q_conv tK5 tK3 rfl ?_)
    intro n23 hn23
    replace hn23 := in64 hn23 (by omega) (by omega)
    refine qa rfl (by conv=>lhs;whnf) ?_
    refine qo_nil ?_
    refine ev_nil (hK3 _ ?_); clear hK3
    refine good_seq fun K24 hK24 => ?_
    refine gr rfl ?_
    refine em rfl (by conv=>lhs;whnf) ?_
    refine ev_q rfl (q_nilCheck (by conv=>lhs;whnf) rfl ?_)
    refine ev_q rfl (q_fieldAddrP fO102_1 rfl rfl ?_)
    refine ev_q rfl (q_load tA3 rfl ?_)
    refine ei rfl rfl rfl ?_
    intro n25 hn25
    replace hn25 := in64 hn25 (by omega) (by omega)
    refine ev_q rfl (q_nilCheck (by conv=>lhs;whnf) rfl ?_)
    refine ev_q rfl (q_fieldAddrP fO102_1 rfl rfl ?_)
    refine ev_k rfl (k_store sz3 rfl (by conv=>lhs;whnf) rfl rfl rfl (Nat.le_of_ble_eq_true rfl) rfl ?_)
    refine ev_nil (hK24 _ ?_); clear hK24
    refine good_seq fun K26 hK26 => ?_
    refine gr rfl ?_
    refine em rfl (by conv=>lhs;whnf) ?_
    refine em rfl (by conv=>lhs;whnf) ?_
    refine ev_q rfl (q_nilCheck (by conv=>lhs;whnf) rfl ?_)
    refine ev_q rfl (q_fieldAddrP fO102_2 rfl rfl ?_)
    refine ev_q rfl (q_load tA100 rfl ?_)
    refine ei rfl rfl rfl ?_
    intro n27 hn27
    skip
    refine em rfl (by conv=>lhs;whnf) ?_
    refine ev_q rfl (q_conv tK3 tK100 rfl ?_)
    intro n28 hn28
    skip
    refine ei rfl rfl rfl ?_
    intro n29 hn29
    skip
    refine ei rfl rfl rfl ?_
    intro n30 hn30
    skip
    refine ev_q rfl (q_nilCheck (by conv=>lhs;whnf) rfl ?_)
    refine ev_q rfl (q_fieldAddrP fO102_2 rfl rfl ?_)
    refine ev_k rfl (k_store sz100 rfl (by conv=>lhs;whnf) rfl rfl rfl (Nat.le_of_ble_eq_true rfl) rfl ?_)
    refine ev_nil (hK26 _ ?_); clear hK26
    refine good_seq fun K31 hK31 => ?_
    refine good_seq fun K32 hK32 => ?_
    refine good_draw 10 hmix (by kernel_rfl) rfl ?_
    refine qm rfl (by conv=>lhs;whnf) ?_
    refine qo_q rfl (q_nilCheck (by conv=>lhs;whnf) rfl ?_)
    refine qo_q rfl (q_fieldAddrP fO102_1 rfl rfl ?_)
    refine qo_q rfl (q_load tA3 rfl ?_)
    refine qm rfl (by conv=>lhs;whnf) ?_
    refine qo_q rfl (q_nilCheck (by conv=>lhs;whnf) rfl ?_)
    refine qo_q rfl (q_fieldAddrP fO102_0 rfl rfl ?_)
    refine qo_q rfl (q_load tA22 rfl ?_)
    refine qo_q rfl (q_len tEs22 rfl ?_)
    intro n33 hn33
    try simp only [List.length_map] at hn33
    refine qo_q rfl (q_int rfl rfl ?_)
    intro b34 hb34; cases b34
    · replace hb34 := dF hb34
      refine qo_nil ?_
      refine ev_nil (hK32 _ ?_); clear hK32
      refine good_condF rfl ?_
      refine good_skip (hK31 _ ?_); clear hK31
      refine good_seq fun K35 hK35 => ?_
      refine gr rfl ?_
      refine em rfl (by conv=>lhs;whnf) ?_
      refine ev_q rfl (q_nilCheck (by conv=>lhs;whnf) rfl ?_)
      refine ev_q rfl (q_fieldAddrP fO102_2 rfl rfl ?_)
      refine ev_q rfl (q_load tA100 rfl ?_)
      refine ev_q rfl (q_shr rfl rfl ⟨by omega, ?_⟩)
      intro n36 hn36
      skip
      refine ei rfl rfl rfl ?_
      intro n37 hn37
      have hv := and255 hn37
      refine ev_q rfl (q_conv tK100 tK2 rfl ?_)
      intro n38 hn38
      replace hn38 := in64 hn38 (by omega) (by omega)
      refine ea rfl (by conv=>lhs;whnf) ?_
      refine ev_nil (hK35 _ ?_); clear hK35
      refine good_ret ?_
      repeat first|refine thenQ_ret ?_|refine blockQ_ret ?_
      apply ex_3
      case hF =>
        refine fx_tmp rfl (by conv=>lhs;whnf) ?_
        exact ⟨_, conv_eq (by first | rfl | exact fI (by first | omega | grind) | (exfalso; first | omega | grind)), weakH_box (boxEq (by first | rfl | (rw [e]; done) | (rw [e]; rfl) | (simp_all; done))) rfl (weakH_none _), refsIn_ok rfl⟩
      case hR =>
        exact ⟨by omega, by omega⟩
    · replace hb34 := dT hb34
      refine qo_nil ?_
      refine ev_nil (hK32 _ ?_); clear hK32
      refine good_condT rfl ?_
      refine good_seq fun K39 hK39 => ?_
      refine gr rfl ?_
      refine em rfl (by conv=>lhs;whnf) ?_
      refine ea rfl (by conv=>lhs;whnf) ?_
      refine ev_nil (hK39 _ ?_); clear hK39
      refine good_ret ?_
      repeat first|refine thenQ_ret ?_|refine blockQ_ret ?_
      clear hK31
      apply ex_3
      case hF =>
        refine fx_tmp rfl (by conv=>lhs;whnf) ?_
        exact ⟨_, conv_eq (by first | rfl | exact fI (by first | omega | grind) | (exfalso; first | omega | grind)), weakH_box (boxEq (by first | rfl | (rw [e]; done) | (rw [e]; rfl) | (simp_all; done))) rfl (weakH_none _), refsIn_ok rfl⟩
      case hR =>
        exact ⟨by omega, by omega⟩

-- (*spec.l00Src).pick
theorem D_spec_l00Src_pick (cs : List Int) (a s : Int) (n : Int) (hc : cs.length ≤ 17592186044416) (hb : byteL cs) (ha : 0 ≤ a ∧ a ≤ 3999999999999999998) (hn : -1000000000000 ≤ n ∧ n ≤ 1000000000000) : DenXR Try.prog 74 [(1000000, .box 102 (src cs a s))] [.ptr 1000000 0, .s (.int .i64 n)] (τ := Int × Int × Int) (fun (v, a1, s1) => (0 ≤ v ∧ (v = 0 ∨ v < n)) ∧ (a ≤ a1 ∧ a1 ≤ a + 2)) (fun (v, a1, s1) => [(1000000, .box 102 (src cs a1 s1))]) (fun (v, a1, s1) => .s (.int .i64 v)) := by
  refine denXR_of_good Try.func74 (by decide) rfl (Nat.le_of_ble_eq_true rfl) (Nat.le_of_ble_eq_true rfl) rfl ?_
  refine good_seq fun K1 hK1 => ?_
  refine gr rfl ?_
  refine ea rfl (by conv=>lhs;whnf) ?_
  refine ev_nil (hK1 _ ?_); clear hK1
  refine good_seq fun K2 hK2 => ?_
  refine good_seq fun K3 hK3 => ?_
  refine gr rfl ?_
  refine em rfl (by conv=>lhs;whnf) ?_
  refine ei rfl rfl rfl ?_
  intro b4 hb4; cases b4
  · replace hb4 := dF hb4
    refine ev_nil (hK3 _ ?_); clear hK3
    refine good_condF rfl ?_
    refine good_skip (hK2 _ ?_); clear hK2
    refine good_seq fun K5 hK5 => ?_
    refine gr rfl ?_
    refine em rfl (by conv=>lhs;whnf) ?_
    refine ev_k rfl (k_callR [(1000000, 1000000)] (D_spec_l00Src_next cs _ _  hc hb (by omega)) rfl (rfl) (rfl) ⟨rfl, trivial⟩ rfl (by rintro ⟨v6, a6, s6⟩ ⟨hx6_0, hx6_1⟩; exact ⟨⟨rfl, rfl, trivial⟩, rfl⟩) rfl rfl ?_)
    rintro ⟨v6, a6, s6⟩ ⟨hx6_0, hx6_1⟩
    refine ea rfl (by conv=>lhs;whnf) ?_
    refine ev_nil (hK5 _ ?_); clear hK5
    refine good_seq fun K7 hK7 => ?_
    refine good_seq fun K8 hK8 => ?_
    refine gr rfl ?_
    refine em rfl (by conv=>lhs;whnf) ?_
    refine ei rfl rfl rfl ?_
    intro b9 hb9; cases b9
    · replace hb9 := dF hb9
      refine ev_nil (hK8 _ ?_); clear hK8
      refine good_condF rfl ?_
      refine good_skip (hK7 _ ?_); clear hK7
      refine good_seq fun K10 hK10 => ?_
      refine gr rfl ?_
      refine em rfl (by conv=>lhs;whnf) ?_
      refine em rfl (by conv=>lhs;whnf) ?_
      refine ei rfl rfl rfl ⟨by omega, ?_⟩
      intro n11 hn11
      replace hn11 := remE hn11 (by omega)
      have hr : 0 ≤ n11 ∧ n11 < n := by rw [hn11]; exact ⟨Int.emod_nonneg _ (by omega), Int.emod_lt_of_pos _ (by omega)⟩
      refine ea rfl (by conv=>lhs;whnf) ?_
      refine ev_nil (hK10 _ ?_); clear hK10
      refine good_ret ?_
      repeat first|refine thenQ_ret ?_|refine blockQ_ret ?_
      apply ex_3
      case hF =>
        refine fx_tmp rfl (by conv=>lhs;whnf) ?_
        exact ⟨_, conv_eq (by first | rfl | exact fI (by first | omega | grind) | (exfalso; first | omega | grind)), weakH_box (boxEq (by first | rfl | (rw [e]; done) | (rw [e]; rfl) | (simp_all; done))) rfl (weakH_none _), refsIn_ok rfl⟩
      case hR =>
        exact ⟨by omega, by omega⟩
    · replace hb9 := dT hb9
      refine ev_nil (hK8 _ ?_); clear hK8
      refine good_condT rfl ?_
      refine gr rfl ?_
      refine em rfl (by conv=>lhs;whnf) ?_
      refine ei rfl rfl rfl ?_
      intro n12 hn12
      replace hn12 := in64 hn12 (by omega) (by omega)
      refine em rfl (by conv=>lhs;whnf) ?_
      refine ev_k rfl (k_callR [(1000000, 1000000)] (D_spec_l00Src_next cs _ _  hc hb (by omega)) rfl (rfl) (rfl) ⟨rfl, trivial⟩ rfl (by rintro ⟨v13, a13, s13⟩ ⟨hx13_0, hx13_1⟩; exact ⟨⟨rfl, rfl, trivial⟩, rfl⟩) rfl rfl ?_)
      rintro ⟨v13, a13, s13⟩ ⟨hx13_0, hx13_1⟩
      refine ei rfl rfl rfl ?_
      intro n14 hn14
      replace hn14 := in64 hn14 (by omega) (by omega)
      refine ea rfl (by conv=>lhs;whnf) ?_
      refine ev_nil (hK7 _ ?_); clear hK7
      refine good_seq fun K15 hK15 => ?_
      refine gr rfl ?_
      refine em rfl (by conv=>lhs;whnf) ?_
      refine em rfl (by conv=>lhs;whnf) ?_
      refine ei rfl rfl rfl ⟨by omega, ?_⟩
      intro n16 hn16
      replace hn16 := remE hn16 (by omega)
      have hr : 0 ≤ n16 ∧ n16 < n := by rw [hn16]; exact ⟨Int.emod_nonneg _ (by omega), Int.emod_lt_of_pos _ (by omega)⟩
      refine ea rfl (by conv=>lhs;whnf) ?_
      refine ev_nil (hK15 _ ?_); clear hK15
      refine good_ret ?_
      repeat first|refine thenQ_ret ?_|refine blockQ_ret ?_
      apply ex_3
      case hF =>
        refine fx_tmp rfl (by conv=>lhs;whnf) ?_
        exact ⟨_, conv_eq (by first | rfl | exact fI (by first | omega | grind) | (exfalso; first | omega | grind)), weakH_box (boxEq (by first | rfl | (rw [e]; done) | (rw [e]; rfl) | (simp_all; done))) rfl (weakH_none _), refsIn_ok rfl⟩
      case hR =>
        exact ⟨by omega, by omega⟩
  · replace hb4 := dT hb4
    refine ev_nil (hK3 _ ?_); clear hK3
    refine good_condT rfl ?_
    refine good_seq fun K17 hK17 => ?_
    refine gr rfl ?_
    refine ea rfl (by conv=>lhs;whnf) ?_
    refine ev_nil (hK17 _ ?_); clear hK17
    refine good_ret ?_
    repeat first|refine thenQ_ret ?_|refine blockQ_ret ?_
    clear hK2
    apply ex_3
    case hF =>
      refine fx_tmp rfl (by conv=>lhs;whnf) ?_
      exact ⟨_, conv_eq (by first | rfl | exact fI (by first | omega | grind) | (exfalso; first | omega | grind)), weakH_box (boxEq (by first | rfl | (rw [e]; done) | (rw [e]; rfl) | (simp_all; done))) rfl (weakH_none _), refsIn_ok rfl⟩
    case hR =>
      exact ⟨by omega, by omega⟩

-- (*spec.l00Src).one
theorem D_spec_l00Src_one (cs : List Int) (a s : Int) (n : Int) (hc : cs.length ≤ 17592186044416) (hb : byteL cs) (ha : 0 ≤ a ∧ a ≤ 3999999999999999998) (hn : -1000000000000 ≤ n ∧ n ≤ 1000000000000) : DenXR Try.prog 76 [(1000000, .box 102 (src cs a s))] [.ptr 1000000 0, .s (.int .i64 n)] (τ := Bool × Int × Int) (fun (v, a1, s1) => a ≤ a1 ∧ a1 ≤ a + 2) (fun (v, a1, s1) => [(1000000, .box 102 (src cs a1 s1))]) (fun (v, a1, s1) => .s (.bool v)) := by
  refine denXR_of_good Try.func76 (by decide) rfl (Nat.le_of_ble_eq_true rfl) (Nat.le_of_ble_eq_true rfl) rfl ?_
  refine good_seq fun K1 hK1 => ?_
  refine gr rfl ?_
  refine ea rfl (by conv=>lhs;whnf) ?_
  refine ev_nil (hK1 _ ?_); clear hK1
  refine good_seq fun K2 hK2 => ?_
  refine gr rfl ?_
  refine em rfl (by conv=>lhs;whnf) ?_
  refine em rfl (by conv=>lhs;whnf) ?_
  refine ev_k rfl (k_callR [(1000000, 1000000)] (D_spec_l00Src_pick cs _ _ _ hc hb (by omega) (by omega)) rfl (rfl) (rfl) ⟨rfl, trivial⟩ rfl (by rintro ⟨v3, a3, s3⟩ ⟨hx3_0, hx3_1⟩; exact ⟨⟨rfl, rfl, trivial⟩, rfl⟩) rfl rfl ?_)
  rintro ⟨v3, a3, s3⟩ ⟨hx3_0, hx3_1⟩
  refine ei rfl rfl rfl ?_
  intro b4 hb4; cases b4
  · replace hb4 := eqF hb4
    refine ea rfl (by conv=>lhs;whnf) ?_
    refine ev_nil (hK2 _ ?_); clear hK2
    refine good_ret ?_
    repeat first|refine thenQ_ret ?_|refine blockQ_ret ?_
    apply ex_3
    case hF =>
      refine fx_tmp rfl (by conv=>lhs;whnf) ?_
      exact ⟨_, conv_eq (by first | rfl | exact fT (by first | omega | grind) | exact fF (by first | omega | grind) | exact fT' (by first | omega | grind) | (exfalso; first | omega | grind)), weakH_box (boxEq (by first | rfl | (rw [e]; done) | (rw [e]; rfl) | (simp_all; done))) rfl (weakH_none _), refsIn_ok rfl⟩
    case hR =>
      exact ⟨by omega, by omega⟩
  · replace hb4 := eqT hb4
    refine ea rfl (by conv=>lhs;whnf) ?_
    refine ev_nil (hK2 _ ?_); clear hK2
    refine good_ret ?_
    repeat first|refine thenQ_ret ?_|refine blockQ_ret ?_
    apply ex_3
    case hF =>
      refine fx_tmp rfl (by conv=>lhs;whnf) ?_
      exact ⟨_, conv_eq (by first | rfl | exact fT (by first | omega | grind) | exact fF (by first | omega | grind) | exact fT' (by first | omega | grind) | (exfalso; first | omega | grind)), weakH_box (boxEq (by first | rfl | (rw [e]; done) | (rw [e]; rfl) | (simp_all; done))) rfl (weakH_none _), refsIn_ok rfl⟩
    case hR =>
      exact ⟨by omega, by omega⟩

-- (*spec.l00Src).among
theorem D_spec_l00Src_among (cs : List Int) (a s : Int) (xs : List Int) (hc : cs.length ≤ 17592186044416) (hb : byteL cs) (ha : 0 ≤ a ∧ a ≤ 3999999999999999998) (hx : 1 ≤ xs.length ∧ xs.length ≤ 1000000) : DenXR Try.prog 35 [(1000000, .box 102 (src cs a s)), (1000001, .row 2 1 (xs.map ci))] [.ptr 1000000 0, .own 1000001 xs.length] (τ := Int × Int × Int) (fun (v, a1, s1) => (v ∈ xs) ∧ (a ≤ a1 ∧ a1 ≤ a + 2)) (fun (v, a1, s1) => [(1000000, .box 102 (src cs a1 s1)), (1000001, .row 2 1 (xs.map ci))]) (fun (v, a1, s1) => .s (.int .i64 v)) := by
  refine denXR_of_good Try.func35 (by decide) rfl (Nat.le_of_ble_eq_true rfl) (Nat.le_of_ble_eq_true rfl) rfl ?_
  refine good_seq fun K1 hK1 => ?_
  refine gr rfl ?_
  refine ea rfl (by conv=>lhs;whnf) ?_
  refine ev_nil (hK1 _ ?_); clear hK1
  refine good_seq fun K2 hK2 => ?_
  refine gr rfl ?_
  refine em rfl (by conv=>lhs;whnf) ?_
  refine em rfl (by conv=>lhs;whnf) ?_
  refine em rfl (by conv=>lhs;whnf) ?_
  refine ev_q rfl (q_len tEs24 rfl ?_)
  intro n3 hn3
  try simp only [List.length_map] at hn3
  refine ev_k rfl (k_callR [(1000000, 1000000)] (D_spec_l00Src_pick cs _ _ _ hc hb (by omega) (by omega)) rfl (rfl) (rfl) ⟨rfl, trivial⟩ rfl (by rintro ⟨v4, a4, s4⟩ ⟨hx4_0, hx4_1⟩; exact ⟨⟨rfl, rfl, trivial⟩, rfl⟩) rfl rfl ?_)
  rintro ⟨v4, a4, s4⟩ ⟨hx4_0, hx4_1⟩
  obtain ⟨p, hp⟩ := getL (xs := xs) (n := v4) (by omega) (by omega)
  refine ev_q rfl (q_idxO tE24 rfl rfl rfl (by omega) (by omega) rfl ?_)
  refine ev_q rfl (q_loadE tA2 rfl rfl (by exact map_get hp) rfl ?_)
  refine ea rfl (by conv=>lhs;whnf) ?_
  refine ev_nil (hK2 _ ?_); clear hK2
  refine good_ret ?_
  repeat first|refine thenQ_ret ?_|refine blockQ_ret ?_
  apply ex_3
  case hF =>
    refine fx_tmp rfl (by conv=>lhs;whnf) ?_
    exact ⟨_, conv_eq (by first | rfl | exact fI (by first | omega | grind) | (exfalso; first | omega | grind)), weakH_box (boxEq (by first | rfl | (rw [e]; done) | (rw [e]; rfl) | (simp_all; done))) rfl (weakH_row (rowEq (by first | rfl | (rw [e]; done) | (rw [e]; rfl) | (simp_all; done))) (weakH_none _)), refsIn_ok rfl⟩
  case hR =>
    exact ⟨List.mem_of_getElem? hp, by omega, by omega⟩

-- spec.l00From
theorem D_spec_l00From (cs : List Int)  : DenX Try.prog 33 [] [.lst 1 (cs.map cb)] [(5, .box 102 (src cs 0 0))] (.ptr 5 0) := by
  refine denX_of_good Try.func33 (by decide) rfl (Nat.le_of_ble_eq_true rfl) (Nat.le_of_ble_eq_true rfl) rfl ?_
  refine good_seq fun K1 hK1 => ?_
  refine gr rfl ?_
  refine ea rfl (by conv=>lhs;whnf) ?_
  refine ev_nil (hK1 _ ?_); clear hK1
  refine good_seq fun K2 hK2 => ?_
  refine gr rfl ?_
  refine em rfl (by conv=>lhs;whnf) ?_
  refine ev_k rfl (k_build zA102 pl102 (rfl) ?_)
  refine ev_k rfl (k_box (by conv=>lhs;whnf) rfl rfl rfl ?_)
  refine ea rfl (by conv=>lhs;whnf) ?_
  refine ev_nil (hK2 _ ?_); clear hK2
  refine good_ret ?_
  repeat first|refine thenQ_ret ?_|refine blockQ_ret ?_
  refine fx_tmp rfl (by conv=>lhs;whnf) ?_
  exact ⟨_, conv_eq (by first | rfl | (rw [e]; done) | (rw [e]; rfl) | exact ownEq (by first | omega | simp_all)), weakH_box (boxEq (by first | rfl | (rw [e]; done) | (rw [e]; rfl) | (simp_all; done))) rfl (weakH_none _), refsIn_ok rfl⟩

-- spec.l03DrawOk
theorem D_spec_l03DrawOk (cs : List Int) (a s : Int) (nm : ByteArray) (f t : Int) (hc : cs.length ≤ 17592186044416) (hb : byteL cs) (ha : 0 ≤ a ∧ a ≤ 3999999999999999994)  : DenXR Try.prog 77 [(1000000, .box 102 (src cs a s))] [.ptr 1000000 0, .s (.string nm), .s (.int .i64 f), .s (.int .i64 t)] (τ := Pi × Int × Int) (fun (v, a1, s1) => (v.id = nm ∧ v.fm = f ∧ v.tt = t ∧ dpB v) ∧ (a ≤ a1 ∧ a1 ≤ a + 6)) (fun (v, a1, s1) => [(1000000, .box 102 (src cs a1 s1))]) (fun (v, a1, s1) => .agg [.s (.string v.id), .s (.int .i64 (v.fm)), .s (.int .i64 (v.tt)), .s (.int .i64 (v.le)), .s (.int .i64 (v.di)), .s (.int .i64 (v.lo))]) := by
  refine denXR_of_good Try.func77 (by decide) rfl (Nat.le_of_ble_eq_true rfl) (Nat.le_of_ble_eq_true rfl) rfl ?_
  refine good_seq fun K1 hK1 => ?_
  refine gr rfl ?_
  refine ev_k rfl (k_alloc zA73 rfl ?_)
  refine ev_nil (hK1 _ ?_); clear hK1
  refine good_seq fun K2 hK2 => ?_
  refine gr rfl ?_
  refine em rfl (by conv=>lhs;whnf) ?_
  refine em rfl (by conv=>lhs;whnf) ?_
  refine em rfl (by conv=>lhs;whnf) ?_
  refine em rfl (by conv=>lhs;whnf) ?_
  refine ev_k rfl (k_callR [(1000000, 1000000)] (D_spec_l00Src_pick cs _ _ _ hc hb (by omega) (by omega)) rfl (rfl) (rfl) ⟨rfl, trivial⟩ rfl (by rintro ⟨v3, a3, s3⟩ ⟨hx3_0, hx3_1⟩; exact ⟨⟨rfl, rfl, trivial⟩, rfl⟩) rfl rfl ?_)
  rintro ⟨v3, a3, s3⟩ ⟨hx3_0, hx3_1⟩
  refine ei rfl rfl rfl ?_
  intro n4 hn4
  replace hn4 := in64 hn4 (by omega) (by omega)
  refine ev_k rfl (k_build zA73 pl73 (rfl) ?_)
  refine ev_k rfl (k_alloc zA73 rfl ?_)
  refine ev_k rfl (k_store sz73 rfl (by conv=>lhs;whnf) rfl rfl rfl (Nat.le_of_ble_eq_true rfl) rfl ?_)
  refine ev_nil (hK2 _ ?_); clear hK2
  refine good_seq fun K5 hK5 => ?_
  refine good_weak (st' := { env := upd (upd (upd ((fun _ => .junk)) 0 (.ptr 1000000 0)) 8 (.ptr 8 0)) 9 (.ptr 9 0), H := upd (upd (upd ((fun _ => none)) 9 (some (.box 73 [.s (.string nm), .s (.int .i64 f), .s (.int .i64 t), .s (.int .i64 (n4)), .s (.int .i64 0), .s (.int .i64 0)]))) 8 (some (.box 73 [.s (.string ⟨#[]⟩), .s (.int .i64 0), .s (.int .i64 0), .s (.int .i64 0), .s (.int .i64 0), .s (.int .i64 0)]))) 1000000 (some (.box 102 (src cs a3 s3))) }) ?_ ?_
  · refine sub_weak ?_ ?_
    · exact weakH_box (boxEq (rfl)) rfl (weakH_box (boxEq (rfl)) rfl (weakH_box (boxEq (rfl)) rfl (weakH_none _)))
    · refine weakE_upd ?e9 ?r9 (weakE_upd ?e8 ?r8 (weakE_upd ?e0 ?r0 (weakE_junk _ _)))
      case e0 => first | rfl | exact fI (by omega) | (rfl)
      case r0 => intro h hh; simp [refs] at hh; subst hh; rfl
      case e8 => first | rfl | exact fI (by omega) | (rfl)
      case r8 => intro h hh; simp [refs] at hh; subst hh; rfl
      case e9 => first | rfl | exact fI (by omega) | (rfl)
      case r9 => intro h hh; simp [refs] at hh; subst hh; rfl
  refine gr rfl ?_
  refine em rfl (by conv=>lhs;whnf) ?_
  refine ev_k rfl (k_callR [(1000000, 1000000)] (D_spec_l00Src_pick cs _ _ _ hc hb (by omega) (by omega)) rfl (rfl) (rfl) ⟨rfl, trivial⟩ rfl (by rintro ⟨v6, a6, s6⟩ ⟨hx6_0, hx6_1⟩; exact ⟨⟨rfl, rfl, trivial⟩, rfl⟩) rfl rfl ?_)
  rintro ⟨v6, a6, s6⟩ ⟨hx6_0, hx6_1⟩
  refine ei rfl rfl rfl ?_
  intro n7 hn7
  replace hn7 := in64 hn7 (by omega) (by omega)
  refine ei rfl rfl rfl ?_
  intro n8 hn8
  replace hn8 := in64 hn8 (by omega) (by omega)
  refine ev_q rfl (q_fieldAddrP fO73_4 rfl rfl ?_)
  refine ev_k rfl (k_store sz2 rfl (by conv=>lhs;whnf) rfl rfl rfl (Nat.le_of_ble_eq_true rfl) rfl ?_)
  refine ev_nil (hK5 _ ?_); clear hK5
  refine good_seq fun K9 hK9 => ?_
  refine good_weak (st' := { env := upd (upd (upd ((fun _ => .junk)) 0 (.ptr 1000000 0)) 8 (.ptr 8 0)) 9 (.ptr 9 0), H := upd (upd (upd ((fun _ => none)) 9 (some (.box 73 [.s (.string nm), .s (.int .i64 f), .s (.int .i64 t), .s (.int .i64 (n4)), .s (.int .i64 (n8)), .s (.int .i64 0)]))) 8 (some (.box 73 [.s (.string ⟨#[]⟩), .s (.int .i64 0), .s (.int .i64 0), .s (.int .i64 0), .s (.int .i64 0), .s (.int .i64 0)]))) 1000000 (some (.box 102 (src cs a6 s6))) }) ?_ ?_
  · refine sub_weak ?_ ?_
    · exact weakH_box (boxEq (rfl)) rfl (weakH_box (boxEq (rfl)) rfl (weakH_box (boxEq (rfl)) rfl (weakH_none _)))
    · refine weakE_upd ?e9 ?r9 (weakE_upd ?e8 ?r8 (weakE_upd ?e0 ?r0 (weakE_junk _ _)))
      case e0 => first | rfl | exact fI (by omega) | (rfl)
      case r0 => intro h hh; simp [refs] at hh; subst hh; rfl
      case e8 => first | rfl | exact fI (by omega) | (rfl)
      case r8 => intro h hh; simp [refs] at hh; subst hh; rfl
      case e9 => first | rfl | exact fI (by omega) | (rfl)
      case r9 => intro h hh; simp [refs] at hh; subst hh; rfl
  refine gr rfl ?_
  refine em rfl (by conv=>lhs;whnf) ?_
  refine ev_k rfl (k_callR [(1000000, 1000000)] (D_spec_l00Src_pick cs _ _ _ hc hb (by omega) (by omega)) rfl (rfl) (rfl) ⟨rfl, trivial⟩ rfl (by rintro ⟨v10, a10, s10⟩ ⟨hx10_0, hx10_1⟩; exact ⟨⟨rfl, rfl, trivial⟩, rfl⟩) rfl rfl ?_)
  rintro ⟨v10, a10, s10⟩ ⟨hx10_0, hx10_1⟩
  refine ei rfl rfl rfl ?_
  intro n11 hn11
  replace hn11 := in64 hn11 (by omega) (by omega)
  refine ev_q rfl (q_fieldAddrP fO73_5 rfl rfl ?_)
  refine ev_k rfl (k_store sz2 rfl (by conv=>lhs;whnf) rfl rfl rfl (Nat.le_of_ble_eq_true rfl) rfl ?_)
  refine ev_nil (hK9 _ ?_); clear hK9
  refine good_seq fun K12 hK12 => ?_
  refine good_weak (st' := { env := upd (upd (upd ((fun _ => .junk)) 0 (.ptr 1000000 0)) 8 (.ptr 8 0)) 9 (.ptr 9 0), H := upd (upd (upd ((fun _ => none)) 9 (some (.box 73 [.s (.string nm), .s (.int .i64 f), .s (.int .i64 t), .s (.int .i64 (n4)), .s (.int .i64 (n8)), .s (.int .i64 (n11))]))) 8 (some (.box 73 [.s (.string ⟨#[]⟩), .s (.int .i64 0), .s (.int .i64 0), .s (.int .i64 0), .s (.int .i64 0), .s (.int .i64 0)]))) 1000000 (some (.box 102 (src cs a10 s10))) }) ?_ ?_
  · refine sub_weak ?_ ?_
    · exact weakH_box (boxEq (rfl)) rfl (weakH_box (boxEq (rfl)) rfl (weakH_box (boxEq (rfl)) rfl (weakH_none _)))
    · refine weakE_upd ?e9 ?r9 (weakE_upd ?e8 ?r8 (weakE_upd ?e0 ?r0 (weakE_junk _ _)))
      case e0 => first | rfl | exact fI (by omega) | (rfl)
      case r0 => intro h hh; simp [refs] at hh; subst hh; rfl
      case e8 => first | rfl | exact fI (by omega) | (rfl)
      case r8 => intro h hh; simp [refs] at hh; subst hh; rfl
      case e9 => first | rfl | exact fI (by omega) | (rfl)
      case r9 => intro h hh; simp [refs] at hh; subst hh; rfl
  refine gr rfl ?_
  refine ev_q rfl (q_loadA tA73 rfl rfl rfl ?_)
  refine ev_k rfl (k_store sz73 rfl (by conv=>lhs;whnf) rfl rfl rfl (Nat.le_of_ble_eq_true rfl) rfl ?_)
  refine ev_nil (hK12 _ ?_); clear hK12
  refine good_ret ?_
  repeat first|refine thenQ_ret ?_|refine blockQ_ret ?_
  refine ex_3 (v := ⟨nm, f, t, n4, n8, n11⟩) (a := a10) (b := s10) ?hF ?hR
  case hF =>
    refine fx_cell rfl tA73 rfl rfl rfl ?_
    exact ⟨_, conv_eq (by first | rfl | exact fAgg1 (by first | rfl | exact ownEq (by first | done | omega | (simp; done)) | (simp_all; done)) (fAgg1 (by first | rfl | exact fI (by first | omega | grind) | (exfalso; first | omega | grind)) (fAgg1 (by first | rfl | exact fI (by first | omega | grind) | (exfalso; first | omega | grind)) (fAgg1 (by first | rfl | exact fI (by first | omega | grind) | (exfalso; first | omega | grind)) (fAgg1 (by first | rfl | exact fI (by first | omega | grind) | (exfalso; first | omega | grind)) (fAgg1 (by first | rfl | exact fI (by first | omega | grind) | (exfalso; first | omega | grind)) (rfl))))))), weakH_box (boxEq (by first | rfl | (rw [e]; done) | (rw [e]; rfl) | (simp_all; done))) rfl (weakH_none _), refsIn_ok rfl⟩
  case hR =>
    exact ⟨⟨rfl, rfl, rfl, by unfold dpB; dsimp only; omega⟩, by omega⟩

-- spec.l04Ids
theorem D_spec_l04Ids   : DenX Try.prog 75 [] [] [(900001, .row 9 1 (idL.map sAV))] (.own 900001 12) := by
  refine denX_of_good Try.func75 (by decide) rfl (Nat.le_of_ble_eq_true rfl) (Nat.le_of_ble_eq_true rfl) rfl ?_
  refine good_seq fun K1 hK1 => ?_
  refine gr rfl ?_
  refine ea rfl (by conv=>lhs;whnf) ?_
  refine ev_nil (hK1 _ ?_); clear hK1
  refine good_seq fun K2 hK2 => ?_
  refine gr rfl ?_
  refine ev_k rfl (k_lit tE103 zA9 rfl rfl (by decide) (by decide) rfl rfl rfl ?_)
  refine ea rfl (by conv=>lhs;whnf) ?_
  refine ev_nil (hK2 _ ?_); clear hK2
  refine good_weak (sub_move 0 1 900001 rfl rfl rfl (by decide)) ?_
  refine good_ret ?_
  repeat first|refine thenQ_ret ?_|refine blockQ_ret ?_
  refine fx_tmp rfl (by conv=>lhs;whnf) ?_
  exact ⟨_, conv_eq (by first | rfl | (rw [e]; done) | (rw [e]; rfl) | exact ownEq (by first | omega | simp_all)), weakH_row (rowEq (by first | rfl | (rw [e]; done) | (rw [e]; rfl) | (simp_all; done))) (weakH_none _), refsIn_ok rfl⟩

-- spec.l04DrawTree
theorem D_spec_l04DrawTree (cs : List Int) (a s : Int) (hc : cs.length ≤ 17592186044416) (hb : byteL cs) (ha : 0 ≤ a ∧ a ≤ 1000000000000000000) : DenXR Try.prog 34 [(1000000, .box 102 (src cs a s))] [.ptr 1000000 0] (τ := List Int × List Pi × Int × Int) (fun (ns, ps, a1, s1) => DrT ns ps ∧ (a ≤ a1 ∧ a1 ≤ a + 200)) (fun (ns, ps, a1, s1) => [(1000000, .box 102 (src cs a1 s1)), (900001, .row 2 1 (ns.map ci)), (900002, .row 73 6 (ps.map piA))]) (fun (ns, ps, a1, s1) => .agg [.own 900001 ns.length, .own 900002 ps.length]) := by
  refine denXR_of_good Try.func34 (by decide) rfl (Nat.le_of_ble_eq_true rfl) (Nat.le_of_ble_eq_true rfl) rfl ?_
  refine good_seq fun K1 hK1 => ?_
  refine gr rfl ?_
  refine ev_k rfl (k_alloc zA27 rfl ?_)
  refine ev_nil (hK1 _ ?_); clear hK1
  refine good_seq fun K2 hK2 => ?_
  refine gr rfl ?_
  refine ev_k rfl (k_lit tE24 zA2 rfl rfl (by decide) (by decide) rfl rfl rfl ?_)
  refine ev_k rfl (k_lit tE25 zA73 rfl rfl (by decide) (by decide) rfl rfl rfl ?_)
  refine ev_k rfl (k_build zA27 pl27 (rfl) ?_)
  refine ev_k rfl (k_alloc zA27 rfl ?_)
  refine ev_k rfl (k_store sz27 rfl (by conv=>lhs;whnf) rfl rfl rfl (Nat.le_of_ble_eq_true rfl) rfl ?_)
  refine ev_nil (hK2 _ ?_); clear hK2
  refine good_seq fun K3 hK3 => ?_
  refine gr rfl ?_
  refine em rfl (by conv=>lhs;whnf) ?_
  refine ev_k rfl (k_callR [(1000000, 1000000)] (D_spec_l00Src_pick cs _ _ _ hc hb (by omega) (by omega)) rfl (rfl) (rfl) ⟨rfl, trivial⟩ rfl (by rintro ⟨v4, a4, s4⟩ ⟨hx4_0, hx4_1⟩; exact ⟨⟨rfl, rfl, trivial⟩, rfl⟩) rfl rfl ?_)
  rintro ⟨v4, a4, s4⟩ ⟨hx4_0, hx4_1⟩
  refine ei rfl rfl rfl ?_
  intro n5 hn5
  replace hn5 := in64 hn5 (by omega) (by omega)
  refine ea rfl (by conv=>lhs;whnf) ?_
  refine ev_nil (hK3 _ ?_); clear hK3
  refine good_seq fun K6 hK6 => ?_
  refine good_seq fun K7 hK7 => ?_
  refine gr rfl ?_
  refine ea rfl (by conv=>lhs;whnf) ?_
  refine ev_nil (hK7 _ ?_); clear hK7
  refine good_block ?_
  refine good_loop (α := List Int × Int × Int) (fun (xs, a1, s1) => { env := upd (upd (upd (upd (upd ((fun _ => .junk)) 0 (.ptr 1000000 0)) 2 (.ptr 2 0)) 3 (.ptr 3 0)) 4 (.s (.int .i64 (n5)))) 5 (.s (.int .i64 ((xs.length : Int)))), H := upd (upd (upd (upd (upd ((fun _ => none)) 10 (some (.row 73 6 ([])))) 27 (some (.row 2 1 (xs.map ci)))) 3 (some (.box 27 [.own 27 xs.length, .own 10 0]))) 2 (some (.box 27 [.nil, .nil]))) 1000000 (some (.box 102 (src cs a1 s1))) }) (fun (xs, a1, s1) => nsB xs ∧ xs.length ≤ n5 ∧ (a ≤ a1 ∧ a1 ≤ a + 2 + 2 * xs.length)) (fun (xs, a1, s1) => n5.toNat - xs.length) ([], a4, s4) ?_ ?_ ?_
  · exact ⟨fun x hx => (by cases hx), (by simp; omega), (by simp; omega)⟩
  · refine Sub.trans (sub_ren 9 27 (by decide) rfl (by decide) rfl) ?_
    refine sub_weak ?_ ?_
    · exact weakH_box (boxEq (rfl)) rfl (weakH_box (boxEq (rfl)) rfl (weakH_boxR (boxEq (rfl)) rfl (weakH_row (rowEq (rfl)) (weakH_row (rowEq (rfl)) (weakH_none _)))))
    · refine weakE_upd ?e5 ?r5 (weakE_upd ?e4 ?r4 (weakE_upd ?e3 ?r3 (weakE_upd ?e2 ?r2 (weakE_upd ?e0 ?r0 (weakE_junk _ _)))))
      case e0 => first | rfl | exact fI (by omega) | (simp_all)
      case r0 => intro h hh; simp [refs] at hh; subst hh; rfl
      case e2 => first | rfl | exact fI (by omega) | (simp_all)
      case r2 => intro h hh; simp [refs] at hh; subst hh; rfl
      case e3 => first | rfl | exact fI (by omega) | (simp_all)
      case r3 => intro h hh; simp [refs] at hh; subst hh; rfl
      case e4 => first | rfl | exact fI (by omega) | (simp_all)
      case r4 => intro h hh; cases hh
      case e5 => first | rfl | exact fI (by omega) | (first | rfl | exact fI (by simp; omega))
      case r5 => intro h hh; cases hh
  · rintro ⟨xs, a1, s1⟩ ⟨hx, hxl, hxa⟩
    refine good_seq fun K8 hK8 => ?_
    refine good_seq fun K9 hK9 => ?_
    refine gr rfl ?_
    refine em rfl (by conv=>lhs;whnf) ?_
    refine em rfl (by conv=>lhs;whnf) ?_
    refine ei rfl rfl rfl ?_
    intro b10 hb10; cases b10
    · replace hb10 := dF hb10
      refine ev_nil (hK9 _ ?_); clear hK9
      refine good_condF rfl ?_
      refine good_exit ?_
      repeat first|refine thenQ_exit ?_|refine blockQ_pass rfl ?_
      refine blockQ_exit (hK6 _ ?_); clear hK6
      refine good_seq fun K11 hK11 => ?_
      refine gr rfl ?_
      refine ev_k rfl (k_callX [(900001, 900010)] D_spec_l04Ids rfl (rfl) (rfl) trivial ⟨⟨rfl, show (900010 : Nat) < 1000000 by decide⟩, trivial⟩ rfl rfl rfl ?_)
      refine ea rfl (by conv=>lhs;whnf) ?_
      refine ev_nil (hK11 _ ?_); clear hK11
      refine good_seq fun K12 hK12 => ?_
      refine good_seq fun K13 hK13 => ?_
      refine gr rfl ?_
      refine ea rfl (by conv=>lhs;whnf) ?_
      refine ev_nil (hK13 _ ?_); clear hK13
      refine good_block ?_
      refine good_loop (α := List Pi × Int × Int) (fun (qs, a2, s2) => { env := upd (upd (upd (upd (upd (upd ((fun _ => .junk)) 0 (.ptr 1000000 0)) 2 (.ptr 2 0)) 3 (.ptr 3 0)) 4 (.s (.int .i64 (n5)))) 6 (.own 900010 12)) 7 (.s (.int .i64 ((qs.length : Int) + 1))), H := upd (upd (upd (upd (upd (upd ((fun _ => none)) 900010 (some (.row 9 1 (idL.map sAV)))) 52 (some (.row 73 6 (qs.map piA)))) 27 (some (.row 2 1 (xs.map ci)))) 3 (some (.box 27 [.own 27 xs.length, .own 52 qs.length]))) 2 (some (.box 27 [.nil, .nil]))) 1000000 (some (.box 102 (src cs a2 s2))) }) (fun (qs, a2, s2) => trA qs ∧ qs.length + 1 ≤ n5 ∧ (a ≤ a2 ∧ a2 ≤ a + 20 + 12 * qs.length)) (fun (qs, a2, s2) => n5.toNat - qs.length) ([], a1, s1) ?_ ?_ ?_
      · exact ⟨fun i p h => (by simp at h), (by simp; omega), (by simp; omega)⟩
      · refine Sub.trans (sub_ren 10 52 (by decide) rfl (by decide) rfl) ?_
        refine sub_weak ?_ ?_
        · exact weakH_box (boxEq (rfl)) rfl (weakH_box (boxEq (rfl)) rfl (weakH_boxR (boxEq (rfl)) rfl (weakH_row (rowEq (rfl)) (weakH_row (rowEq (rfl)) (weakH_row (rowEq (rfl)) (weakH_none _))))))
        · refine weakE_upd ?e7 ?r7 (weakE_upd ?e6 ?r6 (weakE_upd ?e4 ?r4 (weakE_upd ?e3 ?r3 (weakE_upd ?e2 ?r2 (weakE_upd ?e0 ?r0 (weakE_junk _ _))))))
          case e0 => first | rfl | exact fI (by omega) | (simp_all)
          case r0 => intro h hh; simp [refs] at hh; subst hh; rfl
          case e2 => first | rfl | exact fI (by omega) | (simp_all)
          case r2 => intro h hh; simp [refs] at hh; subst hh; rfl
          case e3 => first | rfl | exact fI (by omega) | (simp_all)
          case r3 => intro h hh; simp [refs] at hh; subst hh; rfl
          case e4 => first | rfl | exact fI (by omega) | (simp_all)
          case r4 => intro h hh; cases hh
          case e6 => first | rfl | exact fI (by omega) | (simp_all)
          case r6 => intro h hh; simp [refs] at hh; subst hh; rfl
          case e7 => first | rfl | exact fI (by omega) | (first | rfl | exact fI (by simp; omega))
          case r7 => intro h hh; cases hh
      · rintro ⟨qs, a2, s2⟩ ⟨hq, hql, hqa⟩
        refine good_seq fun K14 hK14 => ?_
        refine good_seq fun K15 hK15 => ?_
        refine gr rfl ?_
        refine em rfl (by conv=>lhs;whnf) ?_
        refine em rfl (by conv=>lhs;whnf) ?_
        refine ei rfl rfl rfl ?_
        intro b16 hb16; cases b16
        · replace hb16 := dF hb16
          refine ev_nil (hK15 _ ?_); clear hK15
          refine good_condF rfl ?_
          refine good_exit ?_
          repeat first|refine thenQ_exit ?_|refine blockQ_pass rfl ?_
          refine blockQ_exit (hK12 _ ?_); clear hK12
          refine good_seq fun K17 hK17 => ?_
          refine gr rfl ?_
          refine ev_q rfl (q_loadA tA27 rfl rfl rfl ?_)
          refine ev_k rfl (k_store sz27 rfl (by conv=>lhs;whnf) rfl rfl rfl (Nat.le_of_ble_eq_true rfl) rfl ?_)
          refine ev_nil (hK17 _ ?_); clear hK17
          refine good_weak (sub_ren 27 900001 (by decide) rfl (by decide) rfl) ?_
          refine good_weak (sub_ren 52 900002 (by decide) rfl (by decide) rfl) ?_
          refine good_ret ?_
          repeat first|refine thenQ_ret ?_|refine blockQ_ret ?_
          clear hK8 hK14
          refine ex_4 (v := xs) (a := qs) (b := a2) (c := s2) ?hF ?hR
          case hF =>
            refine fx_cell rfl tA27 rfl rfl rfl ?_
            exact ⟨_, conv_eq (by first | rfl | exact fAgg1 (by first | rfl | exact ownEq (by first | done | omega | (simp; done)) | (simp_all; done)) (fAgg1 (by first | rfl | exact ownEq (by first | done | omega | (simp; done)) | (simp_all; done)) (rfl))), weakH_box (boxEq (by first | rfl | (rw [e]; done) | (rw [e]; rfl) | (simp_all; done))) rfl (weakH_row (rowEq (by first | rfl | (rw [e]; done) | (rw [e]; rfl) | (simp_all; done))) (weakH_row (rowEq (by first | rfl | (rw [e]; done) | (rw [e]; rfl) | (simp_all; done))) (weakH_none _))), refsIn_ok rfl⟩
          case hR =>
            exact ⟨⟨by omega, by omega, by omega, hx, hq⟩, by omega⟩
        · replace hb16 := dT hb16
          obtain ⟨nm, hnm⟩ : ∃ nm, idL[qs.length]? = some nm := ⟨_, List.getElem?_eq_getElem (by show _ < 12; omega)⟩
          refine ev_nil (hK15 _ ?_); clear hK15
          refine good_condT rfl ?_
          refine good_skip (hK14 _ ?_); clear hK14
          refine good_seq fun K18 hK18 => ?_
          refine good_block ?_
          refine good_seq fun K19 hK19 => ?_
          refine gr rfl ?_
          refine em rfl (by conv=>lhs;whnf) ?_
          refine em rfl (by conv=>lhs;whnf) ?_
          refine ev_k rfl (k_callR [(1000000, 1000000)] (D_spec_l00Src_pick cs _ _ _ hc hb (by omega) (by omega)) rfl (rfl) (rfl) ⟨rfl, trivial⟩ rfl (by rintro ⟨v20, a20, s20⟩ ⟨hx20_0, hx20_1⟩; exact ⟨⟨rfl, rfl, trivial⟩, rfl⟩) rfl rfl ?_)
          rintro ⟨v20, a20, s20⟩ ⟨hx20_0, hx20_1⟩
          refine ea rfl (by conv=>lhs;whnf) ?_
          refine ev_nil (hK19 _ ?_); clear hK19
          refine good_seq fun K21 hK21 => ?_
          refine gr rfl ?_
          refine em rfl (by conv=>lhs;whnf) ?_
          refine ev_k rfl (k_callR [(1000000, 1000000)] (D_spec_l00Src_one cs _ _ _ hc hb (by omega) (by omega)) rfl (rfl) (rfl) ⟨rfl, trivial⟩ rfl (by rintro ⟨v22, a22, s22⟩ ⟨hx22_0, hx22_1⟩; exact ⟨⟨rfl, rfl, trivial⟩, rfl⟩) rfl rfl ?_)
          rintro ⟨v22, a22, s22⟩ ⟨hx22_0, hx22_1⟩
          cases v22
          · refine ev_nil (hK21 _ ?_); clear hK21
            refine good_condF rfl ?_
            refine good_any 15 (listed := #[false, false, false, false, false, false, false, false, false, false, false, false, false, false, false]) rfl rfl hmix rfl ?_
            refine tn_first_q (i := 0) (listed' := #[true, false, false, false, false, false, false, false, false, false, false, false, false, false, false]) rfl rfl (by kernel_rfl) rfl (q_fieldAddrP fO27_1 rfl rfl ?_)
            refine tn_first_q (i := 2) (listed' := #[true, false, true, false, false, false, false, false, false, false, false, false, false, false, false]) rfl rfl (by kernel_rfl) rfl (q_move (by conv=>lhs;whnf) ?_)
            refine tn_first_q (i := 3) (listed' := #[true, false, true, true, false, false, false, false, false, false, false, false, false, false, false]) rfl rfl (by kernel_rfl) rfl (q_move (by conv=>lhs;whnf) ?_)
            refine tn_first_q (i := 4) (listed' := #[true, false, true, true, true, false, false, false, false, false, false, false, false, false, false]) rfl rfl (by kernel_rfl) rfl (q_move (by conv=>lhs;whnf) ?_)
            refine tn_first_q (i := 5) (listed' := #[true, false, true, true, true, true, false, false, false, false, false, false, false, false, false]) rfl rfl (by kernel_rfl) rfl (q_int rfl rfl ?_)
            intro n23 hn23
            replace hn23 := in64 hn23 (by omega) (by omega)
            refine tn_first_q (i := 6) (listed' := #[true, false, true, true, true, true, true, false, false, false, false, false, false, false, false]) rfl rfl (by kernel_rfl) rfl (q_idxO tE103 rfl rfl rfl (by omega) (by first | omega | (simp; omega)) rfl ?_)
            refine tn_first_q (i := 7) (listed' := #[true, false, true, true, true, true, true, true, false, false, false, false, false, false, false]) rfl rfl (by kernel_rfl) rfl (q_loadE tA9 rfl rfl (by exact idG hnm (by omega)) rfl ?_)
            refine tn_first_q (i := 8) (listed' := #[true, false, true, true, true, true, true, true, true, false, false, false, false, false, false]) rfl rfl (by kernel_rfl) rfl (q_move (by conv=>lhs;whnf) ?_)
            refine tn_first_q (i := 9) (listed' := #[true, false, true, true, true, true, true, true, true, true, false, false, false, false, false]) rfl rfl (by kernel_rfl) rfl (q_move (by conv=>lhs;whnf) ?_)
            refine tn_step [1, 10] (by kernel_rfl) rfl ?_
            refine ⟨?_, ?_, trivial⟩
            · refine tn_q (listed' := #[true, true, true, true, true, true, true, true, true, true, false, false, false, false, false]) rfl rfl rfl (q_load tA25 rfl ?_)
              refine tn_step [10] (by kernel_rfl) rfl ?_
              refine ⟨?_, trivial⟩
              refine tn_k (listed' := #[true, true, true, true, true, true, true, true, true, true, true, false, false, false, false]) rfl rfl rfl rfl (k_callR [(1000000, 1000000)] (D_spec_l03DrawOk cs _ _ _ _ _ hc hb (by omega)) rfl (rfl) (rfl) ⟨rfl, trivial⟩ rfl (by rintro ⟨v24, a24, s24⟩ ⟨hx24_0, hx24_1⟩; exact ⟨⟨rfl, rfl, trivial⟩, rfl⟩) rfl rfl ?_)
              rintro ⟨v24, a24, s24⟩ ⟨hx24_0, hx24_1⟩
              have hy := hx24_0
              refine tn_step [11] (by kernel_rfl) rfl ?_
              refine ⟨?_, trivial⟩
              refine tn_k (listed' := #[true, true, true, true, true, true, true, true, true, true, true, true, false, false, false]) rfl rfl rfl rfl (k_lit tE25 zA73 rfl rfl (by decide) (by decide) rfl rfl rfl ?_)
              refine tn_step [12] (by kernel_rfl) rfl ?_
              refine ⟨?_, trivial⟩
              refine tn_k (listed' := #[true, true, true, true, true, true, true, true, true, true, true, true, true, false, false]) rfl rfl rfl rfl (k_app tApp25 rfl rfl (by simp) rfl (.inl rfl) (by first | (simp [maxLen]; omega)) (by first | (simp; omega)) ?_)
              refine tn_first_q (i := 13) (listed' := #[true, true, true, true, true, true, true, true, true, true, true, true, true, true, false]) rfl rfl (by kernel_rfl) rfl (q_fieldAddrP fO27_1 rfl rfl ?_)
              refine tn_step [14] (by kernel_rfl) rfl ?_
              refine ⟨?_, trivial⟩
              refine tn_k (listed' := #[true, true, true, true, true, true, true, true, true, true, true, true, true, true, true]) rfl rfl rfl rfl (k_store sz25 rfl (by conv=>lhs;whnf) rfl rfl rfl (Nat.le_of_ble_eq_true rfl) rfl ?_)
              refine tn_end (by kernel_rfl) (hK18 _ ?_); clear hK18
              refine gr rfl ?_
              refine em rfl (by conv=>lhs;whnf) ?_
              refine ei rfl rfl rfl ?_
              intro n25 hn25
              replace hn25 := in64 hn25 (by omega) (by omega)
              refine ea rfl (by conv=>lhs;whnf) ?_
              refine ev_nil ?_
              clear hK8 hK12
              refine ⟨(qs ++ [v24], a24, s24), ?_, ?_, ?_⟩
              · exact ⟨trA_app hq ⟨by rw [hy.1]; exact hnm, hy.2.2.2, by have := hy.2.1; have := hy.2.2.1; omega⟩, by simp; omega, by first | omega | (simp; omega)⟩
              · first | (simp; omega) | omega
              · first | refine Sub.trans (sub_ren 66 52 (by decide) rfl (by decide) rfl) ?_ | skip
                refine sub_weak ?_ ?_
                · exact weakH_box (boxEq (rfl)) rfl (weakH_box (boxEq (rfl)) rfl (weakH_boxR (boxEq (by first | rfl | (simp only [List.length_append, List.length_map, List.length_cons, List.length_nil]; rfl))) rfl (weakH_row (rowEq (rfl)) (weakH_row (rowEq (by rw [List.map_append]; rfl)) (weakH_row (rowEq (rfl)) (weakH_none _))))))
                · refine weakE_upd ?e7 ?r7 (weakE_upd ?e6 ?r6 (weakE_upd ?e4 ?r4 (weakE_upd ?e3 ?r3 (weakE_upd ?e2 ?r2 (weakE_upd ?e0 ?r0 (weakE_junk _ _))))))
                  case e0 => first | rfl | exact fI (by omega) | (simp_all)
                  case r0 => intro h hh; simp [refs] at hh; subst hh; rfl
                  case e2 => first | rfl | exact fI (by omega) | (simp_all)
                  case r2 => intro h hh; simp [refs] at hh; subst hh; rfl
                  case e3 => first | rfl | exact fI (by omega) | (simp_all)
                  case r3 => intro h hh; simp [refs] at hh; subst hh; rfl
                  case e4 => first | rfl | exact fI (by omega) | (simp_all)
                  case r4 => intro h hh; cases hh
                  case e6 => first | rfl | exact fI (by omega) | (simp_all)
                  case r6 => intro h hh; simp [refs] at hh; subst hh; rfl
                  case e7 => first | rfl | exact fI (by omega) | (first | rfl | exact fI (by simp; omega))
                  case r7 => intro h hh; cases hh
            · refine tn_k (listed' := #[true, false, true, true, true, true, true, true, true, true, true, false, false, false, false]) rfl rfl rfl rfl (k_callR [(1000000, 1000000)] (D_spec_l03DrawOk cs _ _ _ _ _ hc hb (by omega)) rfl (rfl) (rfl) ⟨rfl, trivial⟩ rfl (by rintro ⟨v26, a26, s26⟩ ⟨hx26_0, hx26_1⟩; exact ⟨⟨rfl, rfl, trivial⟩, rfl⟩) rfl rfl ?_)
              rintro ⟨v26, a26, s26⟩ ⟨hx26_0, hx26_1⟩
              have hy := hx26_0
              refine tn_step [1, 11] (by kernel_rfl) rfl ?_
              refine ⟨?_, ?_, trivial⟩
              · refine tn_q (listed' := #[true, true, true, true, true, true, true, true, true, true, true, false, false, false, false]) rfl rfl rfl (q_load tA25 rfl ?_)
                refine tn_step [11] (by kernel_rfl) rfl ?_
                refine ⟨?_, trivial⟩
                refine tn_k (listed' := #[true, true, true, true, true, true, true, true, true, true, true, true, false, false, false]) rfl rfl rfl rfl (k_lit tE25 zA73 rfl rfl (by decide) (by decide) rfl rfl rfl ?_)
                refine tn_step [12] (by kernel_rfl) rfl ?_
                refine ⟨?_, trivial⟩
                refine tn_k (listed' := #[true, true, true, true, true, true, true, true, true, true, true, true, true, false, false]) rfl rfl rfl rfl (k_app tApp25 rfl rfl (by simp) rfl (.inl rfl) (by first | (simp [maxLen]; omega)) (by first | (simp; omega)) ?_)
                refine tn_first_q (i := 13) (listed' := #[true, true, true, true, true, true, true, true, true, true, true, true, true, true, false]) rfl rfl (by kernel_rfl) rfl (q_fieldAddrP fO27_1 rfl rfl ?_)
                refine tn_step [14] (by kernel_rfl) rfl ?_
                refine ⟨?_, trivial⟩
                refine tn_k (listed' := #[true, true, true, true, true, true, true, true, true, true, true, true, true, true, true]) rfl rfl rfl rfl (k_store sz25 rfl (by conv=>lhs;whnf) rfl rfl rfl (Nat.le_of_ble_eq_true rfl) rfl ?_)
                refine tn_end (by kernel_rfl) (hK18 _ ?_); clear hK18
                refine gr rfl ?_
                refine em rfl (by conv=>lhs;whnf) ?_
                refine ei rfl rfl rfl ?_
                intro n27 hn27
                replace hn27 := in64 hn27 (by omega) (by omega)
                refine ea rfl (by conv=>lhs;whnf) ?_
                refine ev_nil ?_
                clear hK8 hK12
                refine ⟨(qs ++ [v26], a26, s26), ?_, ?_, ?_⟩
                · exact ⟨trA_app hq ⟨by rw [hy.1]; exact hnm, hy.2.2.2, by have := hy.2.1; have := hy.2.2.1; omega⟩, by simp; omega, by first | omega | (simp; omega)⟩
                · first | (simp; omega) | omega
                · first | refine Sub.trans (sub_ren 66 52 (by decide) rfl (by decide) rfl) ?_ | skip
                  refine sub_weak ?_ ?_
                  · exact weakH_box (boxEq (rfl)) rfl (weakH_box (boxEq (rfl)) rfl (weakH_boxR (boxEq (by first | rfl | (simp only [List.length_append, List.length_map, List.length_cons, List.length_nil]; rfl))) rfl (weakH_row (rowEq (rfl)) (weakH_row (rowEq (by rw [List.map_append]; rfl)) (weakH_row (rowEq (rfl)) (weakH_none _))))))
                  · refine weakE_upd ?e7 ?r7 (weakE_upd ?e6 ?r6 (weakE_upd ?e4 ?r4 (weakE_upd ?e3 ?r3 (weakE_upd ?e2 ?r2 (weakE_upd ?e0 ?r0 (weakE_junk _ _))))))
                    case e0 => first | rfl | exact fI (by omega) | (simp_all)
                    case r0 => intro h hh; simp [refs] at hh; subst hh; rfl
                    case e2 => first | rfl | exact fI (by omega) | (simp_all)
                    case r2 => intro h hh; simp [refs] at hh; subst hh; rfl
                    case e3 => first | rfl | exact fI (by omega) | (simp_all)
                    case r3 => intro h hh; simp [refs] at hh; subst hh; rfl
                    case e4 => first | rfl | exact fI (by omega) | (simp_all)
                    case r4 => intro h hh; cases hh
                    case e6 => first | rfl | exact fI (by omega) | (simp_all)
                    case r6 => intro h hh; simp [refs] at hh; subst hh; rfl
                    case e7 => first | rfl | exact fI (by omega) | (first | rfl | exact fI (by simp; omega))
                    case r7 => intro h hh; cases hh
              · refine tn_k (listed' := #[true, false, true, true, true, true, true, true, true, true, true, true, false, false, false]) rfl rfl rfl rfl (k_lit tE25 zA73 rfl rfl (by decide) (by decide) rfl rfl rfl ?_)
                refine tn_first_q (i := 1) (listed' := #[true, true, true, true, true, true, true, true, true, true, true, true, false, false, false]) rfl rfl (by kernel_rfl) rfl (q_load tA25 rfl ?_)
                refine tn_step [12] (by kernel_rfl) rfl ?_
                refine ⟨?_, trivial⟩
                refine tn_k (listed' := #[true, true, true, true, true, true, true, true, true, true, true, true, true, false, false]) rfl rfl rfl rfl (k_app tApp25 rfl rfl (by simp) rfl (.inl rfl) (by first | (simp [maxLen]; omega)) (by first | (simp; omega)) ?_)
                refine tn_first_q (i := 13) (listed' := #[true, true, true, true, true, true, true, true, true, true, true, true, true, true, false]) rfl rfl (by kernel_rfl) rfl (q_fieldAddrP fO27_1 rfl rfl ?_)
                refine tn_step [14] (by kernel_rfl) rfl ?_
                refine ⟨?_, trivial⟩
                refine tn_k (listed' := #[true, true, true, true, true, true, true, true, true, true, true, true, true, true, true]) rfl rfl rfl rfl (k_store sz25 rfl (by conv=>lhs;whnf) rfl rfl rfl (Nat.le_of_ble_eq_true rfl) rfl ?_)
                refine tn_end (by kernel_rfl) (hK18 _ ?_); clear hK18
                refine gr rfl ?_
                refine em rfl (by conv=>lhs;whnf) ?_
                refine ei rfl rfl rfl ?_
                intro n28 hn28
                replace hn28 := in64 hn28 (by omega) (by omega)
                refine ea rfl (by conv=>lhs;whnf) ?_
                refine ev_nil ?_
                clear hK8 hK12
                refine ⟨(qs ++ [v26], a26, s26), ?_, ?_, ?_⟩
                · exact ⟨trA_app hq ⟨by rw [hy.1]; exact hnm, hy.2.2.2, by have := hy.2.1; have := hy.2.2.1; omega⟩, by simp; omega, by first | omega | (simp; omega)⟩
                · first | (simp; omega) | omega
                · first | refine Sub.trans (sub_ren 66 52 (by decide) rfl (by decide) rfl) ?_ | skip
                  refine sub_weak ?_ ?_
                  · exact weakH_box (boxEq (rfl)) rfl (weakH_box (boxEq (rfl)) rfl (weakH_boxR (boxEq (by first | rfl | (simp only [List.length_append, List.length_map, List.length_cons, List.length_nil]; rfl))) rfl (weakH_row (rowEq (rfl)) (weakH_row (rowEq (by rw [List.map_append]; rfl)) (weakH_row (rowEq (rfl)) (weakH_none _))))))
                  · refine weakE_upd ?e7 ?r7 (weakE_upd ?e6 ?r6 (weakE_upd ?e4 ?r4 (weakE_upd ?e3 ?r3 (weakE_upd ?e2 ?r2 (weakE_upd ?e0 ?r0 (weakE_junk _ _))))))
                    case e0 => first | rfl | exact fI (by omega) | (simp_all)
                    case r0 => intro h hh; simp [refs] at hh; subst hh; rfl
                    case e2 => first | rfl | exact fI (by omega) | (simp_all)
                    case r2 => intro h hh; simp [refs] at hh; subst hh; rfl
                    case e3 => first | rfl | exact fI (by omega) | (simp_all)
                    case r3 => intro h hh; simp [refs] at hh; subst hh; rfl
                    case e4 => first | rfl | exact fI (by omega) | (simp_all)
                    case r4 => intro h hh; cases hh
                    case e6 => first | rfl | exact fI (by omega) | (simp_all)
                    case r6 => intro h hh; simp [refs] at hh; subst hh; rfl
                    case e7 => first | rfl | exact fI (by omega) | (first | rfl | exact fI (by simp; omega))
                    case r7 => intro h hh; cases hh
          · refine ev_nil (hK21 _ ?_); clear hK21
            refine good_condT rfl ?_
            refine good_any 15 (listed := #[false, false, false, false, false, false, false, false, false, false, false, false, false, false, false]) rfl rfl hmix rfl ?_
            refine tn_first_q (i := 0) (listed' := #[true, false, false, false, false, false, false, false, false, false, false, false, false, false, false]) rfl rfl (by kernel_rfl) rfl (q_fieldAddrP fO27_1 rfl rfl ?_)
            refine tn_first_q (i := 2) (listed' := #[true, false, true, false, false, false, false, false, false, false, false, false, false, false, false]) rfl rfl (by kernel_rfl) rfl (q_move (by conv=>lhs;whnf) ?_)
            refine tn_first_q (i := 3) (listed' := #[true, false, true, true, false, false, false, false, false, false, false, false, false, false, false]) rfl rfl (by kernel_rfl) rfl (q_move (by conv=>lhs;whnf) ?_)
            refine tn_first_q (i := 4) (listed' := #[true, false, true, true, true, false, false, false, false, false, false, false, false, false, false]) rfl rfl (by kernel_rfl) rfl (q_move (by conv=>lhs;whnf) ?_)
            refine tn_first_q (i := 5) (listed' := #[true, false, true, true, true, true, false, false, false, false, false, false, false, false, false]) rfl rfl (by kernel_rfl) rfl (q_int rfl rfl ?_)
            intro n29 hn29
            replace hn29 := in64 hn29 (by omega) (by omega)
            refine tn_first_q (i := 6) (listed' := #[true, false, true, true, true, true, true, false, false, false, false, false, false, false, false]) rfl rfl (by kernel_rfl) rfl (q_idxO tE103 rfl rfl rfl (by omega) (by first | omega | (simp; omega)) rfl ?_)
            refine tn_first_q (i := 7) (listed' := #[true, false, true, true, true, true, true, true, false, false, false, false, false, false, false]) rfl rfl (by kernel_rfl) rfl (q_loadE tA9 rfl rfl (by exact idG hnm (by omega)) rfl ?_)
            refine tn_first_q (i := 8) (listed' := #[true, false, true, true, true, true, true, true, true, false, false, false, false, false, false]) rfl rfl (by kernel_rfl) rfl (q_move (by conv=>lhs;whnf) ?_)
            refine tn_first_q (i := 9) (listed' := #[true, false, true, true, true, true, true, true, true, true, false, false, false, false, false]) rfl rfl (by kernel_rfl) rfl (q_move (by conv=>lhs;whnf) ?_)
            refine tn_step [1, 10] (by kernel_rfl) rfl ?_
            refine ⟨?_, ?_, trivial⟩
            · refine tn_q (listed' := #[true, true, true, true, true, true, true, true, true, true, false, false, false, false, false]) rfl rfl rfl (q_load tA25 rfl ?_)
              refine tn_step [10] (by kernel_rfl) rfl ?_
              refine ⟨?_, trivial⟩
              refine tn_k (listed' := #[true, true, true, true, true, true, true, true, true, true, true, false, false, false, false]) rfl rfl rfl rfl (k_callR [(1000000, 1000000)] (D_spec_l03DrawOk cs _ _ _ _ _ hc hb (by omega)) rfl (rfl) (rfl) ⟨rfl, trivial⟩ rfl (by rintro ⟨v30, a30, s30⟩ ⟨hx30_0, hx30_1⟩; exact ⟨⟨rfl, rfl, trivial⟩, rfl⟩) rfl rfl ?_)
              rintro ⟨v30, a30, s30⟩ ⟨hx30_0, hx30_1⟩
              have hy := hx30_0
              refine tn_step [11] (by kernel_rfl) rfl ?_
              refine ⟨?_, trivial⟩
              refine tn_k (listed' := #[true, true, true, true, true, true, true, true, true, true, true, true, false, false, false]) rfl rfl rfl rfl (k_lit tE25 zA73 rfl rfl (by decide) (by decide) rfl rfl rfl ?_)
              refine tn_step [12] (by kernel_rfl) rfl ?_
              refine ⟨?_, trivial⟩
              refine tn_k (listed' := #[true, true, true, true, true, true, true, true, true, true, true, true, true, false, false]) rfl rfl rfl rfl (k_app tApp25 rfl rfl (by simp) rfl (.inr rfl) (by first | (simp [maxLen]; omega)) (by first | (simp; omega)) ?_)
              refine tn_first_q (i := 13) (listed' := #[true, true, true, true, true, true, true, true, true, true, true, true, true, true, false]) rfl rfl (by kernel_rfl) rfl (q_fieldAddrP fO27_1 rfl rfl ?_)
              refine tn_step [14] (by kernel_rfl) rfl ?_
              refine ⟨?_, trivial⟩
              refine tn_k (listed' := #[true, true, true, true, true, true, true, true, true, true, true, true, true, true, true]) rfl rfl rfl rfl (k_store sz25 rfl (by conv=>lhs;whnf) rfl rfl rfl (Nat.le_of_ble_eq_true rfl) rfl ?_)
              refine tn_end (by kernel_rfl) (hK18 _ ?_); clear hK18
              refine gr rfl ?_
              refine em rfl (by conv=>lhs;whnf) ?_
              refine ei rfl rfl rfl ?_
              intro n31 hn31
              replace hn31 := in64 hn31 (by omega) (by omega)
              refine ea rfl (by conv=>lhs;whnf) ?_
              refine ev_nil ?_
              clear hK8 hK12
              refine ⟨(qs ++ [v30], a30, s30), ?_, ?_, ?_⟩
              · exact ⟨trA_app hq ⟨by rw [hy.1]; exact hnm, hy.2.2.2, by have := hy.2.1; have := hy.2.2.1; omega⟩, by simp; omega, by first | omega | (simp; omega)⟩
              · first | (simp; omega) | omega
              · first | refine Sub.trans (sub_ren 66 52 (by decide) rfl (by decide) rfl) ?_ | skip
                refine sub_weak ?_ ?_
                · exact weakH_box (boxEq (rfl)) rfl (weakH_box (boxEq (rfl)) rfl (weakH_boxR (boxEq (by first | rfl | (simp only [List.length_append, List.length_map, List.length_cons, List.length_nil]; rfl))) rfl (weakH_row (rowEq (rfl)) (weakH_row (rowEq (by rw [List.map_append]; rfl)) (weakH_row (rowEq (rfl)) (weakH_none _))))))
                · refine weakE_upd ?e7 ?r7 (weakE_upd ?e6 ?r6 (weakE_upd ?e4 ?r4 (weakE_upd ?e3 ?r3 (weakE_upd ?e2 ?r2 (weakE_upd ?e0 ?r0 (weakE_junk _ _))))))
                  case e0 => first | rfl | exact fI (by omega) | (simp_all)
                  case r0 => intro h hh; simp [refs] at hh; subst hh; rfl
                  case e2 => first | rfl | exact fI (by omega) | (simp_all)
                  case r2 => intro h hh; simp [refs] at hh; subst hh; rfl
                  case e3 => first | rfl | exact fI (by omega) | (simp_all)
                  case r3 => intro h hh; simp [refs] at hh; subst hh; rfl
                  case e4 => first | rfl | exact fI (by omega) | (simp_all)
                  case r4 => intro h hh; cases hh
                  case e6 => first | rfl | exact fI (by omega) | (simp_all)
                  case r6 => intro h hh; simp [refs] at hh; subst hh; rfl
                  case e7 => first | rfl | exact fI (by omega) | (first | rfl | exact fI (by simp; omega))
                  case r7 => intro h hh; cases hh
            · refine tn_k (listed' := #[true, false, true, true, true, true, true, true, true, true, true, false, false, false, false]) rfl rfl rfl rfl (k_callR [(1000000, 1000000)] (D_spec_l03DrawOk cs _ _ _ _ _ hc hb (by omega)) rfl (rfl) (rfl) ⟨rfl, trivial⟩ rfl (by rintro ⟨v32, a32, s32⟩ ⟨hx32_0, hx32_1⟩; exact ⟨⟨rfl, rfl, trivial⟩, rfl⟩) rfl rfl ?_)
              rintro ⟨v32, a32, s32⟩ ⟨hx32_0, hx32_1⟩
              have hy := hx32_0
              refine tn_step [1, 11] (by kernel_rfl) rfl ?_
              refine ⟨?_, ?_, trivial⟩
              · refine tn_q (listed' := #[true, true, true, true, true, true, true, true, true, true, true, false, false, false, false]) rfl rfl rfl (q_load tA25 rfl ?_)
                refine tn_step [11] (by kernel_rfl) rfl ?_
                refine ⟨?_, trivial⟩
                refine tn_k (listed' := #[true, true, true, true, true, true, true, true, true, true, true, true, false, false, false]) rfl rfl rfl rfl (k_lit tE25 zA73 rfl rfl (by decide) (by decide) rfl rfl rfl ?_)
                refine tn_step [12] (by kernel_rfl) rfl ?_
                refine ⟨?_, trivial⟩
                refine tn_k (listed' := #[true, true, true, true, true, true, true, true, true, true, true, true, true, false, false]) rfl rfl rfl rfl (k_app tApp25 rfl rfl (by simp) rfl (.inr rfl) (by first | (simp [maxLen]; omega)) (by first | (simp; omega)) ?_)
                refine tn_first_q (i := 13) (listed' := #[true, true, true, true, true, true, true, true, true, true, true, true, true, true, false]) rfl rfl (by kernel_rfl) rfl (q_fieldAddrP fO27_1 rfl rfl ?_)
                refine tn_step [14] (by kernel_rfl) rfl ?_
                refine ⟨?_, trivial⟩
                refine tn_k (listed' := #[true, true, true, true, true, true, true, true, true, true, true, true, true, true, true]) rfl rfl rfl rfl (k_store sz25 rfl (by conv=>lhs;whnf) rfl rfl rfl (Nat.le_of_ble_eq_true rfl) rfl ?_)
                refine tn_end (by kernel_rfl) (hK18 _ ?_); clear hK18
                refine gr rfl ?_
                refine em rfl (by conv=>lhs;whnf) ?_
                refine ei rfl rfl rfl ?_
                intro n33 hn33
                replace hn33 := in64 hn33 (by omega) (by omega)
                refine ea rfl (by conv=>lhs;whnf) ?_
                refine ev_nil ?_
                clear hK8 hK12
                refine ⟨(qs ++ [v32], a32, s32), ?_, ?_, ?_⟩
                · exact ⟨trA_app hq ⟨by rw [hy.1]; exact hnm, hy.2.2.2, by have := hy.2.1; have := hy.2.2.1; omega⟩, by simp; omega, by first | omega | (simp; omega)⟩
                · first | (simp; omega) | omega
                · first | refine Sub.trans (sub_ren 66 52 (by decide) rfl (by decide) rfl) ?_ | skip
                  refine sub_weak ?_ ?_
                  · exact weakH_box (boxEq (rfl)) rfl (weakH_box (boxEq (rfl)) rfl (weakH_boxR (boxEq (by first | rfl | (simp only [List.length_append, List.length_map, List.length_cons, List.length_nil]; rfl))) rfl (weakH_row (rowEq (rfl)) (weakH_row (rowEq (by rw [List.map_append]; rfl)) (weakH_row (rowEq (rfl)) (weakH_none _))))))
                  · refine weakE_upd ?e7 ?r7 (weakE_upd ?e6 ?r6 (weakE_upd ?e4 ?r4 (weakE_upd ?e3 ?r3 (weakE_upd ?e2 ?r2 (weakE_upd ?e0 ?r0 (weakE_junk _ _))))))
                    case e0 => first | rfl | exact fI (by omega) | (simp_all)
                    case r0 => intro h hh; simp [refs] at hh; subst hh; rfl
                    case e2 => first | rfl | exact fI (by omega) | (simp_all)
                    case r2 => intro h hh; simp [refs] at hh; subst hh; rfl
                    case e3 => first | rfl | exact fI (by omega) | (simp_all)
                    case r3 => intro h hh; simp [refs] at hh; subst hh; rfl
                    case e4 => first | rfl | exact fI (by omega) | (simp_all)
                    case r4 => intro h hh; cases hh
                    case e6 => first | rfl | exact fI (by omega) | (simp_all)
                    case r6 => intro h hh; simp [refs] at hh; subst hh; rfl
                    case e7 => first | rfl | exact fI (by omega) | (first | rfl | exact fI (by simp; omega))
                    case r7 => intro h hh; cases hh
              · refine tn_k (listed' := #[true, false, true, true, true, true, true, true, true, true, true, true, false, false, false]) rfl rfl rfl rfl (k_lit tE25 zA73 rfl rfl (by decide) (by decide) rfl rfl rfl ?_)
                refine tn_first_q (i := 1) (listed' := #[true, true, true, true, true, true, true, true, true, true, true, true, false, false, false]) rfl rfl (by kernel_rfl) rfl (q_load tA25 rfl ?_)
                refine tn_step [12] (by kernel_rfl) rfl ?_
                refine ⟨?_, trivial⟩
                refine tn_k (listed' := #[true, true, true, true, true, true, true, true, true, true, true, true, true, false, false]) rfl rfl rfl rfl (k_app tApp25 rfl rfl (by simp) rfl (.inr rfl) (by first | (simp [maxLen]; omega)) (by first | (simp; omega)) ?_)
                refine tn_first_q (i := 13) (listed' := #[true, true, true, true, true, true, true, true, true, true, true, true, true, true, false]) rfl rfl (by kernel_rfl) rfl (q_fieldAddrP fO27_1 rfl rfl ?_)
                refine tn_step [14] (by kernel_rfl) rfl ?_
                refine ⟨?_, trivial⟩
                refine tn_k (listed' := #[true, true, true, true, true, true, true, true, true, true, true, true, true, true, true]) rfl rfl rfl rfl (k_store sz25 rfl (by conv=>lhs;whnf) rfl rfl rfl (Nat.le_of_ble_eq_true rfl) rfl ?_)
                refine tn_end (by kernel_rfl) (hK18 _ ?_); clear hK18
                refine gr rfl ?_
                refine em rfl (by conv=>lhs;whnf) ?_
                refine ei rfl rfl rfl ?_
                intro n34 hn34
                replace hn34 := in64 hn34 (by omega) (by omega)
                refine ea rfl (by conv=>lhs;whnf) ?_
                refine ev_nil ?_
                clear hK8 hK12
                refine ⟨(qs ++ [v32], a32, s32), ?_, ?_, ?_⟩
                · exact ⟨trA_app hq ⟨by rw [hy.1]; exact hnm, hy.2.2.2, by have := hy.2.1; have := hy.2.2.1; omega⟩, by simp; omega, by first | omega | (simp; omega)⟩
                · first | (simp; omega) | omega
                · first | refine Sub.trans (sub_ren 66 52 (by decide) rfl (by decide) rfl) ?_ | skip
                  refine sub_weak ?_ ?_
                  · exact weakH_box (boxEq (rfl)) rfl (weakH_box (boxEq (rfl)) rfl (weakH_boxR (boxEq (by first | rfl | (simp only [List.length_append, List.length_map, List.length_cons, List.length_nil]; rfl))) rfl (weakH_row (rowEq (rfl)) (weakH_row (rowEq (by rw [List.map_append]; rfl)) (weakH_row (rowEq (rfl)) (weakH_none _))))))
                  · refine weakE_upd ?e7 ?r7 (weakE_upd ?e6 ?r6 (weakE_upd ?e4 ?r4 (weakE_upd ?e3 ?r3 (weakE_upd ?e2 ?r2 (weakE_upd ?e0 ?r0 (weakE_junk _ _))))))
                    case e0 => first | rfl | exact fI (by omega) | (simp_all)
                    case r0 => intro h hh; simp [refs] at hh; subst hh; rfl
                    case e2 => first | rfl | exact fI (by omega) | (simp_all)
                    case r2 => intro h hh; simp [refs] at hh; subst hh; rfl
                    case e3 => first | rfl | exact fI (by omega) | (simp_all)
                    case r3 => intro h hh; simp [refs] at hh; subst hh; rfl
                    case e4 => first | rfl | exact fI (by omega) | (simp_all)
                    case r4 => intro h hh; cases hh
                    case e6 => first | rfl | exact fI (by omega) | (simp_all)
                    case r6 => intro h hh; simp [refs] at hh; subst hh; rfl
                    case e7 => first | rfl | exact fI (by omega) | (first | rfl | exact fI (by simp; omega))
                    case r7 => intro h hh; cases hh
    · replace hb10 := dT hb10
      refine ev_nil (hK9 _ ?_); clear hK9
      refine good_condT rfl ?_
      refine good_skip (hK8 _ ?_); clear hK8
      refine good_seq fun K35 hK35 => ?_
      refine good_block ?_
      refine good_any 10 (listed := #[false, false, false, false, false, false, false, false, false, false]) rfl rfl hmix rfl ?_
      refine tn_first_q (i := 0) (listed' := #[true, false, false, false, false, false, false, false, false, false]) rfl rfl (by kernel_rfl) rfl (q_fieldAddrP fO27_0 rfl rfl ?_)
      refine tn_first_q (i := 2) (listed' := #[true, false, true, false, false, false, false, false, false, false]) rfl rfl (by kernel_rfl) rfl (q_move (by conv=>lhs;whnf) ?_)
      refine tn_step [1, 3] (by kernel_rfl) rfl ?_
      refine ⟨?_, ?_, trivial⟩
      · refine tn_q (listed' := #[true, true, true, false, false, false, false, false, false, false]) rfl rfl rfl (q_load tA24 rfl ?_)
        refine tn_step [3] (by kernel_rfl) rfl ?_
        refine ⟨?_, trivial⟩
        refine tn_k (listed' := #[true, true, true, true, false, false, false, false, false, false]) rfl rfl rfl rfl (k_callR [(1000000, 1000000)] (D_spec_l00Src_pick cs _ _ _ hc hb (by omega) (by omega)) rfl (rfl) (rfl) ⟨rfl, trivial⟩ rfl (by rintro ⟨v36, a36, s36⟩ ⟨hx36_0, hx36_1⟩; exact ⟨⟨rfl, rfl, trivial⟩, rfl⟩) rfl rfl ?_)
        rintro ⟨v36, a36, s36⟩ ⟨hx36_0, hx36_1⟩
        refine tn_first_q (i := 4) (listed' := #[true, true, true, true, true, false, false, false, false, false]) rfl rfl (by kernel_rfl) rfl (q_int rfl rfl ?_)
        intro n37 hn37
        replace hn37 := in64 hn37 (by omega) (by omega)
        refine tn_first_q (i := 5) (listed' := #[true, true, true, true, true, true, false, false, false, false]) rfl rfl (by kernel_rfl) rfl (q_int rfl rfl ?_)
        intro n38 hn38
        replace hn38 := in64 hn38 (by omega) (by omega)
        refine tn_step [6] (by kernel_rfl) rfl ?_
        refine ⟨?_, trivial⟩
        refine tn_k (listed' := #[true, true, true, true, true, true, true, false, false, false]) rfl rfl rfl rfl (k_lit tE24 zA2 rfl rfl (by decide) (by decide) rfl rfl rfl ?_)
        refine tn_step [7] (by kernel_rfl) rfl ?_
        refine ⟨?_, trivial⟩
        refine tn_k (listed' := #[true, true, true, true, true, true, true, true, false, false]) rfl rfl rfl rfl (k_app tApp24 rfl rfl (by simp) rfl (.inr rfl) (by first | (simp [maxLen]; omega)) (by first | (simp; omega)) ?_)
        refine tn_first_q (i := 8) (listed' := #[true, true, true, true, true, true, true, true, true, false]) rfl rfl (by kernel_rfl) rfl (q_fieldAddrP fO27_0 rfl rfl ?_)
        refine tn_step [9] (by kernel_rfl) rfl ?_
        refine ⟨?_, trivial⟩
        refine tn_k (listed' := #[true, true, true, true, true, true, true, true, true, true]) rfl rfl rfl rfl (k_store sz24 rfl (by conv=>lhs;whnf) rfl rfl rfl (Nat.le_of_ble_eq_true rfl) rfl ?_)
        refine tn_end (by kernel_rfl) (hK35 _ ?_); clear hK35
        refine gr rfl ?_
        refine em rfl (by conv=>lhs;whnf) ?_
        refine ei rfl rfl rfl ?_
        intro n39 hn39
        replace hn39 := in64 hn39 (by omega) (by omega)
        refine ea rfl (by conv=>lhs;whnf) ?_
        refine ev_nil ?_
        clear hK6
        refine ⟨(xs ++ [n38], a36, s36), ?_, ?_, ?_⟩
        · exact ⟨nsB_app hx (by omega), by simp; omega, by first | omega | (simp; omega)⟩
        · first | (simp; omega) | omega
        · refine sub_weak ?_ ?_
          · exact weakH_box (boxEq (rfl)) rfl (weakH_box (boxEq (rfl)) rfl (weakH_boxR (boxEq (by first | rfl | (simp only [List.length_append, List.length_map, List.length_cons, List.length_nil]; rfl))) rfl (weakH_row (rowEq (by rw [List.map_append]; rfl)) (weakH_row (rowEq (rfl)) (weakH_none _)))))
          · refine weakE_upd ?e5 ?r5 (weakE_upd ?e4 ?r4 (weakE_upd ?e3 ?r3 (weakE_upd ?e2 ?r2 (weakE_upd ?e0 ?r0 (weakE_junk _ _)))))
            case e0 => first | rfl | exact fI (by omega) | (simp_all)
            case r0 => intro h hh; simp [refs] at hh; subst hh; rfl
            case e2 => first | rfl | exact fI (by omega) | (simp_all)
            case r2 => intro h hh; simp [refs] at hh; subst hh; rfl
            case e3 => first | rfl | exact fI (by omega) | (simp_all)
            case r3 => intro h hh; simp [refs] at hh; subst hh; rfl
            case e4 => first | rfl | exact fI (by omega) | (simp_all)
            case r4 => intro h hh; cases hh
            case e5 => first | rfl | exact fI (by omega) | (first | rfl | exact fI (by simp; omega))
            case r5 => intro h hh; cases hh
      · refine tn_k (listed' := #[true, false, true, true, false, false, false, false, false, false]) rfl rfl rfl rfl (k_callR [(1000000, 1000000)] (D_spec_l00Src_pick cs _ _ _ hc hb (by omega) (by omega)) rfl (rfl) (rfl) ⟨rfl, trivial⟩ rfl (by rintro ⟨v40, a40, s40⟩ ⟨hx40_0, hx40_1⟩; exact ⟨⟨rfl, rfl, trivial⟩, rfl⟩) rfl rfl ?_)
        rintro ⟨v40, a40, s40⟩ ⟨hx40_0, hx40_1⟩
        refine tn_first_q (i := 4) (listed' := #[true, false, true, true, true, false, false, false, false, false]) rfl rfl (by kernel_rfl) rfl (q_int rfl rfl ?_)
        intro n41 hn41
        replace hn41 := in64 hn41 (by omega) (by omega)
        refine tn_first_q (i := 5) (listed' := #[true, false, true, true, true, true, false, false, false, false]) rfl rfl (by kernel_rfl) rfl (q_int rfl rfl ?_)
        intro n42 hn42
        replace hn42 := in64 hn42 (by omega) (by omega)
        refine tn_step [1, 6] (by kernel_rfl) rfl ?_
        refine ⟨?_, ?_, trivial⟩
        · refine tn_q (listed' := #[true, true, true, true, true, true, false, false, false, false]) rfl rfl rfl (q_load tA24 rfl ?_)
          refine tn_step [6] (by kernel_rfl) rfl ?_
          refine ⟨?_, trivial⟩
          refine tn_k (listed' := #[true, true, true, true, true, true, true, false, false, false]) rfl rfl rfl rfl (k_lit tE24 zA2 rfl rfl (by decide) (by decide) rfl rfl rfl ?_)
          refine tn_step [7] (by kernel_rfl) rfl ?_
          refine ⟨?_, trivial⟩
          refine tn_k (listed' := #[true, true, true, true, true, true, true, true, false, false]) rfl rfl rfl rfl (k_app tApp24 rfl rfl (by simp) rfl (.inr rfl) (by first | (simp [maxLen]; omega)) (by first | (simp; omega)) ?_)
          refine tn_first_q (i := 8) (listed' := #[true, true, true, true, true, true, true, true, true, false]) rfl rfl (by kernel_rfl) rfl (q_fieldAddrP fO27_0 rfl rfl ?_)
          refine tn_step [9] (by kernel_rfl) rfl ?_
          refine ⟨?_, trivial⟩
          refine tn_k (listed' := #[true, true, true, true, true, true, true, true, true, true]) rfl rfl rfl rfl (k_store sz24 rfl (by conv=>lhs;whnf) rfl rfl rfl (Nat.le_of_ble_eq_true rfl) rfl ?_)
          refine tn_end (by kernel_rfl) (hK35 _ ?_); clear hK35
          refine gr rfl ?_
          refine em rfl (by conv=>lhs;whnf) ?_
          refine ei rfl rfl rfl ?_
          intro n43 hn43
          replace hn43 := in64 hn43 (by omega) (by omega)
          refine ea rfl (by conv=>lhs;whnf) ?_
          refine ev_nil ?_
          clear hK6
          refine ⟨(xs ++ [n42], a40, s40), ?_, ?_, ?_⟩
          · exact ⟨nsB_app hx (by omega), by simp; omega, by first | omega | (simp; omega)⟩
          · first | (simp; omega) | omega
          · refine sub_weak ?_ ?_
            · exact weakH_box (boxEq (rfl)) rfl (weakH_box (boxEq (rfl)) rfl (weakH_boxR (boxEq (by first | rfl | (simp only [List.length_append, List.length_map, List.length_cons, List.length_nil]; rfl))) rfl (weakH_row (rowEq (by rw [List.map_append]; rfl)) (weakH_row (rowEq (rfl)) (weakH_none _)))))
            · refine weakE_upd ?e5 ?r5 (weakE_upd ?e4 ?r4 (weakE_upd ?e3 ?r3 (weakE_upd ?e2 ?r2 (weakE_upd ?e0 ?r0 (weakE_junk _ _)))))
              case e0 => first | rfl | exact fI (by omega) | (simp_all)
              case r0 => intro h hh; simp [refs] at hh; subst hh; rfl
              case e2 => first | rfl | exact fI (by omega) | (simp_all)
              case r2 => intro h hh; simp [refs] at hh; subst hh; rfl
              case e3 => first | rfl | exact fI (by omega) | (simp_all)
              case r3 => intro h hh; simp [refs] at hh; subst hh; rfl
              case e4 => first | rfl | exact fI (by omega) | (simp_all)
              case r4 => intro h hh; cases hh
              case e5 => first | rfl | exact fI (by omega) | (first | rfl | exact fI (by simp; omega))
              case r5 => intro h hh; cases hh
        · refine tn_k (listed' := #[true, false, true, true, true, true, true, false, false, false]) rfl rfl rfl rfl (k_lit tE24 zA2 rfl rfl (by decide) (by decide) rfl rfl rfl ?_)
          refine tn_first_q (i := 1) (listed' := #[true, true, true, true, true, true, true, false, false, false]) rfl rfl (by kernel_rfl) rfl (q_load tA24 rfl ?_)
          refine tn_step [7] (by kernel_rfl) rfl ?_
          refine ⟨?_, trivial⟩
          refine tn_k (listed' := #[true, true, true, true, true, true, true, true, false, false]) rfl rfl rfl rfl (k_app tApp24 rfl rfl (by simp) rfl (.inr rfl) (by first | (simp [maxLen]; omega)) (by first | (simp; omega)) ?_)
          refine tn_first_q (i := 8) (listed' := #[true, true, true, true, true, true, true, true, true, false]) rfl rfl (by kernel_rfl) rfl (q_fieldAddrP fO27_0 rfl rfl ?_)
          refine tn_step [9] (by kernel_rfl) rfl ?_
          refine ⟨?_, trivial⟩
          refine tn_k (listed' := #[true, true, true, true, true, true, true, true, true, true]) rfl rfl rfl rfl (k_store sz24 rfl (by conv=>lhs;whnf) rfl rfl rfl (Nat.le_of_ble_eq_true rfl) rfl ?_)
          refine tn_end (by kernel_rfl) (hK35 _ ?_); clear hK35
          refine gr rfl ?_
          refine em rfl (by conv=>lhs;whnf) ?_
          refine ei rfl rfl rfl ?_
          intro n44 hn44
          replace hn44 := in64 hn44 (by omega) (by omega)
          refine ea rfl (by conv=>lhs;whnf) ?_
          refine ev_nil ?_
          clear hK6
          refine ⟨(xs ++ [n42], a40, s40), ?_, ?_, ?_⟩
          · exact ⟨nsB_app hx (by omega), by simp; omega, by first | omega | (simp; omega)⟩
          · first | (simp; omega) | omega
          · refine sub_weak ?_ ?_
            · exact weakH_box (boxEq (rfl)) rfl (weakH_box (boxEq (rfl)) rfl (weakH_boxR (boxEq (by first | rfl | (simp only [List.length_append, List.length_map, List.length_cons, List.length_nil]; rfl))) rfl (weakH_row (rowEq (by rw [List.map_append]; rfl)) (weakH_row (rowEq (rfl)) (weakH_none _)))))
            · refine weakE_upd ?e5 ?r5 (weakE_upd ?e4 ?r4 (weakE_upd ?e3 ?r3 (weakE_upd ?e2 ?r2 (weakE_upd ?e0 ?r0 (weakE_junk _ _)))))
              case e0 => first | rfl | exact fI (by omega) | (simp_all)
              case r0 => intro h hh; simp [refs] at hh; subst hh; rfl
              case e2 => first | rfl | exact fI (by omega) | (simp_all)
              case r2 => intro h hh; simp [refs] at hh; subst hh; rfl
              case e3 => first | rfl | exact fI (by omega) | (simp_all)
              case r3 => intro h hh; simp [refs] at hh; subst hh; rfl
              case e4 => first | rfl | exact fI (by omega) | (simp_all)
              case r4 => intro h hh; cases hh
              case e5 => first | rfl | exact fI (by omega) | (first | rfl | exact fI (by simp; omega))
              case r5 => intro h hh; cases hh

-- spec.R8Tree
theorem D_spec_R8Tree_X (cs : List Int) (hc : cs.length ≤ 17592186044416) (hb : byteL cs) : DenXR Try.prog 7 [] [.lst 1 (cs.map cb)] (τ := List Int × List Pi) (fun (ns, ps) => DrT ns ps) (fun (ns, ps) => [(900001, .row 2 1 (ns.map ci)), (900002, .row 73 6 (ps.map piA))]) (fun (ns, ps) => .agg [.own 900001 ns.length, .own 900002 ps.length]) := by
  refine denXR_of_good Try.func7 (by decide) rfl (Nat.le_of_ble_eq_true rfl) (Nat.le_of_ble_eq_true rfl) rfl ?_
  refine good_seq fun K1 hK1 => ?_
  refine gr rfl ?_
  refine ev_k rfl (k_alloc zA27 rfl ?_)
  refine ev_nil (hK1 _ ?_); clear hK1
  refine good_seq fun K2 hK2 => ?_
  refine gr rfl ?_
  refine em rfl (by conv=>lhs;whnf) ?_
  refine ev_k rfl (k_callX [(5, 900000)] (D_spec_l00From cs) rfl (rfl) (rfl) trivial ⟨⟨rfl, show (900000 : Nat) < 1000000 by decide⟩, trivial⟩ rfl rfl rfl ?_)
  refine ea rfl (by conv=>lhs;whnf) ?_
  refine ev_nil (hK2 _ ?_); clear hK2
  refine good_seq fun K3 hK3 => ?_
  refine gr rfl ?_
  refine em rfl (by conv=>lhs;whnf) ?_
  refine ev_k rfl (k_callR [(1000000, 900000), (900001, 900001), (900002, 900002)] (D_spec_l04DrawTree cs _ _ hc hb (by omega)) rfl (rfl) (rfl) ⟨rfl, trivial⟩ rfl (by rintro ⟨ns4, ps4, a4, s4⟩ ⟨hx4_0, hx4_1⟩; exact ⟨⟨rfl, rfl, ⟨⟨rfl, show (900001 : Nat) < 1000000 by decide⟩, ⟨⟨rfl, show (900002 : Nat) < 1000000 by decide⟩, trivial⟩⟩⟩, rfl⟩) rfl rfl ?_)
  rintro ⟨ns4, ps4, a4, s4⟩ ⟨hx4_0, hx4_1⟩
  have hi1 := hx4_0
  refine ev_k rfl (k_store sz27 rfl (by conv=>lhs;whnf) rfl rfl rfl (Nat.le_of_ble_eq_true rfl) rfl ?_)
  refine ev_nil (hK3 _ ?_); clear hK3
  refine good_ret ?_
  repeat first|refine thenQ_ret ?_|refine blockQ_ret ?_
  refine ex_2 (v := ns4) (a := ps4) ?hF ?hR
  case hF =>
    refine fx_cell rfl tA27 rfl rfl rfl ?_
    exact ⟨_, conv_eq (by first | rfl | exact fAgg1 (by first | rfl | exact ownEq (by first | done | omega | (simp; done)) | (simp_all; done)) (fAgg1 (by first | rfl | exact ownEq (by first | done | omega | (simp; done)) | (simp_all; done)) (rfl))), weakH_row (rowEq (by first | rfl | (rw [e]; done) | (rw [e]; rfl) | (simp_all; done))) (weakH_row (rowEq (by first | rfl | (rw [e]; done) | (rw [e]; rfl) | (simp_all; done))) (weakH_none _)), refsIn_ok rfl⟩
  case hR =>
    exact hi1
theorem D_spec_R8Tree (cs : List Int) (hc : cs.length ≤ 17592186044416) (hb : byteL cs) : DenR Try.prog 7 [.lst 1 (cs.map cb)] (τ := List Int × List Pi) (fun (ns, ps) => DrT ns ps) (fun (ns, ps) => .agg [.lst 1 (ns.map ci), .lst 6 (ps.map piA)]) :=
  denR_of_denXR (D_spec_R8Tree_X cs hc hb) (by rintro ⟨ns, ps⟩ _; change (some (.agg [.lst 1 (List.take ns.length (ns.map ci)), .lst 6 (List.take ps.length (ps.map piA))]) : Option AV) = some (.agg [.lst 1 (ns.map ci), .lst 6 (ps.map piA)]); simp only [takeMap])

-- spec.R8Water
theorem D_spec_R8Water_X (cs : List Int) (ns : List Int) (ps : List Pi) (hc : cs.length ≤ 17592186044416) (hb : byteL cs) (hn : ns.length ≤ 16) : DenXR Try.prog 9 [] [.lst 1 (cs.map cb), .agg [.lst 1 (ns.map ci), .lst 6 (ps.map piA)]] (τ := List Int) (fun u => dmP ns u) (fun u => [(900001, .row 2 1 (u.map ci))]) (fun u => .own 900001 u.length) := by
  refine denXR_of_good Try.func9 (by decide) rfl (Nat.le_of_ble_eq_true rfl) (Nat.le_of_ble_eq_true rfl) rfl ?_
  refine good_seq fun K1 hK1 => ?_
  refine gr rfl ?_
  refine ev_k rfl (k_box (by conv=>lhs;whnf) rfl rfl rfl ?_)
  refine ea rfl (by conv=>lhs;whnf) ?_
  refine ev_nil (hK1 _ ?_); clear hK1
  refine good_seq fun K2 hK2 => ?_
  refine gr rfl ?_
  refine em rfl (by conv=>lhs;whnf) ?_
  refine ev_k rfl (k_callX [(5, 900000)] (D_spec_l00From cs) rfl (rfl) (rfl) trivial ⟨⟨rfl, show (900000 : Nat) < 1000000 by decide⟩, trivial⟩ rfl rfl rfl ?_)
  refine ea rfl (by conv=>lhs;whnf) ?_
  refine ev_nil (hK2 _ ?_); clear hK2
  refine good_seq fun K3 hK3 => ?_
  refine gr rfl ?_
  refine ev_k rfl (k_lit tE24 zA2 rfl rfl (by decide) (by decide) rfl rfl rfl ?_)
  refine ea rfl (by conv=>lhs;whnf) ?_
  refine ev_nil (hK3 _ ?_); clear hK3
  refine good_seq fun K4 hK4 => ?_
  refine good_seq fun K5 hK5 => ?_
  refine gr rfl ?_
  refine ev_q rfl (q_fieldAddrP fO27_0 rfl rfl ?_)
  refine ev_q rfl (q_load tA24 rfl ?_)
  refine ev_q rfl (q_len tEs24 rfl ?_)
  intro n6 hn6
  try simp only [List.length_map] at hn6
  refine ea rfl (by conv=>lhs;whnf) ?_
  refine ev_nil (hK5 _ ?_); clear hK5
  refine good_block ?_
  refine good_loop (α := List Int × Nat × Int × Int) (fun (u, k, a1, s1) => { env := upd (upd (upd ((fun _ => .junk)) 5 (.ptr 900000 0)) 6 (.own 23 u.length)) 7 (.s (.int .i64 ((k : Int)))), H := upd (upd ((fun _ => none)) 23 (some (.row 2 1 (u.map ci)))) 900000 (some (.box 102 (src cs a1 s1))) }) (fun (u, k, a1, s1) => (u.length + k = ns.length ∧ ∀ x ∈ u, 0 ≤ x ∧ x ≤ 2000) ∧ (0 ≤ a1 ∧ a1 ≤ 10000 - 100 * k)) (fun (u, k, a1, s1) => k) ([], ns.length, 0, 0) ?_ ?_ ?_
  · exact ⟨⟨by simp, fun x hx => (by cases hx)⟩, by omega⟩
  · refine Sub.trans (sub_move 6 10 23 rfl rfl rfl (by decide)) ?_
    refine sub_weak ?_ ?_
    · exact weakH_box (boxEq (rfl)) rfl (weakH_row (rowEq (rfl)) (weakH_none _))
    · refine weakE_upd ?e7 ?r7 (weakE_upd ?e6 ?r6 (weakE_upd ?e5 ?r5 (weakE_junk _ _)))
      case e5 => first | rfl | exact fI (by omega) | (simp_all)
      case r5 => intro h hh; simp [refs] at hh; subst hh; rfl
      case e6 => first | rfl | exact fI (by omega) | (first | rfl | exact ownEq (by simp))
      case r6 => intro h hh; simp [refs] at hh; subst hh; rfl
      case e7 => first | rfl | exact fI (by omega) | (first | rfl | exact fI (by omega))
      case r7 => intro h hh; cases hh
  · rintro ⟨u, k, a1, s1⟩ ⟨⟨hul, hu⟩, ha1⟩
    refine good_seq fun K7 hK7 => ?_
    refine good_seq fun K8 hK8 => ?_
    refine gr rfl ?_
    refine em rfl (by conv=>lhs;whnf) ?_
    refine ei rfl rfl rfl ?_
    intro b9 hb9; cases b9
    · replace hb9 := dF hb9
      refine ev_nil (hK8 _ ?_); clear hK8
      refine good_condF rfl ?_
      refine good_exit ?_
      repeat first|refine thenQ_exit ?_|refine blockQ_pass rfl ?_
      refine blockQ_exit (hK4 _ ?_); clear hK4
      refine good_seq fun K10 hK10 => ?_
      refine gr rfl ?_
      refine em rfl (by conv=>lhs;whnf) ?_
      refine ea rfl (by conv=>lhs;whnf) ?_
      refine ev_nil (hK10 _ ?_); clear hK10
      refine good_weak (sub_move 4 23 900001 rfl rfl rfl (by decide)) ?_
      refine good_ret ?_
      repeat first|refine thenQ_ret ?_|refine blockQ_ret ?_
      clear hK7
      refine ex_1 (v := u) ?hF ?hR
      case hF =>
        refine fx_tmp rfl (by conv=>lhs;whnf) ?_
        exact ⟨_, conv_eq (by first | rfl | (rw [e]; done) | (rw [e]; rfl) | exact ownEq (by first | omega | simp_all)), weakH_row (rowEq (by first | rfl | (rw [e]; done) | (rw [e]; rfl) | (simp_all; done))) (weakH_none _), refsIn_ok rfl⟩
      case hR =>
        exact ⟨by omega, hu⟩
    · replace hb9 := dT hb9
      refine ev_nil (hK8 _ ?_); clear hK8
      refine good_condT rfl ?_
      refine good_skip (hK7 _ ?_); clear hK7
      refine good_seq fun K11 hK11 => ?_
      refine good_block ?_
      refine gr rfl ?_
      refine em rfl (by conv=>lhs;whnf) ?_
      refine em rfl (by conv=>lhs;whnf) ?_
      refine ev_k rfl (k_lit tE24 zA2 rfl rfl (by decide) (by decide) rfl rfl rfl ?_)
      refine ev_k rfl (k_callR [(1000000, 900000), (1000001, 20)] (D_spec_l00Src_among cs _ _ [0, 500, 900, 1300, 2000] hc hb (by omega) (by decide)) rfl (rfl) (rfl) ⟨rfl, ⟨rfl, trivial⟩⟩ rfl (by rintro ⟨v12, a12, s12⟩ ⟨hx12_0, hx12_1⟩; exact ⟨⟨rfl, rfl, ⟨rfl, ⟨rfl, rfl, by first | exact Nat.le_refl _ | (simp; done) | (simp; omega)⟩, trivial⟩⟩, rfl⟩) rfl rfl ?_)
      rintro ⟨v12, a12, s12⟩ ⟨hx12_0, hx12_1⟩
      simp only [List.mem_cons, List.not_mem_nil, or_false] at hx12_0
      refine ev_k rfl (k_lit tE24 zA2 rfl rfl (by decide) (by decide) rfl rfl rfl ?_)
      refine ev_k rfl (k_app tApp24 rfl rfl (by simp) rfl (.inr rfl) (by first | (simp [maxLen]; omega)) (by first | (simp; omega)) ?_)
      refine ea rfl (by conv=>lhs;whnf) ?_
      refine ev_nil (hK11 _ ?_); clear hK11
      refine gr rfl ?_
      refine em rfl (by conv=>lhs;whnf) ?_
      refine ei rfl rfl rfl ?_
      intro n13 hn13
      replace hn13 := in64 hn13 (by omega) (by omega)
      refine ea rfl (by conv=>lhs;whnf) ?_
      refine ev_nil ?_
      clear hK4
      refine ⟨(u ++ [v12], k - 1, a12, s12), ?_, ?_, ?_⟩
      · exact ⟨⟨by simp; omega, dmP_app (ns := ns) hu (by omega)⟩, by first | omega | (dsimp only; omega)⟩
      · first | omega | (dsimp only; omega)
      · refine sub_weak ?_ ?_
        · exact weakH_box (boxEq (rfl)) rfl (weakH_row (rowEq (by rw [List.map_append]; rfl)) (weakH_none _))
        · refine weakE_upd ?e7 ?r7 (weakE_upd ?e6 ?r6 (weakE_upd ?e5 ?r5 (weakE_junk _ _)))
          case e5 => first | rfl | exact fI (by omega) | (simp_all)
          case r5 => intro h hh; simp [refs] at hh; subst hh; rfl
          case e6 => first | rfl | exact fI (by omega) | (first | rfl | exact ownEq (by simp))
          case r6 => intro h hh; simp [refs] at hh; subst hh; rfl
          case e7 => first | rfl | exact fI (by omega) | (first | rfl | exact fI (by omega))
          case r7 => intro h hh; cases hh
theorem D_spec_R8Water (cs : List Int) (ns : List Int) (ps : List Pi) (hc : cs.length ≤ 17592186044416) (hb : byteL cs) (hn : ns.length ≤ 16) : DenR Try.prog 9 [.lst 1 (cs.map cb), .agg [.lst 1 (ns.map ci), .lst 6 (ps.map piA)]] (τ := List Int) (fun u => dmP ns u) (fun u => .lst 1 (u.map ci)) :=
  denR_of_denXR (D_spec_R8Water_X cs ns ps hc hb hn) (by rintro u _; change (some (.lst 1 (List.take u.length (u.map ci))) : Option AV) = some (.lst 1 (u.map ci)); simp only [takeMap])

-- laws.FnHydraulics
set_option maxHeartbeats 4000000 in
theorem D_laws_FnHydraulics (cs ds : List Int) (hb : byteL cs) (hb2 : byteL ds) : Den Try.prog 3 [.lst 1 (cs.map cb), .lst 1 (ds.map cb)] (.s (.bool true)) := by
  refine den_of_good Try.func3 (by decide) rfl (Nat.le_of_ble_eq_true rfl) (Nat.le_of_ble_eq_true rfl) ?_
  refine good_seq fun K1 hK1 => ?_
  refine gr rfl ?_
  refine ea rfl (by conv=>lhs;whnf) ?_
  refine ev_nil (hK1 _ ?_); clear hK1
  refine good_seq fun K2 hK2 => ?_
  refine good_seq fun K3 hK3 => ?_
  refine gr rfl ?_
  refine em rfl (by conv=>lhs;whnf) ?_
  refine em rfl (by conv=>lhs;whnf) ?_
  refine ev_q rfl (q_callB rfl rfl (rfl) (D_laws_r8Long cs ds) ?_)
  intro b4 hb4; cases b4
  · first | replace hb4 := dF hb4 | skip
    refine ev_nil (hK3 _ ?_); clear hK3
    refine good_condF rfl ?_
    refine good_skip (hK2 _ ?_); clear hK2
    refine good_seq fun K5 hK5 => ?_
    refine gr rfl ?_
    refine em rfl (by conv=>lhs;whnf) ?_
    refine ev_k rfl (k_callR [] (D_spec_R8Tree cs (by omega) hb) rfl (rfl) (rfl) trivial rfl (by rintro ⟨n6, p6⟩ hx6_0; exact ⟨trivial, rfl⟩) rfl rfl ?_)
    rintro ⟨n6, p6⟩ hx6_0
    have hT : DrT n6 p6 := hx6_0
    have ok := hT.net
    have htr := hT.tree
    have hz := hT.idz
    have h2 := hT.n2
    have h6 := hT.n6
    have hpl := hT.pl
    have hn : n6.length ≤ 17592186044416 := by omega
    have hp : p6.length ≤ 2513169434843 := by omega
    have hrl : (List.replicate n6.length (0 : Int)).length = n6.length := List.length_replicate
    refine ev_k rfl (k_alloc zA27 rfl ?_)
    refine ev_k rfl (k_store sz27 rfl (by conv=>lhs;whnf) rfl rfl rfl (Nat.le_of_ble_eq_true rfl) rfl ?_)
    refine ev_nil (hK5 _ ?_); clear hK5
    refine good_seq fun K7 hK7 => ?_
    refine gr rfl ?_
    refine em rfl (by conv=>lhs;whnf) ?_
    refine ev_q rfl (q_fieldAddrP fO27_0 rfl rfl ?_)
    refine ev_q rfl (q_load tA24 rfl ?_)
    refine ev_q rfl (q_len tEs24 rfl ?_)
    intro n8 hn8
    try simp only [List.length_map] at hn8
    refine ev_q rfl (q_callI rfl rfl (rfl) (D_laws_r8At ds 0 _ (by omega) hb2 (by omega) (by omega)) ?_)
    intro n9 hn9
    have hsb := r8a_bd (cs := ds) (k := 0) (n := n8) (by omega)
    rw [← hn9] at hsb
    have hs : 0 ≤ n9 ∧ n9 < n6.length := by omega
    refine ea rfl (by conv=>lhs;whnf) ?_
    refine ev_nil (hK7 _ ?_); clear hK7
    refine good_seq fun K10 hK10 => ?_
    refine gr rfl ?_
    refine em rfl (by conv=>lhs;whnf) ?_
    refine ev_q rfl (q_loadA tA27 rfl rfl rfl ?_)
    refine ev_k rfl (k_callR [] (D_spec_R8Water ds n6 p6 (by omega) hb2 (by omega)) rfl (rfl) (rfl) trivial rfl (by rintro w11 hx11_0; exact ⟨trivial, rfl⟩) rfl rfl ?_)
    rintro w11 hx11_0
    have hdm : dmP n6 w11 := hx11_0
    have hsN : n9.toNat < n6.length := by omega
    have hflp := flT_ok hT hsN hdm
    have hdrp := drT_ok hT hsN hdm
    have hdml := hdm.1
    have hfll := hflp.1
    have hfl4 : (flT n6 p6 n9.toNat w11).length ≤ 17592186044416 := by omega
    refine ea rfl (by conv=>lhs;whnf) ?_
    refine ev_nil (hK10 _ ?_); clear hK10
    refine good_seq fun K12 hK12 => ?_
    refine gr rfl ?_
    refine ev_q rfl (q_loadA tA27 rfl rfl rfl ?_)
    refine em rfl (by conv=>lhs;whnf) ?_
    refine em rfl (by conv=>lhs;whnf) ?_
    refine ev_q rfl (q_call rfl rfl (rfl) (D_impl_TreeFlows n6 p6 n9 w11 hn hp hz ok hs htr hdm hT) rfl ?_)
    refine em rfl (by conv=>lhs;whnf) ?_
    refine ev_q rfl (q_extract rfl rfl ?_)
    refine ev_q rfl (q_extractI rfl rfl ?_)
    intro n13 hn13
    refine ea rfl (by conv=>lhs;whnf) ?_
    refine ea rfl (by conv=>lhs;whnf) ?_
    refine ev_nil (hK12 _ ?_); clear hK12
    refine good_seq fun K14 hK14 => ?_
    refine good_seq fun K15 hK15 => ?_
    refine gr rfl ?_
    refine em rfl (by conv=>lhs;whnf) ?_
    refine ei rfl rfl rfl ?_
    intro b16 hb16; cases b16
    · replace hb16 := neF hb16
      refine em rfl (by conv=>lhs;whnf) ?_
      refine em rfl (by conv=>lhs;whnf) ?_
      refine ev_q rfl (q_len tEs24 rfl ?_)
      intro n17 hn17
      try simp only [List.length_map] at hn17
      refine ev_q rfl (q_fieldAddrP fO27_1 rfl rfl ?_)
      refine ev_q rfl (q_load tA25 rfl ?_)
      refine ev_q rfl (q_len tEs25 rfl ?_)
      intro n18 hn18
      try simp only [List.length_map] at hn18
      refine ei rfl rfl rfl ?_
      intro b19 hb19; cases b19
      · replace hb19 := neF hb19
        refine ev_q rfl (q_pickF rfl (by conv=>lhs;whnf) ?_)
        refine ev_nil (hK15 _ ?_); clear hK15
        refine good_condF rfl ?_
        refine good_skip (hK14 _ ?_); clear hK14
        refine good_seq fun K20 hK20 => ?_
        refine gr rfl ?_
        refine ea rfl (by conv=>lhs;whnf) ?_
        refine ev_nil (hK20 _ ?_); clear hK20
        refine good_seq fun K21 hK21 => ?_
        refine good_seq fun K22 hK22 => ?_
        refine gr rfl ?_
        refine ea rfl (by conv=>lhs;whnf) ?_
        refine ev_nil (hK22 _ ?_); clear hK22
        refine good_block ?_
        refine good_loop (α := Nat × Int) (fun (j, sm) => { env := upd (upd (upd (upd (upd (upd ((fun _ => .junk)) 5 (.ptr 5 0)) 6 (.s (.int .i64 (n9)))) 7 (.lst 1 (w11.map ci))) 8 (.lst 1 ((flT n6 p6 n9.toNat w11).map ci))) 10 (.s (.int .i64 sm))) 11 (.s (.int .i64 ((j : Int)))), H := upd ((fun _ => none)) 5 (some (.box 27 [.lst 1 (n6.map ci), .lst 6 (p6.map piA)])) }) (fun (j, sm) => j ≤ n6.length ∧ sm = su (baF (p6.map pe) (flT n6 p6 n9.toNat w11)) (List.range j) ∧ (-(4000000 * (j : Int)) ≤ sm ∧ sm ≤ 4000000 * j)) (fun (j, sm) => n6.length - j) (0, 0) ?_ ?_ ?_
        · exact ⟨by omega, rfl, by omega⟩
        · refine sub_weak ?_ ?_
          · exact weakH_box (boxEq (rfl)) rfl (weakH_none _)
          · refine weakE_upd ?e11 ?r11 (weakE_upd ?e10 ?r10 (weakE_upd ?e8 ?r8 (weakE_upd ?e7 ?r7 (weakE_upd ?e6 ?r6 (weakE_upd ?e5 ?r5 (weakE_junk _ _))))))
            case e5 => first | rfl | exact fI (by omega) | (simp_all)
            case r5 => intro h hh; simp [refs] at hh; subst hh; rfl
            case e6 => first | rfl | exact fI (by omega) | (simp_all)
            case r6 => intro h hh; cases hh
            case e7 => first | rfl | exact fI (by omega) | (simp_all)
            case r7 => intro h hh; cases hh
            case e8 => first | rfl | exact fI (by omega) | (simp_all)
            case r8 => intro h hh; cases hh
            case e10 => first | rfl | exact fI (by omega) | (simp_all)
            case r10 => intro h hh; cases hh
            case e11 => first | rfl | exact fI (by omega) | (simp_all)
            case r11 => intro h hh; cases hh
        · rintro ⟨j, sm⟩ ⟨hj, hsm, hsb2⟩
          refine good_seq fun K23 hK23 => ?_
          refine good_seq fun K24 hK24 => ?_
          refine gr rfl ?_
          refine em rfl (by conv=>lhs;whnf) ?_
          refine ev_q rfl (q_fieldAddrP fO27_0 rfl rfl ?_)
          refine ev_q rfl (q_load tA24 rfl ?_)
          refine ev_q rfl (q_len tEs24 rfl ?_)
          intro n25 hn25
          try simp only [List.length_map] at hn25
          refine ei rfl rfl rfl ?_
          intro b26 hb26; cases b26
          · replace hb26 := dF hb26
            have hz0 := ba_sum (flT n6 p6 n9.toNat w11) (esF_lt hT.net)
            rw [show j = n6.length by omega, hz0] at hsm
            refine ev_nil (hK24 _ ?_); clear hK24
            refine good_condF rfl ?_
            refine good_exit ?_
            repeat first|refine thenQ_exit ?_|refine blockQ_pass rfl ?_
            refine blockQ_exit (hK21 _ ?_); clear hK21
            refine good_seq fun K27 hK27 => ?_
            refine good_weak (st' := { env := upd (upd (upd (upd ((fun _ => .junk)) 5 (.ptr 5 0)) 6 (.s (.int .i64 (n9)))) 8 (.lst 1 ((flT n6 p6 n9.toNat w11).map ci))) 10 (.s (.int .i64 sm)), H := upd ((fun _ => none)) 5 (some (.box 27 [.lst 1 (n6.map ci), .lst 6 (p6.map piA)])) }) ?_ ?_
            · refine sub_weak ?_ ?_
              · exact weakH_box (boxEq (rfl)) rfl (weakH_none _)
              · refine weakE_upd ?e10 ?r10 (weakE_upd ?e8 ?r8 (weakE_upd ?e6 ?r6 (weakE_upd ?e5 ?r5 (weakE_junk _ _))))
                case e5 => first | rfl | exact fI (by omega) | (rfl)
                case r5 => intro h hh; simp [refs] at hh; subst hh; rfl
                case e6 => first | rfl | exact fI (by omega) | (rfl)
                case r6 => intro h hh; cases hh
                case e8 => first | rfl | exact fI (by omega) | (rfl)
                case r8 => intro h hh; cases hh
                case e10 => first | rfl | exact fI (by omega) | (rfl)
                case r10 => intro h hh; cases hh
            refine gr rfl ?_
            refine ev_q rfl (q_loadA tA27 rfl rfl rfl ?_)
            refine em rfl (by conv=>lhs;whnf) ?_
            refine em rfl (by conv=>lhs;whnf) ?_
            refine ev_q rfl (q_call rfl rfl (rfl) (D_impl_PressuresOf n6 p6 n9 (flT n6 p6 n9.toNat w11) 500000 hn hp hz hfl4 ok hs hflp (by omega) htr hdrp) rfl ?_)
            refine em rfl (by conv=>lhs;whnf) ?_
            refine ev_q rfl (q_extract rfl rfl ?_)
            refine ev_q rfl (q_extractI rfl rfl ?_)
            intro n28 hn28
            refine ea rfl (by conv=>lhs;whnf) ?_
            refine ea rfl (by conv=>lhs;whnf) ?_
            refine ev_nil (hK27 _ ?_); clear hK27
            refine good_seq fun K29 hK29 => ?_
            refine good_weak (st' := { env := upd (upd (upd (upd (upd (upd ((fun _ => .junk)) 5 (.ptr 5 0)) 6 (.s (.int .i64 (n9)))) 8 (.lst 1 ((flT n6 p6 n9.toNat w11).map ci))) 10 (.s (.int .i64 sm))) 14 (.lst 1 ((prT n6 p6 n9.toNat w11 500000).map ci))) 15 (.s (.int .i64 (n28))), H := upd ((fun _ => none)) 5 (some (.box 27 [.lst 1 (n6.map ci), .lst 6 (p6.map piA)])) }) ?_ ?_
            · refine sub_weak ?_ ?_
              · exact weakH_box (boxEq (rfl)) rfl (weakH_none _)
              · refine weakE_upd ?e15 ?r15 (weakE_upd ?e14 ?r14 (weakE_upd ?e10 ?r10 (weakE_upd ?e8 ?r8 (weakE_upd ?e6 ?r6 (weakE_upd ?e5 ?r5 (weakE_junk _ _))))))
                case e5 => first | rfl | exact fI (by omega) | (rfl)
                case r5 => intro h hh; simp [refs] at hh; subst hh; rfl
                case e6 => first | rfl | exact fI (by omega) | (rfl)
                case r6 => intro h hh; cases hh
                case e8 => first | rfl | exact fI (by omega) | (rfl)
                case r8 => intro h hh; cases hh
                case e10 => first | rfl | exact fI (by omega) | (rfl)
                case r10 => intro h hh; cases hh
                case e14 => first | rfl | exact fI (by omega) | (rfl)
                case r14 => intro h hh; cases hh
                case e15 => first | rfl | exact fI (by omega) | (rfl)
                case r15 => intro h hh; cases hh
            refine gr rfl ?_
            refine ev_q rfl (q_loadA tA27 rfl rfl rfl ?_)
            refine em rfl (by conv=>lhs;whnf) ?_
            refine em rfl (by conv=>lhs;whnf) ?_
            refine ev_q rfl (q_call rfl rfl (rfl) (D_impl_PressuresOf n6 p6 n9 (flT n6 p6 n9.toNat w11) 500123 hn hp hz hfl4 ok hs hflp (by omega) htr hdrp) rfl ?_)
            refine em rfl (by conv=>lhs;whnf) ?_
            refine ev_q rfl (q_extract rfl rfl ?_)
            refine ev_q rfl (q_extractI rfl rfl ?_)
            intro n30 hn30
            refine ea rfl (by conv=>lhs;whnf) ?_
            refine ea rfl (by conv=>lhs;whnf) ?_
            refine ev_nil (hK29 _ ?_); clear hK29
            refine good_join { env := upd (upd (upd (upd (upd (upd (upd (upd (upd ((fun _ => .junk)) 5 (.ptr 5 0)) 6 (.s (.int .i64 (n9)))) 8 (.lst 1 ((flT n6 p6 n9.toNat w11).map ci))) 10 (.s (.int .i64 sm))) 14 (.lst 1 ((prT n6 p6 n9.toNat w11 500000).map ci))) 15 (.s (.int .i64 (n28)))) 16 (.lst 1 ((prT n6 p6 n9.toNat w11 500123).map ci))) 17 (.s (.int .i64 (n30)))) 18 (.ptr 18 0), H := upd (upd (upd ((fun _ => none)) 103 (some (.row 2 1 ((List.replicate n6.length (0 : Int)).map ci)))) 18 (some (.box 27 [.own 103 n6.length, .lst 6 (p6.map piA)]))) 5 (some (.box 27 [.lst 1 (n6.map ci), .lst 6 (p6.map piA)])) } ?_ fun K31 hK31 => ?_
            · refine good_seq fun K32 hK32 => ?_
              refine gr rfl ?_
              refine ev_q rfl (q_loadA tA27 rfl rfl rfl ?_)
              refine em rfl (by conv=>lhs;whnf) ?_
              refine em rfl (by conv=>lhs;whnf) ?_
              refine ev_k rfl (k_callXc [(900003, 900040)] (D_impl_PressuresOf_X (List.replicate n6.length (0 : Int)) p6 n9 (flT n6 p6 n9.toNat w11) 500000 (by omega) hp hz hfl4 hT.lev.net (by omega) hflp (by omega) hT.lev.tree hdrp) rfl (by change some ([.agg [.lst 1 (List.take n6.length ((List.replicate n6.length (0 : Int)).map ci)), .lst 6 (p6.map piA)], .s (.int .i64 (n9)), .lst 1 ((flT n6 p6 n9.toNat w11).map ci), .s (.int .i64 500000)] : List AV) = some _; rw [takeRepI] <;> rfl) (⟨rfl, ⟨pure_ci, trivial⟩⟩) trivial ⟨⟨rfl, show (900040 : Nat) < 1000000 by decide⟩, trivial⟩ rfl rfl rfl ?_)
              refine em rfl (by conv=>lhs;whnf) ?_
              refine ev_q rfl (q_extract rfl rfl ?_)
              refine ev_q rfl (q_extractI rfl rfl ?_)
              intro n33 hn33
              refine ea rfl (by conv=>lhs;whnf) ?_
              refine ea rfl (by conv=>lhs;whnf) ?_
              refine ev_nil (hK32 _ ?_); clear hK32
              refine good_seq fun K34 hK34 => ?_
              refine good_weak (st' := { env := upd (upd (upd (upd (upd (upd (upd (upd (upd (upd ((fun _ => .junk)) 5 (.ptr 5 0)) 6 (.s (.int .i64 (n9)))) 8 (.lst 1 ((flT n6 p6 n9.toNat w11).map ci))) 10 (.s (.int .i64 sm))) 14 (.lst 1 ((prT n6 p6 n9.toNat w11 500000).map ci))) 15 (.s (.int .i64 (n28)))) 16 (.lst 1 ((prT n6 p6 n9.toNat w11 500123).map ci))) 17 (.s (.int .i64 (n30)))) 19 (.own 900040 (List.replicate n6.length (0 : Int)).length)) 20 (.s (.int .i64 (n33))), H := upd (upd ((fun _ => none)) 900040 (some (.row 2 1 ((lvT n6 p6 n9.toNat w11).map ci)))) 5 (some (.box 27 [.lst 1 (n6.map ci), .lst 6 (p6.map piA)])) }) ?_ ?_
              · refine sub_weak ?_ ?_
                · exact weakH_box (boxEq (rfl)) rfl (weakH_row (rowEq (rfl)) (weakH_none _))
                · refine weakE_upd ?e20 ?r20 (weakE_upd ?e19 ?r19 (weakE_upd ?e17 ?r17 (weakE_upd ?e16 ?r16 (weakE_upd ?e15 ?r15 (weakE_upd ?e14 ?r14 (weakE_upd ?e10 ?r10 (weakE_upd ?e8 ?r8 (weakE_upd ?e6 ?r6 (weakE_upd ?e5 ?r5 (weakE_junk _ _))))))))))
                  case e5 => first | rfl | exact fI (by omega) | (rfl)
                  case r5 => intro h hh; simp [refs] at hh; subst hh; rfl
                  case e6 => first | rfl | exact fI (by omega) | (rfl)
                  case r6 => intro h hh; cases hh
                  case e8 => first | rfl | exact fI (by omega) | (rfl)
                  case r8 => intro h hh; cases hh
                  case e10 => first | rfl | exact fI (by omega) | (rfl)
                  case r10 => intro h hh; cases hh
                  case e14 => first | rfl | exact fI (by omega) | (rfl)
                  case r14 => intro h hh; cases hh
                  case e15 => first | rfl | exact fI (by omega) | (rfl)
                  case r15 => intro h hh; cases hh
                  case e16 => first | rfl | exact fI (by omega) | (rfl)
                  case r16 => intro h hh; cases hh
                  case e17 => first | rfl | exact fI (by omega) | (rfl)
                  case r17 => intro h hh; cases hh
                  case e19 => first | rfl | exact fI (by omega) | (rfl)
                  case r19 => intro h hh; simp [refs] at hh; subst hh; rfl
                  case e20 => first | rfl | exact fI (by omega) | (rfl)
                  case r20 => intro h hh; cases hh
              refine gr rfl ?_
              refine ev_q rfl (q_loadA tA27 rfl rfl rfl ?_)
              refine em rfl (by conv=>lhs;whnf) ?_
              refine em rfl (by conv=>lhs;whnf) ?_
              refine ev_q rfl (q_call rfl rfl (rfl) (D_impl_DifferencesOf n6 p6 n9 (flT n6 p6 n9.toNat w11) 500000 hn hp hz hfl4 ok hs hflp (by omega) htr hdrp) rfl ?_)
              refine em rfl (by conv=>lhs;whnf) ?_
              refine ev_q rfl (q_extract rfl rfl ?_)
              refine ev_q rfl (q_extractI rfl rfl ?_)
              intro n35 hn35
              refine ea rfl (by conv=>lhs;whnf) ?_
              refine ea rfl (by conv=>lhs;whnf) ?_
              refine ev_nil (hK34 _ ?_); clear hK34
              refine good_seq fun K36 hK36 => ?_
              refine good_seq fun K37 hK37 => ?_
              refine good_weak (st' := { env := upd (upd (upd (upd (upd (upd (upd (upd (upd (upd (upd (upd ((fun _ => .junk)) 5 (.ptr 5 0)) 6 (.s (.int .i64 (n9)))) 8 (.lst 1 ((flT n6 p6 n9.toNat w11).map ci))) 10 (.s (.int .i64 sm))) 14 (.lst 1 ((prT n6 p6 n9.toNat w11 500000).map ci))) 15 (.s (.int .i64 (n28)))) 16 (.lst 1 ((prT n6 p6 n9.toNat w11 500123).map ci))) 17 (.s (.int .i64 (n30)))) 19 (.own 900040 (List.replicate n6.length (0 : Int)).length)) 20 (.s (.int .i64 (n33)))) 21 (.lst 1 ((dfT n6 p6 n9.toNat w11).map ci))) 22 (.s (.int .i64 (n35))), H := upd (upd ((fun _ => none)) 900040 (some (.row 2 1 ((lvT n6 p6 n9.toNat w11).map ci)))) 5 (some (.box 27 [.lst 1 (n6.map ci), .lst 6 (p6.map piA)])) }) ?_ ?_
              · refine sub_weak ?_ ?_
                · exact weakH_box (boxEq (rfl)) rfl (weakH_row (rowEq (rfl)) (weakH_none _))
                · refine weakE_upd ?e22 ?r22 (weakE_upd ?e21 ?r21 (weakE_upd ?e20 ?r20 (weakE_upd ?e19 ?r19 (weakE_upd ?e17 ?r17 (weakE_upd ?e16 ?r16 (weakE_upd ?e15 ?r15 (weakE_upd ?e14 ?r14 (weakE_upd ?e10 ?r10 (weakE_upd ?e8 ?r8 (weakE_upd ?e6 ?r6 (weakE_upd ?e5 ?r5 (weakE_junk _ _))))))))))))
                  case e5 => first | rfl | exact fI (by omega) | (rfl)
                  case r5 => intro h hh; simp [refs] at hh; subst hh; rfl
                  case e6 => first | rfl | exact fI (by omega) | (rfl)
                  case r6 => intro h hh; cases hh
                  case e8 => first | rfl | exact fI (by omega) | (rfl)
                  case r8 => intro h hh; cases hh
                  case e10 => first | rfl | exact fI (by omega) | (rfl)
                  case r10 => intro h hh; cases hh
                  case e14 => first | rfl | exact fI (by omega) | (rfl)
                  case r14 => intro h hh; cases hh
                  case e15 => first | rfl | exact fI (by omega) | (rfl)
                  case r15 => intro h hh; cases hh
                  case e16 => first | rfl | exact fI (by omega) | (rfl)
                  case r16 => intro h hh; cases hh
                  case e17 => first | rfl | exact fI (by omega) | (rfl)
                  case r17 => intro h hh; cases hh
                  case e19 => first | rfl | exact fI (by omega) | (rfl)
                  case r19 => intro h hh; simp [refs] at hh; subst hh; rfl
                  case e20 => first | rfl | exact fI (by omega) | (rfl)
                  case r20 => intro h hh; cases hh
                  case e21 => first | rfl | exact fI (by omega) | (rfl)
                  case r21 => intro h hh; cases hh
                  case e22 => first | rfl | exact fI (by omega) | (rfl)
                  case r22 => intro h hh; cases hh
              refine gr rfl ?_
              refine em rfl (by conv=>lhs;whnf) ?_
              refine em rfl (by conv=>lhs;whnf) ?_
              refine ei rfl rfl rfl ?_
              intro b38 hb38; cases b38
              rotate_left
              · replace hb38 := neT hb38
                exfalso; omega
              replace hb38 := neF hb38
              refine em rfl (by conv=>lhs;whnf) ?_
              refine em rfl (by conv=>lhs;whnf) ?_
              refine em rfl (by conv=>lhs;whnf) ?_
              refine ei rfl rfl rfl ?_
              intro b39 hb39; cases b39
              rotate_left
              · replace hb39 := neT hb39
                exfalso; omega
              replace hb39 := neF hb39
              refine ev_q rfl (q_pickF rfl (by conv=>lhs;whnf) ?_)
              refine em rfl (by conv=>lhs;whnf) ?_
              refine em rfl (by conv=>lhs;whnf) ?_
              refine em rfl (by conv=>lhs;whnf) ?_
              refine ei rfl rfl rfl ?_
              intro b40 hb40; cases b40
              rotate_left
              · replace hb40 := neT hb40
                exfalso; omega
              replace hb40 := neF hb40
              refine ev_q rfl (q_pickF rfl (by conv=>lhs;whnf) ?_)
              refine em rfl (by conv=>lhs;whnf) ?_
              refine em rfl (by conv=>lhs;whnf) ?_
              refine ei rfl rfl rfl ?_
              intro b41 hb41; cases b41
              rotate_left
              · replace hb41 := neT hb41
                exfalso; omega
              replace hb41 := neF hb41
              refine ev_q rfl (q_pickF rfl (by conv=>lhs;whnf) ?_)
              refine ev_nil (hK37 _ ?_); clear hK37
              refine good_condF rfl ?_
              refine good_skip (hK36 _ ?_); clear hK36
              refine good_seq fun K42 hK42 => ?_
              refine good_seq fun K43 hK43 => ?_
              refine gr rfl ?_
              refine em rfl (by conv=>lhs;whnf) ?_
              refine ei rfl rfl rfl ?_
              intro b44 hb44; cases b44
              rotate_left
              · replace hb44 := neT hb44
                exfalso; omega
              replace hb44 := neF hb44
              refine ev_nil (hK43 _ ?_); clear hK43
              refine good_condF rfl ?_
              refine good_skip (hK42 _ ?_); clear hK42
              refine good_seq fun K45 hK45 => ?_
              refine good_seq fun K46 hK46 => ?_
              refine good_weak (st' := { env := upd (upd (upd (upd (upd (upd ((fun _ => .junk)) 5 (.ptr 5 0)) 6 (.s (.int .i64 (n9)))) 14 (.lst 1 ((prT n6 p6 n9.toNat w11 500000).map ci))) 16 (.lst 1 ((prT n6 p6 n9.toNat w11 500123).map ci))) 19 (.own 900040 (List.replicate n6.length (0 : Int)).length)) 21 (.lst 1 ((dfT n6 p6 n9.toNat w11).map ci)), H := upd (upd ((fun _ => none)) 900040 (some (.row 2 1 ((lvT n6 p6 n9.toNat w11).map ci)))) 5 (some (.box 27 [.lst 1 (n6.map ci), .lst 6 (p6.map piA)])) }) ?_ ?_
              · refine sub_weak ?_ ?_
                · exact weakH_box (boxEq (rfl)) rfl (weakH_row (rowEq (rfl)) (weakH_none _))
                · refine weakE_upd ?e21 ?r21 (weakE_upd ?e19 ?r19 (weakE_upd ?e16 ?r16 (weakE_upd ?e14 ?r14 (weakE_upd ?e6 ?r6 (weakE_upd ?e5 ?r5 (weakE_junk _ _))))))
                  case e5 => first | rfl | exact fI (by omega) | (rfl)
                  case r5 => intro h hh; simp [refs] at hh; subst hh; rfl
                  case e6 => first | rfl | exact fI (by omega) | (rfl)
                  case r6 => intro h hh; cases hh
                  case e14 => first | rfl | exact fI (by omega) | (rfl)
                  case r14 => intro h hh; cases hh
                  case e16 => first | rfl | exact fI (by omega) | (rfl)
                  case r16 => intro h hh; cases hh
                  case e19 => first | rfl | exact fI (by omega) | (rfl)
                  case r19 => intro h hh; simp [refs] at hh; subst hh; rfl
                  case e21 => first | rfl | exact fI (by omega) | (rfl)
                  case r21 => intro h hh; cases hh
              refine gr rfl ?_
              refine em rfl (by conv=>lhs;whnf) ?_
              refine ev_q rfl (q_len tEs24 rfl ?_)
              intro n47 hn47
              try simp only [List.length_map] at hn47
              rw [prT_len] at hn47
              refine ev_q rfl (q_fieldAddrP fO27_0 rfl rfl ?_)
              refine ev_q rfl (q_load tA24 rfl ?_)
              refine ev_q rfl (q_len tEs24 rfl ?_)
              intro n48 hn48
              try simp only [List.length_map] at hn48
              refine ei rfl rfl rfl ?_
              intro b49 hb49; cases b49
              rotate_left
              · replace hb49 := neT hb49
                exfalso; omega
              replace hb49 := neF hb49
              refine em rfl (by conv=>lhs;whnf) ?_
              refine em rfl (by conv=>lhs;whnf) ?_
              refine ev_q rfl (q_len tEs24 rfl ?_)
              intro n50 hn50
              try simp only [List.length_map] at hn50
              rw [prT_len] at hn50
              refine em rfl (by conv=>lhs;whnf) ?_
              refine ev_q rfl (q_len tEs24 rfl ?_)
              intro n51 hn51
              try simp only [List.length_map] at hn51
              rw [prT_len] at hn51
              refine ei rfl rfl rfl ?_
              intro b52 hb52; cases b52
              rotate_left
              · replace hb52 := neT hb52
                exfalso; omega
              replace hb52 := neF hb52
              refine ev_q rfl (q_pickF rfl (by conv=>lhs;whnf) ?_)
              refine em rfl (by conv=>lhs;whnf) ?_
              refine em rfl (by conv=>lhs;whnf) ?_
              refine ev_q rfl (q_len tEs24 rfl ?_)
              intro n53 hn53
              try simp only [List.length_map] at hn53
              rw [List.length_replicate] at hn53
              refine em rfl (by conv=>lhs;whnf) ?_
              refine ev_q rfl (q_len tEs24 rfl ?_)
              intro n54 hn54
              try simp only [List.length_map] at hn54
              rw [prT_len] at hn54
              refine ei rfl rfl rfl ?_
              intro b55 hb55; cases b55
              rotate_left
              · replace hb55 := neT hb55
                exfalso; omega
              replace hb55 := neF hb55
              refine ev_q rfl (q_pickF rfl (by conv=>lhs;whnf) ?_)
              refine em rfl (by conv=>lhs;whnf) ?_
              refine em rfl (by conv=>lhs;whnf) ?_
              refine ev_q rfl (q_len tEs24 rfl ?_)
              intro n56 hn56
              try simp only [List.length_map] at hn56
              rw [dfT_len] at hn56
              refine em rfl (by conv=>lhs;whnf) ?_
              refine ev_q rfl (q_len tEs24 rfl ?_)
              intro n57 hn57
              try simp only [List.length_map] at hn57
              rw [prT_len] at hn57
              refine ei rfl rfl rfl ?_
              intro b58 hb58; cases b58
              rotate_left
              · replace hb58 := neT hb58
                exfalso; omega
              replace hb58 := neF hb58
              refine ev_q rfl (q_pickF rfl (by conv=>lhs;whnf) ?_)
              refine ev_nil (hK46 _ ?_); clear hK46
              refine good_condF rfl ?_
              refine good_skip (hK45 _ ?_); clear hK45
              refine good_seq fun K59 hK59 => ?_
              refine good_seq fun K60 hK60 => ?_
              refine gr rfl ?_
              refine ea rfl (by conv=>lhs;whnf) ?_
              refine ev_nil (hK60 _ ?_); clear hK60
              refine good_block ?_
              refine good_loop (α := Nat) (fun i => { env := upd (upd (upd (upd (upd (upd ((fun _ => .junk)) 6 (.s (.int .i64 (n9)))) 14 (.lst 1 ((prT n6 p6 n9.toNat w11 500000).map ci))) 16 (.lst 1 ((prT n6 p6 n9.toNat w11 500123).map ci))) 19 (.own 900040 (List.replicate n6.length (0 : Int)).length)) 21 (.lst 1 ((dfT n6 p6 n9.toNat w11).map ci))) 23 (.s (.int .i64 ((i : Int)))), H := upd ((fun _ => none)) 900040 (some (.row 2 1 ((lvT n6 p6 n9.toNat w11).map ci))) }) (fun i => i ≤ n6.length) (fun i => n6.length - i) 0 ?_ ?_ ?_
              · exact Nat.zero_le _
              · refine sub_weak ?_ ?_
                · exact weakH_row (rowEq (rfl)) (weakH_none _)
                · refine weakE_upd ?e23 ?r23 (weakE_upd ?e21 ?r21 (weakE_upd ?e19 ?r19 (weakE_upd ?e16 ?r16 (weakE_upd ?e14 ?r14 (weakE_upd ?e6 ?r6 (weakE_junk _ _))))))
                  case e6 => first | rfl | exact fI (by omega) | (simp_all)
                  case r6 => intro h hh; cases hh
                  case e14 => first | rfl | exact fI (by omega) | (simp_all)
                  case r14 => intro h hh; cases hh
                  case e16 => first | rfl | exact fI (by omega) | (simp_all)
                  case r16 => intro h hh; cases hh
                  case e19 => first | rfl | exact fI (by omega) | (simp_all)
                  case r19 => intro h hh; simp [refs] at hh; subst hh; rfl
                  case e21 => first | rfl | exact fI (by omega) | (simp_all)
                  case r21 => intro h hh; cases hh
                  case e23 => first | rfl | exact fI (by omega) | (exact fI (by rw [h?t174]; rfl))
                  case r23 => intro h hh; cases hh
              · rintro i hi
                refine good_seq fun K61 hK61 => ?_
                refine good_seq fun K62 hK62 => ?_
                refine gr rfl ?_
                refine em rfl (by conv=>lhs;whnf) ?_
                refine em rfl (by conv=>lhs;whnf) ?_
                refine ev_q rfl (q_len tEs24 rfl ?_)
                intro n63 hn63
                try simp only [List.length_map] at hn63
                rw [prT_len] at hn63
                refine ei rfl rfl rfl ?_
                intro b64 hb64; cases b64
                · replace hb64 := dF hb64
                  obtain ⟨e0, e1⟩ := hy_s (dm := w11) hT hsN
                  refine ev_nil (hK62 _ ?_); clear hK62
                  refine good_condF rfl ?_
                  refine good_exit ?_
                  repeat first|refine thenQ_exit ?_|refine blockQ_pass rfl ?_
                  refine blockQ_exit (hK59 _ ?_); clear hK59
                  refine good_seq fun K65 hK65 => ?_
                  refine gr rfl ?_
                  refine em rfl (by conv=>lhs;whnf) ?_
                  refine em rfl (by conv=>lhs;whnf) ?_
                  refine ev_q rfl (q_idx tE24 rfl rfl (by first | exact Int.natCast_nonneg _ | omega) (by first | exact map_get e0 | exact map_get e1) rfl ?_)
                  refine ev_q rfl (q_load tA2 rfl ?_)
                  refine ei rfl rfl rfl ?_
                  intro b66 hb66; cases b66
                  · replace hb66 := eqF hb66
                    exfalso; omega
                  replace hb66 := eqT hb66
                  refine em rfl (by conv=>lhs;whnf) ?_
                  refine em rfl (by conv=>lhs;whnf) ?_
                  refine em rfl (by conv=>lhs;whnf) ?_
                  refine ev_q rfl (q_idx tE24 rfl rfl (by first | exact Int.natCast_nonneg _ | omega) (by first | exact map_get e0 | exact map_get e1) rfl ?_)
                  refine ev_q rfl (q_load tA2 rfl ?_)
                  refine ei rfl rfl rfl ?_
                  intro b67 hb67; cases b67
                  · replace hb67 := eqF hb67
                    exfalso; omega
                  replace hb67 := eqT hb67
                  refine ev_q rfl (q_pickT rfl (by conv=>lhs;whnf) ?_)
                  refine ea rfl (by conv=>lhs;whnf) ?_
                  refine ev_nil (hK65 _ ?_); clear hK65
                  refine good_ret ?_
                  repeat first|refine thenQ_ret ?_|refine blockQ_ret ?_
                  refine ret_tmp (st := _) rfl (by conv=>lhs;whnf) rfl ?_
                  clear hK23 hK61
                  first | rfl | exact absurd (q1.trans h?t183.symm) (by assumption) | exact absurd ((h?t190.trans q2).trans h?t196.symm) (by assumption) | exact absurd q3 (Int.not_le.2 (by assumption)) | (exfalso; omega)
                · replace hb64 := dT hb64
                  have hiv : i < n6.length := ltOf hb64 hn63
                  obtain ⟨qA, qB, qD, qL, hA, hB, hD, hL, q1, q2, q3, b1, b2, b3, b4, b5, hiR⟩ := hy_q hT hsN hdm hiv
                  refine ev_nil (hK62 _ ?_); clear hK62
                  refine good_condT rfl ?_
                  refine good_skip (hK61 _ ?_); clear hK61
                  refine good_seq fun K68 hK68 => ?_
                  refine good_block ?_
                  refine good_seq fun K69 hK69 => ?_
                  refine good_any 31 (listed := #[false, false, false, false, false, false, false, false, false, false, false, false, false, false, false, false, false, false, false, false, false, false, false, false, false, false, false, false, false, false, false]) rfl rfl hmix rfl ?_
                  refine tn_first_q (i := 0) (listed' := #[true, false, false, false, false, false, false, false, false, false, false, false, false, false, false, false, false, false, false, false, false, false, false, false, false, false, false, false, false, false, false]) rfl rfl (by kernel_rfl) rfl (q_move (by conv=>lhs;whnf) ?_)
                  refine tn_first_q (i := 1) (listed' := #[true, true, false, false, false, false, false, false, false, false, false, false, false, false, false, false, false, false, false, false, false, false, false, false, false, false, false, false, false, false, false]) rfl rfl (by kernel_rfl) rfl (q_move (by conv=>lhs;whnf) ?_)
                  refine tn_first_q (i := 2) (listed' := #[true, true, true, false, false, false, false, false, false, false, false, false, false, false, false, false, false, false, false, false, false, false, false, false, false, false, false, false, false, false, false]) rfl rfl (by kernel_rfl) rfl (q_idx tE24 rfl rfl (by first | exact Int.natCast_nonneg _ | omega) (by exact map_get hB) rfl ?_)
                  refine tn_first_q (i := 3) (listed' := #[true, true, true, true, false, false, false, false, false, false, false, false, false, false, false, false, false, false, false, false, false, false, false, false, false, false, false, false, false, false, false]) rfl rfl (by kernel_rfl) rfl (q_load tA2 rfl ?_)
                  refine tn_first_q (i := 4) (listed' := #[true, true, true, true, true, false, false, false, false, false, false, false, false, false, false, false, false, false, false, false, false, false, false, false, false, false, false, false, false, false, false]) rfl rfl (by kernel_rfl) rfl (q_move (by conv=>lhs;whnf) ?_)
                  refine tn_first_q (i := 5) (listed' := #[true, true, true, true, true, true, false, false, false, false, false, false, false, false, false, false, false, false, false, false, false, false, false, false, false, false, false, false, false, false, false]) rfl rfl (by kernel_rfl) rfl (q_move (by conv=>lhs;whnf) ?_)
                  refine tn_first_q (i := 6) (listed' := #[true, true, true, true, true, true, true, false, false, false, false, false, false, false, false, false, false, false, false, false, false, false, false, false, false, false, false, false, false, false, false]) rfl rfl (by kernel_rfl) rfl (q_idx tE24 rfl rfl (by first | exact Int.natCast_nonneg _ | omega) (by exact map_get hA) rfl ?_)
                  refine tn_first_q (i := 7) (listed' := #[true, true, true, true, true, true, true, true, false, false, false, false, false, false, false, false, false, false, false, false, false, false, false, false, false, false, false, false, false, false, false]) rfl rfl (by kernel_rfl) rfl (q_load tA2 rfl ?_)
                  refine tn_first_q (i := 8) (listed' := #[true, true, true, true, true, true, true, true, true, false, false, false, false, false, false, false, false, false, false, false, false, false, false, false, false, false, false, false, false, false, false]) rfl rfl (by kernel_rfl) rfl (q_int rfl rfl ?_)
                  intro n70 hn70
                  replace hn70 := in64s hn70 b1
                  refine tn_first_q (i := 9) (listed' := #[true, true, true, true, true, true, true, true, true, true, false, false, false, false, false, false, false, false, false, false, false, false, false, false, false, false, false, false, false, false, false]) rfl rfl (by kernel_rfl) rfl (q_int rfl rfl ?_)
                  intro b71 hb71; cases b71
                  · replace hb71 := neF hb71
                    refine tn_first_q (i := 10) (listed' := #[true, true, true, true, true, true, true, true, true, true, true, false, false, false, false, false, false, false, false, false, false, false, false, false, false, false, false, false, false, false, false]) rfl rfl (by kernel_rfl) rfl (q_move (by conv=>lhs;whnf) ?_)
                    refine tn_first_q (i := 11) (listed' := #[true, true, true, true, true, true, true, true, true, true, true, true, false, false, false, false, false, false, false, false, false, false, false, false, false, false, false, false, false, false, false]) rfl rfl (by kernel_rfl) rfl (q_move (by conv=>lhs;whnf) ?_)
                    refine tn_first_q (i := 12) (listed' := #[true, true, true, true, true, true, true, true, true, true, true, true, true, false, false, false, false, false, false, false, false, false, false, false, false, false, false, false, false, false, false]) rfl rfl (by kernel_rfl) rfl (q_move (by conv=>lhs;whnf) ?_)
                    refine tn_first_q (i := 13) (listed' := #[true, true, true, true, true, true, true, true, true, true, true, true, true, true, false, false, false, false, false, false, false, false, false, false, false, false, false, false, false, false, false]) rfl rfl (by kernel_rfl) rfl (q_idx tE24 rfl rfl (by first | exact Int.natCast_nonneg _ | omega) (by exact map_get hD) rfl ?_)
                    refine tn_first_q (i := 14) (listed' := #[true, true, true, true, true, true, true, true, true, true, true, true, true, true, true, false, false, false, false, false, false, false, false, false, false, false, false, false, false, false, false]) rfl rfl (by kernel_rfl) rfl (q_load tA2 rfl ?_)
                    refine tn_first_q (i := 15) (listed' := #[true, true, true, true, true, true, true, true, true, true, true, true, true, true, true, true, false, false, false, false, false, false, false, false, false, false, false, false, false, false, false]) rfl rfl (by kernel_rfl) rfl (q_int rfl rfl ?_)
                    intro n72 hn72
                    replace hn72 := in64s hn72 b2
                    refine tn_first_q (i := 16) (listed' := #[true, true, true, true, true, true, true, true, true, true, true, true, true, true, true, true, true, false, false, false, false, false, false, false, false, false, false, false, false, false, false]) rfl rfl (by kernel_rfl) rfl (q_move (by conv=>lhs;whnf) ?_)
                    refine tn_first_q (i := 17) (listed' := #[true, true, true, true, true, true, true, true, true, true, true, true, true, true, true, true, true, true, false, false, false, false, false, false, false, false, false, false, false, false, false]) rfl rfl (by kernel_rfl) rfl (q_move (by conv=>lhs;whnf) ?_)
                    refine tn_first_q (i := 18) (listed' := #[true, true, true, true, true, true, true, true, true, true, true, true, true, true, true, true, true, true, true, false, false, false, false, false, false, false, false, false, false, false, false]) rfl rfl (by kernel_rfl) rfl (q_idxO tE24 rfl rfl rfl (by first | exact Int.natCast_nonneg _ | omega) (by first | exact Int.ofNat_lt.2 hiR | omega | (simp; omega)) rfl ?_)
                    refine tn_first_q (i := 19) (listed' := #[true, true, true, true, true, true, true, true, true, true, true, true, true, true, true, true, true, true, true, true, false, false, false, false, false, false, false, false, false, false, false]) rfl rfl (by kernel_rfl) rfl (q_loadE tA2 rfl rfl (by exact map_get hL) rfl ?_)
                    refine tn_first_q (i := 20) (listed' := #[true, true, true, true, true, true, true, true, true, true, true, true, true, true, true, true, true, true, true, true, true, false, false, false, false, false, false, false, false, false, false]) rfl rfl (by kernel_rfl) rfl (q_int rfl rfl ?_)
                    intro n73 hn73
                    replace hn73 := in64s hn73 b3
                    refine tn_first_q (i := 21) (listed' := #[true, true, true, true, true, true, true, true, true, true, true, true, true, true, true, true, true, true, true, true, true, true, false, false, false, false, false, false, false, false, false]) rfl rfl (by kernel_rfl) rfl (q_int rfl rfl ?_)
                    intro n74 hn74
                    rw [hn73] at hn74
                    replace hn74 := in64s hn74 b4
                    refine tn_first_q (i := 22) (listed' := #[true, true, true, true, true, true, true, true, true, true, true, true, true, true, true, true, true, true, true, true, true, true, true, false, false, false, false, false, false, false, false]) rfl rfl (by kernel_rfl) rfl (q_int rfl rfl ?_)
                    intro b75 hb75; cases b75
                    · replace hb75 := neF hb75
                      refine tn_first_q (i := 23) (listed' := #[true, true, true, true, true, true, true, true, true, true, true, true, true, true, true, true, true, true, true, true, true, true, true, true, false, false, false, false, false, false, false]) rfl rfl (by kernel_rfl) rfl (q_pickF rfl (by conv=>lhs;whnf) ?_)
                      refine tn_first_q (i := 24) (listed' := #[true, true, true, true, true, true, true, true, true, true, true, true, true, true, true, true, true, true, true, true, true, true, true, true, true, false, false, false, false, false, false]) rfl rfl (by kernel_rfl) rfl (q_move (by conv=>lhs;whnf) ?_)
                      refine tn_first_q (i := 25) (listed' := #[true, true, true, true, true, true, true, true, true, true, true, true, true, true, true, true, true, true, true, true, true, true, true, true, true, true, false, false, false, false, false]) rfl rfl (by kernel_rfl) rfl (q_move (by conv=>lhs;whnf) ?_)
                      refine tn_first_q (i := 26) (listed' := #[true, true, true, true, true, true, true, true, true, true, true, true, true, true, true, true, true, true, true, true, true, true, true, true, true, true, true, false, false, false, false]) rfl rfl (by kernel_rfl) rfl (q_move (by conv=>lhs;whnf) ?_)
                      refine tn_first_q (i := 27) (listed' := #[true, true, true, true, true, true, true, true, true, true, true, true, true, true, true, true, true, true, true, true, true, true, true, true, true, true, true, true, false, false, false]) rfl rfl (by kernel_rfl) rfl (q_idxO tE24 rfl rfl rfl (by first | exact Int.natCast_nonneg _ | omega) (by first | exact Int.ofNat_lt.2 hiR | omega | (simp; omega)) rfl ?_)
                      refine tn_first_q (i := 28) (listed' := #[true, true, true, true, true, true, true, true, true, true, true, true, true, true, true, true, true, true, true, true, true, true, true, true, true, true, true, true, true, false, false]) rfl rfl (by kernel_rfl) rfl (q_loadE tA2 rfl rfl (by exact map_get hL) rfl ?_)
                      refine tn_first_q (i := 29) (listed' := #[true, true, true, true, true, true, true, true, true, true, true, true, true, true, true, true, true, true, true, true, true, true, true, true, true, true, true, true, true, true, false]) rfl rfl (by kernel_rfl) rfl (q_int rfl rfl ?_)
                      intro b76 hb76; cases b76
                      · replace hb76 := dF hb76
                        refine tn_first_q (i := 30) (listed' := #[true, true, true, true, true, true, true, true, true, true, true, true, true, true, true, true, true, true, true, true, true, true, true, true, true, true, true, true, true, true, true]) rfl rfl (by kernel_rfl) rfl (q_pickF rfl (by conv=>lhs;whnf) ?_)
                        refine tn_end (by kernel_rfl) (hK69 _ ?_); clear hK69
                        refine good_condF rfl ?_
                        refine good_skip (hK68 _ ?_); clear hK68
                        refine gr rfl ?_
                        refine em rfl (by conv=>lhs;whnf) ?_
                        refine ei rfl rfl rfl ?_
                        intro n77 hn77
                        replace hn77 := in64s hn77 b5
                        refine ea rfl (by conv=>lhs;whnf) ?_
                        refine ev_nil ?_
                        clear hK23 hK59
                        refine ⟨i + 1, ?_, ?_, ?_⟩
                        · exact hiv
                        · exact Nat.sub_lt_sub_left hiv (Nat.lt_succ_self i)
                        · refine sub_weak ?_ ?_
                          · exact weakH_row (rowEq (rfl)) (weakH_none _)
                          · refine weakE_upd ?e23 ?r23 (weakE_upd ?e21 ?r21 (weakE_upd ?e19 ?r19 (weakE_upd ?e16 ?r16 (weakE_upd ?e14 ?r14 (weakE_upd ?e6 ?r6 (weakE_junk _ _))))))
                            case e6 => first | rfl | exact fI (by omega) | (simp_all)
                            case r6 => intro h hh; cases hh
                            case e14 => first | rfl | exact fI (by omega) | (simp_all)
                            case r14 => intro h hh; cases hh
                            case e16 => first | rfl | exact fI (by omega) | (simp_all)
                            case r16 => intro h hh; cases hh
                            case e19 => first | rfl | exact fI (by omega) | (simp_all)
                            case r19 => intro h hh; simp [refs] at hh; subst hh; rfl
                            case e21 => first | rfl | exact fI (by omega) | (simp_all)
                            case r21 => intro h hh; cases hh
                            case e23 => first | rfl | exact fI (by omega) | (exact fI (by rw [hn77]; rfl))
                            case r23 => intro h hh; cases hh
                      · replace hb76 := dT hb76
                        refine tn_first_q (i := 30) (listed' := #[true, true, true, true, true, true, true, true, true, true, true, true, true, true, true, true, true, true, true, true, true, true, true, true, true, true, true, true, true, true, true]) rfl rfl (by kernel_rfl) rfl (q_pickF rfl (by conv=>lhs;whnf) ?_)
                        refine tn_end (by kernel_rfl) (hK69 _ ?_); clear hK69
                        refine good_condT rfl ?_
                        refine good_seq fun K78 hK78 => ?_
                        refine gr rfl ?_
                        refine ea rfl (by conv=>lhs;whnf) ?_
                        refine ev_nil (hK78 _ ?_); clear hK78
                        refine good_ret ?_
                        repeat first|refine thenQ_ret ?_|refine blockQ_ret ?_
                        refine ret_tmp (st := _) rfl (by conv=>lhs;whnf) rfl ?_
                        clear hK23 hK59 hK68
                        first | rfl | exact absurd (q1.trans hn70.symm) (by assumption) | exact absurd ((hn72.trans q2).trans hn74.symm) (by assumption) | exact absurd q3 (Int.not_le.2 (by assumption)) | (exfalso; omega)
                    · replace hb75 := neT hb75
                      refine tn_first_q (i := 23) (listed' := #[true, true, true, true, true, true, true, true, true, true, true, true, true, true, true, true, true, true, true, true, true, true, true, true, false, false, false, false, false, false, false]) rfl rfl (by kernel_rfl) rfl (q_pickF rfl (by conv=>lhs;whnf) ?_)
                      refine tn_first_q (i := 24) (listed' := #[true, true, true, true, true, true, true, true, true, true, true, true, true, true, true, true, true, true, true, true, true, true, true, true, true, false, false, false, false, false, false]) rfl rfl (by kernel_rfl) rfl (q_move (by conv=>lhs;whnf) ?_)
                      refine tn_first_skip (i := 25) (listed' := #[true, true, true, true, true, true, true, true, true, true, true, true, true, true, true, true, true, true, true, true, true, true, true, true, true, true, false, false, false, false, false]) rfl rfl (by kernel_rfl) rfl ?_
                      refine tn_first_skip (i := 26) (listed' := #[true, true, true, true, true, true, true, true, true, true, true, true, true, true, true, true, true, true, true, true, true, true, true, true, true, true, true, false, false, false, false]) rfl rfl (by kernel_rfl) rfl ?_
                      refine tn_first_skip (i := 27) (listed' := #[true, true, true, true, true, true, true, true, true, true, true, true, true, true, true, true, true, true, true, true, true, true, true, true, true, true, true, true, false, false, false]) rfl rfl (by kernel_rfl) rfl ?_
                      refine tn_first_skip (i := 28) (listed' := #[true, true, true, true, true, true, true, true, true, true, true, true, true, true, true, true, true, true, true, true, true, true, true, true, true, true, true, true, true, false, false]) rfl rfl (by kernel_rfl) rfl ?_
                      refine tn_first_skip (i := 29) (listed' := #[true, true, true, true, true, true, true, true, true, true, true, true, true, true, true, true, true, true, true, true, true, true, true, true, true, true, true, true, true, true, false]) rfl rfl (by kernel_rfl) rfl ?_
                      refine tn_first_q (i := 30) (listed' := #[true, true, true, true, true, true, true, true, true, true, true, true, true, true, true, true, true, true, true, true, true, true, true, true, true, true, true, true, true, true, true]) rfl rfl (by kernel_rfl) rfl (q_pickT rfl (by conv=>lhs;whnf) ?_)
                      refine tn_end (by kernel_rfl) (hK69 _ ?_); clear hK69
                      refine good_condT rfl ?_
                      refine good_seq fun K79 hK79 => ?_
                      refine gr rfl ?_
                      refine ea rfl (by conv=>lhs;whnf) ?_
                      refine ev_nil (hK79 _ ?_); clear hK79
                      refine good_ret ?_
                      repeat first|refine thenQ_ret ?_|refine blockQ_ret ?_
                      refine ret_tmp (st := _) rfl (by conv=>lhs;whnf) rfl ?_
                      clear hK23 hK59 hK68
                      first | rfl | exact absurd (q1.trans hn70.symm) (by assumption) | exact absurd ((hn72.trans q2).trans hn74.symm) (by assumption) | exact absurd q3 (Int.not_le.2 (by assumption)) | (exfalso; omega)
                  · replace hb71 := neT hb71
                    refine tn_first_q (i := 10) (listed' := #[true, true, true, true, true, true, true, true, true, true, true, false, false, false, false, false, false, false, false, false, false, false, false, false, false, false, false, false, false, false, false]) rfl rfl (by kernel_rfl) rfl (q_move (by conv=>lhs;whnf) ?_)
                    refine tn_first_skip (i := 11) (listed' := #[true, true, true, true, true, true, true, true, true, true, true, true, false, false, false, false, false, false, false, false, false, false, false, false, false, false, false, false, false, false, false]) rfl rfl (by kernel_rfl) rfl ?_
                    refine tn_first_skip (i := 12) (listed' := #[true, true, true, true, true, true, true, true, true, true, true, true, true, false, false, false, false, false, false, false, false, false, false, false, false, false, false, false, false, false, false]) rfl rfl (by kernel_rfl) rfl ?_
                    refine tn_first_skip (i := 13) (listed' := #[true, true, true, true, true, true, true, true, true, true, true, true, true, true, false, false, false, false, false, false, false, false, false, false, false, false, false, false, false, false, false]) rfl rfl (by kernel_rfl) rfl ?_
                    refine tn_first_skip (i := 14) (listed' := #[true, true, true, true, true, true, true, true, true, true, true, true, true, true, true, false, false, false, false, false, false, false, false, false, false, false, false, false, false, false, false]) rfl rfl (by kernel_rfl) rfl ?_
                    refine tn_first_skip (i := 15) (listed' := #[true, true, true, true, true, true, true, true, true, true, true, true, true, true, true, true, false, false, false, false, false, false, false, false, false, false, false, false, false, false, false]) rfl rfl (by kernel_rfl) rfl ?_
                    refine tn_first_skip (i := 16) (listed' := #[true, true, true, true, true, true, true, true, true, true, true, true, true, true, true, true, true, false, false, false, false, false, false, false, false, false, false, false, false, false, false]) rfl rfl (by kernel_rfl) rfl ?_
                    refine tn_first_skip (i := 17) (listed' := #[true, true, true, true, true, true, true, true, true, true, true, true, true, true, true, true, true, true, false, false, false, false, false, false, false, false, false, false, false, false, false]) rfl rfl (by kernel_rfl) rfl ?_
                    refine tn_first_skip (i := 18) (listed' := #[true, true, true, true, true, true, true, true, true, true, true, true, true, true, true, true, true, true, true, false, false, false, false, false, false, false, false, false, false, false, false]) rfl rfl (by kernel_rfl) rfl ?_
                    refine tn_first_skip (i := 19) (listed' := #[true, true, true, true, true, true, true, true, true, true, true, true, true, true, true, true, true, true, true, true, false, false, false, false, false, false, false, false, false, false, false]) rfl rfl (by kernel_rfl) rfl ?_
                    refine tn_first_skip (i := 20) (listed' := #[true, true, true, true, true, true, true, true, true, true, true, true, true, true, true, true, true, true, true, true, true, false, false, false, false, false, false, false, false, false, false]) rfl rfl (by kernel_rfl) rfl ?_
                    refine tn_first_skip (i := 21) (listed' := #[true, true, true, true, true, true, true, true, true, true, true, true, true, true, true, true, true, true, true, true, true, true, false, false, false, false, false, false, false, false, false]) rfl rfl (by kernel_rfl) rfl ?_
                    refine tn_first_skip (i := 22) (listed' := #[true, true, true, true, true, true, true, true, true, true, true, true, true, true, true, true, true, true, true, true, true, true, true, false, false, false, false, false, false, false, false]) rfl rfl (by kernel_rfl) rfl ?_
                    refine tn_first_q (i := 23) (listed' := #[true, true, true, true, true, true, true, true, true, true, true, true, true, true, true, true, true, true, true, true, true, true, true, true, false, false, false, false, false, false, false]) rfl rfl (by kernel_rfl) rfl (q_pickT rfl (by conv=>lhs;whnf) ?_)
                    refine tn_first_q (i := 24) (listed' := #[true, true, true, true, true, true, true, true, true, true, true, true, true, true, true, true, true, true, true, true, true, true, true, true, true, false, false, false, false, false, false]) rfl rfl (by kernel_rfl) rfl (q_move (by conv=>lhs;whnf) ?_)
                    refine tn_first_skip (i := 25) (listed' := #[true, true, true, true, true, true, true, true, true, true, true, true, true, true, true, true, true, true, true, true, true, true, true, true, true, true, false, false, false, false, false]) rfl rfl (by kernel_rfl) rfl ?_
                    refine tn_first_skip (i := 26) (listed' := #[true, true, true, true, true, true, true, true, true, true, true, true, true, true, true, true, true, true, true, true, true, true, true, true, true, true, true, false, false, false, false]) rfl rfl (by kernel_rfl) rfl ?_
                    refine tn_first_skip (i := 27) (listed' := #[true, true, true, true, true, true, true, true, true, true, true, true, true, true, true, true, true, true, true, true, true, true, true, true, true, true, true, true, false, false, false]) rfl rfl (by kernel_rfl) rfl ?_
                    refine tn_first_skip (i := 28) (listed' := #[true, true, true, true, true, true, true, true, true, true, true, true, true, true, true, true, true, true, true, true, true, true, true, true, true, true, true, true, true, false, false]) rfl rfl (by kernel_rfl) rfl ?_
                    refine tn_first_skip (i := 29) (listed' := #[true, true, true, true, true, true, true, true, true, true, true, true, true, true, true, true, true, true, true, true, true, true, true, true, true, true, true, true, true, true, false]) rfl rfl (by kernel_rfl) rfl ?_
                    refine tn_first_q (i := 30) (listed' := #[true, true, true, true, true, true, true, true, true, true, true, true, true, true, true, true, true, true, true, true, true, true, true, true, true, true, true, true, true, true, true]) rfl rfl (by kernel_rfl) rfl (q_pickT rfl (by conv=>lhs;whnf) ?_)
                    refine tn_end (by kernel_rfl) (hK69 _ ?_); clear hK69
                    refine good_condT rfl ?_
                    refine good_seq fun K80 hK80 => ?_
                    refine gr rfl ?_
                    refine ea rfl (by conv=>lhs;whnf) ?_
                    refine ev_nil (hK80 _ ?_); clear hK80
                    refine good_ret ?_
                    repeat first|refine thenQ_ret ?_|refine blockQ_ret ?_
                    refine ret_tmp (st := _) rfl (by conv=>lhs;whnf) rfl ?_
                    clear hK23 hK59 hK68
                    first | rfl | exact absurd (q1.trans hn70.symm) (by assumption) | exact absurd ((hn72.trans q2).trans hn74.symm) (by assumption) | exact absurd q3 (Int.not_le.2 (by assumption)) | (exfalso; omega)
            · refine good_weak (st' := { env := upd (upd (upd (upd (upd (upd (upd (upd ((fun _ => .junk)) 5 (.ptr 5 0)) 6 (.s (.int .i64 (n9)))) 8 (.lst 1 ((flT n6 p6 n9.toNat w11).map ci))) 10 (.s (.int .i64 sm))) 14 (.lst 1 ((prT n6 p6 n9.toNat w11 500000).map ci))) 15 (.s (.int .i64 (n28)))) 16 (.lst 1 ((prT n6 p6 n9.toNat w11 500123).map ci))) 17 (.s (.int .i64 (n30))), H := upd ((fun _ => none)) 5 (some (.box 27 [.lst 1 (n6.map ci), .lst 6 (p6.map piA)])) }) ?_ ?_
              · refine sub_weak ?_ ?_
                · exact weakH_box (boxEq (rfl)) rfl (weakH_none _)
                · refine weakE_upd ?e17 ?r17 (weakE_upd ?e16 ?r16 (weakE_upd ?e15 ?r15 (weakE_upd ?e14 ?r14 (weakE_upd ?e10 ?r10 (weakE_upd ?e8 ?r8 (weakE_upd ?e6 ?r6 (weakE_upd ?e5 ?r5 (weakE_junk _ _))))))))
                  case e5 => first | rfl | exact fI (by omega) | (rfl)
                  case r5 => intro h hh; simp [refs] at hh; subst hh; rfl
                  case e6 => first | rfl | exact fI (by omega) | (rfl)
                  case r6 => intro h hh; cases hh
                  case e8 => first | rfl | exact fI (by omega) | (rfl)
                  case r8 => intro h hh; cases hh
                  case e10 => first | rfl | exact fI (by omega) | (rfl)
                  case r10 => intro h hh; cases hh
                  case e14 => first | rfl | exact fI (by omega) | (rfl)
                  case r14 => intro h hh; cases hh
                  case e15 => first | rfl | exact fI (by omega) | (rfl)
                  case r15 => intro h hh; cases hh
                  case e16 => first | rfl | exact fI (by omega) | (rfl)
                  case r16 => intro h hh; cases hh
                  case e17 => first | rfl | exact fI (by omega) | (rfl)
                  case r17 => intro h hh; cases hh
              refine good_any 9 (listed := #[false, false, false, false, false, false, false, false, false]) rfl rfl hmix rfl ?_
              refine tn_first_q (i := 0) (listed' := #[true, false, false, false, false, false, false, false, false]) rfl rfl (by kernel_rfl) rfl (q_fieldAddrP fO27_0 rfl rfl ?_)
              refine tn_first_q (i := 4) (listed' := #[true, false, false, false, true, false, false, false, false]) rfl rfl (by kernel_rfl) rfl (q_fieldAddrP fO27_1 rfl rfl ?_)
              refine tn_step [1, 5, 7] (by kernel_rfl) rfl ?_
              refine ⟨?_, ?_, ?_, trivial⟩
              · refine tn_q (listed' := #[true, true, false, false, true, false, false, false, false]) rfl rfl rfl (q_load tA24 rfl ?_)
                refine tn_step [2, 5, 7] (by kernel_rfl) rfl ?_
                refine ⟨?_, ?_, ?_, trivial⟩
                · refine tn_q (listed' := #[true, true, true, false, true, false, false, false, false]) rfl rfl rfl (q_len tEs24 rfl ?_)
                  intro n81 hn81
                  try simp only [List.length_map] at hn81
                  refine tn_step [3, 5, 7] (by kernel_rfl) rfl ?_
                  refine ⟨?_, ?_, ?_, trivial⟩
                  · refine tn_k (listed' := #[true, true, true, true, true, false, false, false, false]) rfl rfl rfl rfl (k_make tE24 rfl rfl zA2 tBy2 rfl (by omega) (by omega) (by omega) rfl (by show _ = n6.length; omega) ?_)
                    refine tn_step [5, 7] (by kernel_rfl) rfl ?_
                    refine ⟨?_, ?_, trivial⟩
                    · refine tn_q (listed' := #[true, true, true, true, true, true, false, false, false]) rfl rfl rfl (q_load tA25 rfl ?_)
                      refine tn_step [6, 7] (by kernel_rfl) rfl ?_
                      refine ⟨?_, ?_, trivial⟩
                      · refine tn_k (listed' := #[true, true, true, true, true, true, true, false, false]) rfl rfl rfl rfl (k_build zA27 pl27 (rfl) ?_)
                        refine tn_step [7] (by kernel_rfl) rfl ?_
                        refine ⟨?_, trivial⟩
                        refine tn_k (listed' := #[true, true, true, true, true, true, true, true, false]) rfl rfl rfl rfl (k_alloc zA27 rfl ?_)
                        refine tn_step [8] (by kernel_rfl) rfl ?_
                        refine ⟨?_, trivial⟩
                        refine tn_k (listed' := #[true, true, true, true, true, true, true, true, true]) rfl rfl rfl rfl (k_store sz27 rfl (by conv=>lhs;whnf) rfl rfl rfl (Nat.le_of_ble_eq_true rfl) rfl ?_)
                        refine tn_end (by kernel_rfl) (hK31 _ ?_); clear hK31
                        clear hK23
                        refine sub_weak ?_ ?_
                        · exact weakH_box (boxEq (rfl)) rfl (weakH_boxR (boxEq (rfl)) rfl (weakH_row (rowEq (by show List.replicate _ _ = List.map ci (List.replicate _ 0); rw [List.map_replicate]; rfl)) (weakH_none _)))
                        · refine weakE_upd ?e18 ?r18 (weakE_upd ?e17 ?r17 (weakE_upd ?e16 ?r16 (weakE_upd ?e15 ?r15 (weakE_upd ?e14 ?r14 (weakE_upd ?e10 ?r10 (weakE_upd ?e8 ?r8 (weakE_upd ?e6 ?r6 (weakE_upd ?e5 ?r5 (weakE_junk _ _)))))))))
                          case e5 => first | rfl | exact fI (by omega) | (rfl)
                          case r5 => intro h hh; simp [refs] at hh; subst hh; rfl
                          case e6 => first | rfl | exact fI (by omega) | (rfl)
                          case r6 => intro h hh; cases hh
                          case e8 => first | rfl | exact fI (by omega) | (rfl)
                          case r8 => intro h hh; cases hh
                          case e10 => first | rfl | exact fI (by omega) | (rfl)
                          case r10 => intro h hh; cases hh
                          case e14 => first | rfl | exact fI (by omega) | (rfl)
                          case r14 => intro h hh; cases hh
                          case e15 => first | rfl | exact fI (by omega) | (rfl)
                          case r15 => intro h hh; cases hh
                          case e16 => first | rfl | exact fI (by omega) | (rfl)
                          case r16 => intro h hh; cases hh
                          case e17 => first | rfl | exact fI (by omega) | (rfl)
                          case r17 => intro h hh; cases hh
                          case e18 => first | rfl | exact fI (by omega) | (rfl)
                          case r18 => intro h hh; simp [refs] at hh; subst hh; rfl
                      · refine tn_k (listed' := #[true, true, true, true, true, true, false, true, false]) rfl rfl rfl rfl (k_alloc zA27 rfl ?_)
                        refine tn_step [6] (by kernel_rfl) rfl ?_
                        refine ⟨?_, trivial⟩
                        refine tn_k (listed' := #[true, true, true, true, true, true, true, true, false]) rfl rfl rfl rfl (k_build zA27 pl27 (rfl) ?_)
                        refine tn_step [8] (by kernel_rfl) rfl ?_
                        refine ⟨?_, trivial⟩
                        refine tn_k (listed' := #[true, true, true, true, true, true, true, true, true]) rfl rfl rfl rfl (k_store sz27 rfl (by conv=>lhs;whnf) rfl rfl rfl (Nat.le_of_ble_eq_true rfl) rfl ?_)
                        refine tn_end (by kernel_rfl) (hK31 _ ?_); clear hK31
                        clear hK23
                        refine sub_weak ?_ ?_
                        · exact weakH_box (boxEq (rfl)) rfl (weakH_boxR (boxEq (rfl)) rfl (weakH_row (rowEq (by show List.replicate _ _ = List.map ci (List.replicate _ 0); rw [List.map_replicate]; rfl)) (weakH_none _)))
                        · refine weakE_upd ?e18 ?r18 (weakE_upd ?e17 ?r17 (weakE_upd ?e16 ?r16 (weakE_upd ?e15 ?r15 (weakE_upd ?e14 ?r14 (weakE_upd ?e10 ?r10 (weakE_upd ?e8 ?r8 (weakE_upd ?e6 ?r6 (weakE_upd ?e5 ?r5 (weakE_junk _ _)))))))))
                          case e5 => first | rfl | exact fI (by omega) | (rfl)
                          case r5 => intro h hh; simp [refs] at hh; subst hh; rfl
                          case e6 => first | rfl | exact fI (by omega) | (rfl)
                          case r6 => intro h hh; cases hh
                          case e8 => first | rfl | exact fI (by omega) | (rfl)
                          case r8 => intro h hh; cases hh
                          case e10 => first | rfl | exact fI (by omega) | (rfl)
                          case r10 => intro h hh; cases hh
                          case e14 => first | rfl | exact fI (by omega) | (rfl)
                          case r14 => intro h hh; cases hh
                          case e15 => first | rfl | exact fI (by omega) | (rfl)
                          case r15 => intro h hh; cases hh
                          case e16 => first | rfl | exact fI (by omega) | (rfl)
                          case r16 => intro h hh; cases hh
                          case e17 => first | rfl | exact fI (by omega) | (rfl)
                          case r17 => intro h hh; cases hh
                          case e18 => first | rfl | exact fI (by omega) | (rfl)
                          case r18 => intro h hh; simp [refs] at hh; subst hh; rfl
                    · refine tn_k (listed' := #[true, true, true, true, true, false, false, true, false]) rfl rfl rfl rfl (k_alloc zA27 rfl ?_)
                      refine tn_first_q (i := 5) (listed' := #[true, true, true, true, true, true, false, true, false]) rfl rfl (by kernel_rfl) rfl (q_load tA25 rfl ?_)
                      refine tn_step [6] (by kernel_rfl) rfl ?_
                      refine ⟨?_, trivial⟩
                      refine tn_k (listed' := #[true, true, true, true, true, true, true, true, false]) rfl rfl rfl rfl (k_build zA27 pl27 (rfl) ?_)
                      refine tn_step [8] (by kernel_rfl) rfl ?_
                      refine ⟨?_, trivial⟩
                      refine tn_k (listed' := #[true, true, true, true, true, true, true, true, true]) rfl rfl rfl rfl (k_store sz27 rfl (by conv=>lhs;whnf) rfl rfl rfl (Nat.le_of_ble_eq_true rfl) rfl ?_)
                      refine tn_end (by kernel_rfl) (hK31 _ ?_); clear hK31
                      clear hK23
                      refine sub_weak ?_ ?_
                      · exact weakH_box (boxEq (rfl)) rfl (weakH_boxR (boxEq (rfl)) rfl (weakH_row (rowEq (by show List.replicate _ _ = List.map ci (List.replicate _ 0); rw [List.map_replicate]; rfl)) (weakH_none _)))
                      · refine weakE_upd ?e18 ?r18 (weakE_upd ?e17 ?r17 (weakE_upd ?e16 ?r16 (weakE_upd ?e15 ?r15 (weakE_upd ?e14 ?r14 (weakE_upd ?e10 ?r10 (weakE_upd ?e8 ?r8 (weakE_upd ?e6 ?r6 (weakE_upd ?e5 ?r5 (weakE_junk _ _)))))))))
                        case e5 => first | rfl | exact fI (by omega) | (rfl)
                        case r5 => intro h hh; simp [refs] at hh; subst hh; rfl
                        case e6 => first | rfl | exact fI (by omega) | (rfl)
                        case r6 => intro h hh; cases hh
                        case e8 => first | rfl | exact fI (by omega) | (rfl)
                        case r8 => intro h hh; cases hh
                        case e10 => first | rfl | exact fI (by omega) | (rfl)
                        case r10 => intro h hh; cases hh
                        case e14 => first | rfl | exact fI (by omega) | (rfl)
                        case r14 => intro h hh; cases hh
                        case e15 => first | rfl | exact fI (by omega) | (rfl)
                        case r15 => intro h hh; cases hh
                        case e16 => first | rfl | exact fI (by omega) | (rfl)
                        case r16 => intro h hh; cases hh
                        case e17 => first | rfl | exact fI (by omega) | (rfl)
                        case r17 => intro h hh; cases hh
                        case e18 => first | rfl | exact fI (by omega) | (rfl)
                        case r18 => intro h hh; simp [refs] at hh; subst hh; rfl
                  · refine tn_q (listed' := #[true, true, true, false, true, true, false, false, false]) rfl rfl rfl (q_load tA25 rfl ?_)
                    refine tn_step [3, 7] (by kernel_rfl) rfl ?_
                    refine ⟨?_, ?_, trivial⟩
                    · refine tn_k (listed' := #[true, true, true, true, true, true, false, false, false]) rfl rfl rfl rfl (k_make tE24 rfl rfl zA2 tBy2 rfl (by omega) (by omega) (by omega) rfl (by show _ = n6.length; omega) ?_)
                      refine tn_step [6, 7] (by kernel_rfl) rfl ?_
                      refine ⟨?_, ?_, trivial⟩
                      · refine tn_k (listed' := #[true, true, true, true, true, true, true, false, false]) rfl rfl rfl rfl (k_build zA27 pl27 (rfl) ?_)
                        refine tn_step [7] (by kernel_rfl) rfl ?_
                        refine ⟨?_, trivial⟩
                        refine tn_k (listed' := #[true, true, true, true, true, true, true, true, false]) rfl rfl rfl rfl (k_alloc zA27 rfl ?_)
                        refine tn_step [8] (by kernel_rfl) rfl ?_
                        refine ⟨?_, trivial⟩
                        refine tn_k (listed' := #[true, true, true, true, true, true, true, true, true]) rfl rfl rfl rfl (k_store sz27 rfl (by conv=>lhs;whnf) rfl rfl rfl (Nat.le_of_ble_eq_true rfl) rfl ?_)
                        refine tn_end (by kernel_rfl) (hK31 _ ?_); clear hK31
                        clear hK23
                        refine sub_weak ?_ ?_
                        · exact weakH_box (boxEq (rfl)) rfl (weakH_boxR (boxEq (rfl)) rfl (weakH_row (rowEq (by show List.replicate _ _ = List.map ci (List.replicate _ 0); rw [List.map_replicate]; rfl)) (weakH_none _)))
                        · refine weakE_upd ?e18 ?r18 (weakE_upd ?e17 ?r17 (weakE_upd ?e16 ?r16 (weakE_upd ?e15 ?r15 (weakE_upd ?e14 ?r14 (weakE_upd ?e10 ?r10 (weakE_upd ?e8 ?r8 (weakE_upd ?e6 ?r6 (weakE_upd ?e5 ?r5 (weakE_junk _ _)))))))))
                          case e5 => first | rfl | exact fI (by omega) | (rfl)
                          case r5 => intro h hh; simp [refs] at hh; subst hh; rfl
                          case e6 => first | rfl | exact fI (by omega) | (rfl)
                          case r6 => intro h hh; cases hh
                          case e8 => first | rfl | exact fI (by omega) | (rfl)
                          case r8 => intro h hh; cases hh
                          case e10 => first | rfl | exact fI (by omega) | (rfl)
                          case r10 => intro h hh; cases hh
                          case e14 => first | rfl | exact fI (by omega) | (rfl)
                          case r14 => intro h hh; cases hh
                          case e15 => first | rfl | exact fI (by omega) | (rfl)
                          case r15 => intro h hh; cases hh
                          case e16 => first | rfl | exact fI (by omega) | (rfl)
                          case r16 => intro h hh; cases hh
                          case e17 => first | rfl | exact fI (by omega) | (rfl)
                          case r17 => intro h hh; cases hh
                          case e18 => first | rfl | exact fI (by omega) | (rfl)
                          case r18 => intro h hh; simp [refs] at hh; subst hh; rfl
                      · refine tn_k (listed' := #[true, true, true, true, true, true, false, true, false]) rfl rfl rfl rfl (k_alloc zA27 rfl ?_)
                        refine tn_step [6] (by kernel_rfl) rfl ?_
                        refine ⟨?_, trivial⟩
                        refine tn_k (listed' := #[true, true, true, true, true, true, true, true, false]) rfl rfl rfl rfl (k_build zA27 pl27 (rfl) ?_)
                        refine tn_step [8] (by kernel_rfl) rfl ?_
                        refine ⟨?_, trivial⟩
                        refine tn_k (listed' := #[true, true, true, true, true, true, true, true, true]) rfl rfl rfl rfl (k_store sz27 rfl (by conv=>lhs;whnf) rfl rfl rfl (Nat.le_of_ble_eq_true rfl) rfl ?_)
                        refine tn_end (by kernel_rfl) (hK31 _ ?_); clear hK31
                        clear hK23
                        refine sub_weak ?_ ?_
                        · exact weakH_box (boxEq (rfl)) rfl (weakH_boxR (boxEq (rfl)) rfl (weakH_row (rowEq (by show List.replicate _ _ = List.map ci (List.replicate _ 0); rw [List.map_replicate]; rfl)) (weakH_none _)))
                        · refine weakE_upd ?e18 ?r18 (weakE_upd ?e17 ?r17 (weakE_upd ?e16 ?r16 (weakE_upd ?e15 ?r15 (weakE_upd ?e14 ?r14 (weakE_upd ?e10 ?r10 (weakE_upd ?e8 ?r8 (weakE_upd ?e6 ?r6 (weakE_upd ?e5 ?r5 (weakE_junk _ _)))))))))
                          case e5 => first | rfl | exact fI (by omega) | (rfl)
                          case r5 => intro h hh; simp [refs] at hh; subst hh; rfl
                          case e6 => first | rfl | exact fI (by omega) | (rfl)
                          case r6 => intro h hh; cases hh
                          case e8 => first | rfl | exact fI (by omega) | (rfl)
                          case r8 => intro h hh; cases hh
                          case e10 => first | rfl | exact fI (by omega) | (rfl)
                          case r10 => intro h hh; cases hh
                          case e14 => first | rfl | exact fI (by omega) | (rfl)
                          case r14 => intro h hh; cases hh
                          case e15 => first | rfl | exact fI (by omega) | (rfl)
                          case r15 => intro h hh; cases hh
                          case e16 => first | rfl | exact fI (by omega) | (rfl)
                          case r16 => intro h hh; cases hh
                          case e17 => first | rfl | exact fI (by omega) | (rfl)
                          case r17 => intro h hh; cases hh
                          case e18 => first | rfl | exact fI (by omega) | (rfl)
                          case r18 => intro h hh; simp [refs] at hh; subst hh; rfl
                    · refine tn_k (listed' := #[true, true, true, false, true, true, false, true, false]) rfl rfl rfl rfl (k_alloc zA27 rfl ?_)
                      refine tn_step [3] (by kernel_rfl) rfl ?_
                      refine ⟨?_, trivial⟩
                      refine tn_k (listed' := #[true, true, true, true, true, true, false, true, false]) rfl rfl rfl rfl (k_make tE24 rfl rfl zA2 tBy2 rfl (by omega) (by omega) (by omega) rfl (by show _ = n6.length; omega) ?_)
                      refine tn_step [6] (by kernel_rfl) rfl ?_
                      refine ⟨?_, trivial⟩
                      refine tn_k (listed' := #[true, true, true, true, true, true, true, true, false]) rfl rfl rfl rfl (k_build zA27 pl27 (rfl) ?_)
                      refine tn_step [8] (by kernel_rfl) rfl ?_
                      refine ⟨?_, trivial⟩
                      refine tn_k (listed' := #[true, true, true, true, true, true, true, true, true]) rfl rfl rfl rfl (k_store sz27 rfl (by conv=>lhs;whnf) rfl rfl rfl (Nat.le_of_ble_eq_true rfl) rfl ?_)
                      refine tn_end (by kernel_rfl) (hK31 _ ?_); clear hK31
                      clear hK23
                      refine sub_weak ?_ ?_
                      · exact weakH_box (boxEq (rfl)) rfl (weakH_boxR (boxEq (rfl)) rfl (weakH_row (rowEq (by show List.replicate _ _ = List.map ci (List.replicate _ 0); rw [List.map_replicate]; rfl)) (weakH_none _)))
                      · refine weakE_upd ?e18 ?r18 (weakE_upd ?e17 ?r17 (weakE_upd ?e16 ?r16 (weakE_upd ?e15 ?r15 (weakE_upd ?e14 ?r14 (weakE_upd ?e10 ?r10 (weakE_upd ?e8 ?r8 (weakE_upd ?e6 ?r6 (weakE_upd ?e5 ?r5 (weakE_junk _ _)))))))))
                        case e5 => first | rfl | exact fI (by omega) | (rfl)
                        case r5 => intro h hh; simp [refs] at hh; subst hh; rfl
                        case e6 => first | rfl | exact fI (by omega) | (rfl)
                        case r6 => intro h hh; cases hh
                        case e8 => first | rfl | exact fI (by omega) | (rfl)
                        case r8 => intro h hh; cases hh
                        case e10 => first | rfl | exact fI (by omega) | (rfl)
                        case r10 => intro h hh; cases hh
                        case e14 => first | rfl | exact fI (by omega) | (rfl)
                        case r14 => intro h hh; cases hh
                        case e15 => first | rfl | exact fI (by omega) | (rfl)
                        case r15 => intro h hh; cases hh
                        case e16 => first | rfl | exact fI (by omega) | (rfl)
                        case r16 => intro h hh; cases hh
                        case e17 => first | rfl | exact fI (by omega) | (rfl)
                        case r17 => intro h hh; cases hh
                        case e18 => first | rfl | exact fI (by omega) | (rfl)
                        case r18 => intro h hh; simp [refs] at hh; subst hh; rfl
                  · refine tn_k (listed' := #[true, true, true, false, true, false, false, true, false]) rfl rfl rfl rfl (k_alloc zA27 rfl ?_)
                    refine tn_step [3, 5] (by kernel_rfl) rfl ?_
                    refine ⟨?_, ?_, trivial⟩
                    · refine tn_k (listed' := #[true, true, true, true, true, false, false, true, false]) rfl rfl rfl rfl (k_make tE24 rfl rfl zA2 tBy2 rfl (by omega) (by omega) (by omega) rfl (by show _ = n6.length; omega) ?_)
                      refine tn_first_q (i := 5) (listed' := #[true, true, true, true, true, true, false, true, false]) rfl rfl (by kernel_rfl) rfl (q_load tA25 rfl ?_)
                      refine tn_step [6] (by kernel_rfl) rfl ?_
                      refine ⟨?_, trivial⟩
                      refine tn_k (listed' := #[true, true, true, true, true, true, true, true, false]) rfl rfl rfl rfl (k_build zA27 pl27 (rfl) ?_)
                      refine tn_step [8] (by kernel_rfl) rfl ?_
                      refine ⟨?_, trivial⟩
                      refine tn_k (listed' := #[true, true, true, true, true, true, true, true, true]) rfl rfl rfl rfl (k_store sz27 rfl (by conv=>lhs;whnf) rfl rfl rfl (Nat.le_of_ble_eq_true rfl) rfl ?_)
                      refine tn_end (by kernel_rfl) (hK31 _ ?_); clear hK31
                      clear hK23
                      refine sub_weak ?_ ?_
                      · exact weakH_box (boxEq (rfl)) rfl (weakH_boxR (boxEq (rfl)) rfl (weakH_row (rowEq (by show List.replicate _ _ = List.map ci (List.replicate _ 0); rw [List.map_replicate]; rfl)) (weakH_none _)))
                      · refine weakE_upd ?e18 ?r18 (weakE_upd ?e17 ?r17 (weakE_upd ?e16 ?r16 (weakE_upd ?e15 ?r15 (weakE_upd ?e14 ?r14 (weakE_upd ?e10 ?r10 (weakE_upd ?e8 ?r8 (weakE_upd ?e6 ?r6 (weakE_upd ?e5 ?r5 (weakE_junk _ _)))))))))
                        case e5 => first | rfl | exact fI (by omega) | (rfl)
                        case r5 => intro h hh; simp [refs] at hh; subst hh; rfl
                        case e6 => first | rfl | exact fI (by omega) | (rfl)
                        case r6 => intro h hh; cases hh
                        case e8 => first | rfl | exact fI (by omega) | (rfl)
                        case r8 => intro h hh; cases hh
                        case e10 => first | rfl | exact fI (by omega) | (rfl)
                        case r10 => intro h hh; cases hh
                        case e14 => first | rfl | exact fI (by omega) | (rfl)
                        case r14 => intro h hh; cases hh
                        case e15 => first | rfl | exact fI (by omega) | (rfl)
                        case r15 => intro h hh; cases hh
                        case e16 => first | rfl | exact fI (by omega) | (rfl)
                        case r16 => intro h hh; cases hh
                        case e17 => first | rfl | exact fI (by omega) | (rfl)
                        case r17 => intro h hh; cases hh
                        case e18 => first | rfl | exact fI (by omega) | (rfl)
                        case r18 => intro h hh; simp [refs] at hh; subst hh; rfl
                    · refine tn_q (listed' := #[true, true, true, false, true, true, false, true, false]) rfl rfl rfl (q_load tA25 rfl ?_)
                      refine tn_step [3] (by kernel_rfl) rfl ?_
                      refine ⟨?_, trivial⟩
                      refine tn_k (listed' := #[true, true, true, true, true, true, false, true, false]) rfl rfl rfl rfl (k_make tE24 rfl rfl zA2 tBy2 rfl (by omega) (by omega) (by omega) rfl (by show _ = n6.length; omega) ?_)
                      refine tn_step [6] (by kernel_rfl) rfl ?_
                      refine ⟨?_, trivial⟩
                      refine tn_k (listed' := #[true, true, true, true, true, true, true, true, false]) rfl rfl rfl rfl (k_build zA27 pl27 (rfl) ?_)
                      refine tn_step [8] (by kernel_rfl) rfl ?_
                      refine ⟨?_, trivial⟩
                      refine tn_k (listed' := #[true, true, true, true, true, true, true, true, true]) rfl rfl rfl rfl (k_store sz27 rfl (by conv=>lhs;whnf) rfl rfl rfl (Nat.le_of_ble_eq_true rfl) rfl ?_)
                      refine tn_end (by kernel_rfl) (hK31 _ ?_); clear hK31
                      clear hK23
                      refine sub_weak ?_ ?_
                      · exact weakH_box (boxEq (rfl)) rfl (weakH_boxR (boxEq (rfl)) rfl (weakH_row (rowEq (by show List.replicate _ _ = List.map ci (List.replicate _ 0); rw [List.map_replicate]; rfl)) (weakH_none _)))
                      · refine weakE_upd ?e18 ?r18 (weakE_upd ?e17 ?r17 (weakE_upd ?e16 ?r16 (weakE_upd ?e15 ?r15 (weakE_upd ?e14 ?r14 (weakE_upd ?e10 ?r10 (weakE_upd ?e8 ?r8 (weakE_upd ?e6 ?r6 (weakE_upd ?e5 ?r5 (weakE_junk _ _)))))))))
                        case e5 => first | rfl | exact fI (by omega) | (rfl)
                        case r5 => intro h hh; simp [refs] at hh; subst hh; rfl
                        case e6 => first | rfl | exact fI (by omega) | (rfl)
                        case r6 => intro h hh; cases hh
                        case e8 => first | rfl | exact fI (by omega) | (rfl)
                        case r8 => intro h hh; cases hh
                        case e10 => first | rfl | exact fI (by omega) | (rfl)
                        case r10 => intro h hh; cases hh
                        case e14 => first | rfl | exact fI (by omega) | (rfl)
                        case r14 => intro h hh; cases hh
                        case e15 => first | rfl | exact fI (by omega) | (rfl)
                        case r15 => intro h hh; cases hh
                        case e16 => first | rfl | exact fI (by omega) | (rfl)
                        case r16 => intro h hh; cases hh
                        case e17 => first | rfl | exact fI (by omega) | (rfl)
                        case r17 => intro h hh; cases hh
                        case e18 => first | rfl | exact fI (by omega) | (rfl)
                        case r18 => intro h hh; simp [refs] at hh; subst hh; rfl
                · refine tn_q (listed' := #[true, true, false, false, true, true, false, false, false]) rfl rfl rfl (q_load tA25 rfl ?_)
                  refine tn_step [2, 7] (by kernel_rfl) rfl ?_
                  refine ⟨?_, ?_, trivial⟩
                  · refine tn_q (listed' := #[true, true, true, false, true, true, false, false, false]) rfl rfl rfl (q_len tEs24 rfl ?_)
                    intro n82 hn82
                    try simp only [List.length_map] at hn82
                    refine tn_step [3, 7] (by kernel_rfl) rfl ?_
                    refine ⟨?_, ?_, trivial⟩
                    · refine tn_k (listed' := #[true, true, true, true, true, true, false, false, false]) rfl rfl rfl rfl (k_make tE24 rfl rfl zA2 tBy2 rfl (by omega) (by omega) (by omega) rfl (by show _ = n6.length; omega) ?_)
                      refine tn_step [6, 7] (by kernel_rfl) rfl ?_
                      refine ⟨?_, ?_, trivial⟩
                      · refine tn_k (listed' := #[true, true, true, true, true, true, true, false, false]) rfl rfl rfl rfl (k_build zA27 pl27 (rfl) ?_)
                        refine tn_step [7] (by kernel_rfl) rfl ?_
                        refine ⟨?_, trivial⟩
                        refine tn_k (listed' := #[true, true, true, true, true, true, true, true, false]) rfl rfl rfl rfl (k_alloc zA27 rfl ?_)
                        refine tn_step [8] (by kernel_rfl) rfl ?_
                        refine ⟨?_, trivial⟩
                        refine tn_k (listed' := #[true, true, true, true, true, true, true, true, true]) rfl rfl rfl rfl (k_store sz27 rfl (by conv=>lhs;whnf) rfl rfl rfl (Nat.le_of_ble_eq_true rfl) rfl ?_)
                        refine tn_end (by kernel_rfl) (hK31 _ ?_); clear hK31
                        clear hK23
                        refine sub_weak ?_ ?_
                        · exact weakH_box (boxEq (rfl)) rfl (weakH_boxR (boxEq (rfl)) rfl (weakH_row (rowEq (by show List.replicate _ _ = List.map ci (List.replicate _ 0); rw [List.map_replicate]; rfl)) (weakH_none _)))
                        · refine weakE_upd ?e18 ?r18 (weakE_upd ?e17 ?r17 (weakE_upd ?e16 ?r16 (weakE_upd ?e15 ?r15 (weakE_upd ?e14 ?r14 (weakE_upd ?e10 ?r10 (weakE_upd ?e8 ?r8 (weakE_upd ?e6 ?r6 (weakE_upd ?e5 ?r5 (weakE_junk _ _)))))))))
                          case e5 => first | rfl | exact fI (by omega) | (rfl)
                          case r5 => intro h hh; simp [refs] at hh; subst hh; rfl
                          case e6 => first | rfl | exact fI (by omega) | (rfl)
                          case r6 => intro h hh; cases hh
                          case e8 => first | rfl | exact fI (by omega) | (rfl)
                          case r8 => intro h hh; cases hh
                          case e10 => first | rfl | exact fI (by omega) | (rfl)
                          case r10 => intro h hh; cases hh
                          case e14 => first | rfl | exact fI (by omega) | (rfl)
                          case r14 => intro h hh; cases hh
                          case e15 => first | rfl | exact fI (by omega) | (rfl)
                          case r15 => intro h hh; cases hh
                          case e16 => first | rfl | exact fI (by omega) | (rfl)
                          case r16 => intro h hh; cases hh
                          case e17 => first | rfl | exact fI (by omega) | (rfl)
                          case r17 => intro h hh; cases hh
                          case e18 => first | rfl | exact fI (by omega) | (rfl)
                          case r18 => intro h hh; simp [refs] at hh; subst hh; rfl
                      · refine tn_k (listed' := #[true, true, true, true, true, true, false, true, false]) rfl rfl rfl rfl (k_alloc zA27 rfl ?_)
                        refine tn_step [6] (by kernel_rfl) rfl ?_
                        refine ⟨?_, trivial⟩
                        refine tn_k (listed' := #[true, true, true, true, true, true, true, true, false]) rfl rfl rfl rfl (k_build zA27 pl27 (rfl) ?_)
                        refine tn_step [8] (by kernel_rfl) rfl ?_
                        refine ⟨?_, trivial⟩
                        refine tn_k (listed' := #[true, true, true, true, true, true, true, true, true]) rfl rfl rfl rfl (k_store sz27 rfl (by conv=>lhs;whnf) rfl rfl rfl (Nat.le_of_ble_eq_true rfl) rfl ?_)
                        refine tn_end (by kernel_rfl) (hK31 _ ?_); clear hK31
                        clear hK23
                        refine sub_weak ?_ ?_
                        · exact weakH_box (boxEq (rfl)) rfl (weakH_boxR (boxEq (rfl)) rfl (weakH_row (rowEq (by show List.replicate _ _ = List.map ci (List.replicate _ 0); rw [List.map_replicate]; rfl)) (weakH_none _)))
                        · refine weakE_upd ?e18 ?r18 (weakE_upd ?e17 ?r17 (weakE_upd ?e16 ?r16 (weakE_upd ?e15 ?r15 (weakE_upd ?e14 ?r14 (weakE_upd ?e10 ?r10 (weakE_upd ?e8 ?r8 (weakE_upd ?e6 ?r6 (weakE_upd ?e5 ?r5 (weakE_junk _ _)))))))))
                          case e5 => first | rfl | exact fI (by omega) | (rfl)
                          case r5 => intro h hh; simp [refs] at hh; subst hh; rfl
                          case e6 => first | rfl | exact fI (by omega) | (rfl)
                          case r6 => intro h hh; cases hh
                          case e8 => first | rfl | exact fI (by omega) | (rfl)
                          case r8 => intro h hh; cases hh
                          case e10 => first | rfl | exact fI (by omega) | (rfl)
                          case r10 => intro h hh; cases hh
                          case e14 => first | rfl | exact fI (by omega) | (rfl)
                          case r14 => intro h hh; cases hh
                          case e15 => first | rfl | exact fI (by omega) | (rfl)
                          case r15 => intro h hh; cases hh
                          case e16 => first | rfl | exact fI (by omega) | (rfl)
                          case r16 => intro h hh; cases hh
                          case e17 => first | rfl | exact fI (by omega) | (rfl)
                          case r17 => intro h hh; cases hh
                          case e18 => first | rfl | exact fI (by omega) | (rfl)
                          case r18 => intro h hh; simp [refs] at hh; subst hh; rfl
                    · refine tn_k (listed' := #[true, true, true, false, true, true, false, true, false]) rfl rfl rfl rfl (k_alloc zA27 rfl ?_)
                      refine tn_step [3] (by kernel_rfl) rfl ?_
                      refine ⟨?_, trivial⟩
                      refine tn_k (listed' := #[true, true, true, true, true, true, false, true, false]) rfl rfl rfl rfl (k_make tE24 rfl rfl zA2 tBy2 rfl (by omega) (by omega) (by omega) rfl (by show _ = n6.length; omega) ?_)
                      refine tn_step [6] (by kernel_rfl) rfl ?_
                      refine ⟨?_, trivial⟩
                      refine tn_k (listed' := #[true, true, true, true, true, true, true, true, false]) rfl rfl rfl rfl (k_build zA27 pl27 (rfl) ?_)
                      refine tn_step [8] (by kernel_rfl) rfl ?_
                      refine ⟨?_, trivial⟩
                      refine tn_k (listed' := #[true, true, true, true, true, true, true, true, true]) rfl rfl rfl rfl (k_store sz27 rfl (by conv=>lhs;whnf) rfl rfl rfl (Nat.le_of_ble_eq_true rfl) rfl ?_)
                      refine tn_end (by kernel_rfl) (hK31 _ ?_); clear hK31
                      clear hK23
                      refine sub_weak ?_ ?_
                      · exact weakH_box (boxEq (rfl)) rfl (weakH_boxR (boxEq (rfl)) rfl (weakH_row (rowEq (by show List.replicate _ _ = List.map ci (List.replicate _ 0); rw [List.map_replicate]; rfl)) (weakH_none _)))
                      · refine weakE_upd ?e18 ?r18 (weakE_upd ?e17 ?r17 (weakE_upd ?e16 ?r16 (weakE_upd ?e15 ?r15 (weakE_upd ?e14 ?r14 (weakE_upd ?e10 ?r10 (weakE_upd ?e8 ?r8 (weakE_upd ?e6 ?r6 (weakE_upd ?e5 ?r5 (weakE_junk _ _)))))))))
                        case e5 => first | rfl | exact fI (by omega) | (rfl)
                        case r5 => intro h hh; simp [refs] at hh; subst hh; rfl
                        case e6 => first | rfl | exact fI (by omega) | (rfl)
                        case r6 => intro h hh; cases hh
                        case e8 => first | rfl | exact fI (by omega) | (rfl)
                        case r8 => intro h hh; cases hh
                        case e10 => first | rfl | exact fI (by omega) | (rfl)
                        case r10 => intro h hh; cases hh
                        case e14 => first | rfl | exact fI (by omega) | (rfl)
                        case r14 => intro h hh; cases hh
                        case e15 => first | rfl | exact fI (by omega) | (rfl)
                        case r15 => intro h hh; cases hh
                        case e16 => first | rfl | exact fI (by omega) | (rfl)
                        case r16 => intro h hh; cases hh
                        case e17 => first | rfl | exact fI (by omega) | (rfl)
                        case r17 => intro h hh; cases hh
                        case e18 => first | rfl | exact fI (by omega) | (rfl)
                        case r18 => intro h hh; simp [refs] at hh; subst hh; rfl
                  · refine tn_k (listed' := #[true, true, false, false, true, true, false, true, false]) rfl rfl rfl rfl (k_alloc zA27 rfl ?_)
                    refine tn_first_q (i := 2) (listed' := #[true, true, true, false, true, true, false, true, false]) rfl rfl (by kernel_rfl) rfl (q_len tEs24 rfl ?_)
                    intro n83 hn83
                    try simp only [List.length_map] at hn83
                    refine tn_step [3] (by kernel_rfl) rfl ?_
                    refine ⟨?_, trivial⟩
                    refine tn_k (listed' := #[true, true, true, true, true, true, false, true, false]) rfl rfl rfl rfl (k_make tE24 rfl rfl zA2 tBy2 rfl (by omega) (by omega) (by omega) rfl (by show _ = n6.length; omega) ?_)
                    refine tn_step [6] (by kernel_rfl) rfl ?_
                    refine ⟨?_, trivial⟩
                    refine tn_k (listed' := #[true, true, true, true, true, true, true, true, false]) rfl rfl rfl rfl (k_build zA27 pl27 (rfl) ?_)
                    refine tn_step [8] (by kernel_rfl) rfl ?_
                    refine ⟨?_, trivial⟩
                    refine tn_k (listed' := #[true, true, true, true, true, true, true, true, true]) rfl rfl rfl rfl (k_store sz27 rfl (by conv=>lhs;whnf) rfl rfl rfl (Nat.le_of_ble_eq_true rfl) rfl ?_)
                    refine tn_end (by kernel_rfl) (hK31 _ ?_); clear hK31
                    clear hK23
                    refine sub_weak ?_ ?_
                    · exact weakH_box (boxEq (rfl)) rfl (weakH_boxR (boxEq (rfl)) rfl (weakH_row (rowEq (by show List.replicate _ _ = List.map ci (List.replicate _ 0); rw [List.map_replicate]; rfl)) (weakH_none _)))
                    · refine weakE_upd ?e18 ?r18 (weakE_upd ?e17 ?r17 (weakE_upd ?e16 ?r16 (weakE_upd ?e15 ?r15 (weakE_upd ?e14 ?r14 (weakE_upd ?e10 ?r10 (weakE_upd ?e8 ?r8 (weakE_upd ?e6 ?r6 (weakE_upd ?e5 ?r5 (weakE_junk _ _)))))))))
                      case e5 => first | rfl | exact fI (by omega) | (rfl)
                      case r5 => intro h hh; simp [refs] at hh; subst hh; rfl
                      case e6 => first | rfl | exact fI (by omega) | (rfl)
                      case r6 => intro h hh; cases hh
                      case e8 => first | rfl | exact fI (by omega) | (rfl)
                      case r8 => intro h hh; cases hh
                      case e10 => first | rfl | exact fI (by omega) | (rfl)
                      case r10 => intro h hh; cases hh
                      case e14 => first | rfl | exact fI (by omega) | (rfl)
                      case r14 => intro h hh; cases hh
                      case e15 => first | rfl | exact fI (by omega) | (rfl)
                      case r15 => intro h hh; cases hh
                      case e16 => first | rfl | exact fI (by omega) | (rfl)
                      case r16 => intro h hh; cases hh
                      case e17 => first | rfl | exact fI (by omega) | (rfl)
                      case r17 => intro h hh; cases hh
                      case e18 => first | rfl | exact fI (by omega) | (rfl)
                      case r18 => intro h hh; simp [refs] at hh; subst hh; rfl
                · refine tn_k (listed' := #[true, true, false, false, true, false, false, true, false]) rfl rfl rfl rfl (k_alloc zA27 rfl ?_)
                  refine tn_first_q (i := 2) (listed' := #[true, true, true, false, true, false, false, true, false]) rfl rfl (by kernel_rfl) rfl (q_len tEs24 rfl ?_)
                  intro n84 hn84
                  try simp only [List.length_map] at hn84
                  refine tn_step [3, 5] (by kernel_rfl) rfl ?_
                  refine ⟨?_, ?_, trivial⟩
                  · refine tn_k (listed' := #[true, true, true, true, true, false, false, true, false]) rfl rfl rfl rfl (k_make tE24 rfl rfl zA2 tBy2 rfl (by omega) (by omega) (by omega) rfl (by show _ = n6.length; omega) ?_)
                    refine tn_first_q (i := 5) (listed' := #[true, true, true, true, true, true, false, true, false]) rfl rfl (by kernel_rfl) rfl (q_load tA25 rfl ?_)
                    refine tn_step [6] (by kernel_rfl) rfl ?_
                    refine ⟨?_, trivial⟩
                    refine tn_k (listed' := #[true, true, true, true, true, true, true, true, false]) rfl rfl rfl rfl (k_build zA27 pl27 (rfl) ?_)
                    refine tn_step [8] (by kernel_rfl) rfl ?_
                    refine ⟨?_, trivial⟩
                    refine tn_k (listed' := #[true, true, true, true, true, true, true, true, true]) rfl rfl rfl rfl (k_store sz27 rfl (by conv=>lhs;whnf) rfl rfl rfl (Nat.le_of_ble_eq_true rfl) rfl ?_)
                    refine tn_end (by kernel_rfl) (hK31 _ ?_); clear hK31
                    clear hK23
                    refine sub_weak ?_ ?_
                    · exact weakH_box (boxEq (rfl)) rfl (weakH_boxR (boxEq (rfl)) rfl (weakH_row (rowEq (by show List.replicate _ _ = List.map ci (List.replicate _ 0); rw [List.map_replicate]; rfl)) (weakH_none _)))
                    · refine weakE_upd ?e18 ?r18 (weakE_upd ?e17 ?r17 (weakE_upd ?e16 ?r16 (weakE_upd ?e15 ?r15 (weakE_upd ?e14 ?r14 (weakE_upd ?e10 ?r10 (weakE_upd ?e8 ?r8 (weakE_upd ?e6 ?r6 (weakE_upd ?e5 ?r5 (weakE_junk _ _)))))))))
                      case e5 => first | rfl | exact fI (by omega) | (rfl)
                      case r5 => intro h hh; simp [refs] at hh; subst hh; rfl
                      case e6 => first | rfl | exact fI (by omega) | (rfl)
                      case r6 => intro h hh; cases hh
                      case e8 => first | rfl | exact fI (by omega) | (rfl)
                      case r8 => intro h hh; cases hh
                      case e10 => first | rfl | exact fI (by omega) | (rfl)
                      case r10 => intro h hh; cases hh
                      case e14 => first | rfl | exact fI (by omega) | (rfl)
                      case r14 => intro h hh; cases hh
                      case e15 => first | rfl | exact fI (by omega) | (rfl)
                      case r15 => intro h hh; cases hh
                      case e16 => first | rfl | exact fI (by omega) | (rfl)
                      case r16 => intro h hh; cases hh
                      case e17 => first | rfl | exact fI (by omega) | (rfl)
                      case r17 => intro h hh; cases hh
                      case e18 => first | rfl | exact fI (by omega) | (rfl)
                      case r18 => intro h hh; simp [refs] at hh; subst hh; rfl
                  · refine tn_q (listed' := #[true, true, true, false, true, true, false, true, false]) rfl rfl rfl (q_load tA25 rfl ?_)
                    refine tn_step [3] (by kernel_rfl) rfl ?_
                    refine ⟨?_, trivial⟩
                    refine tn_k (listed' := #[true, true, true, true, true, true, false, true, false]) rfl rfl rfl rfl (k_make tE24 rfl rfl zA2 tBy2 rfl (by omega) (by omega) (by omega) rfl (by show _ = n6.length; omega) ?_)
                    refine tn_step [6] (by kernel_rfl) rfl ?_
                    refine ⟨?_, trivial⟩
                    refine tn_k (listed' := #[true, true, true, true, true, true, true, true, false]) rfl rfl rfl rfl (k_build zA27 pl27 (rfl) ?_)
                    refine tn_step [8] (by kernel_rfl) rfl ?_
                    refine ⟨?_, trivial⟩
                    refine tn_k (listed' := #[true, true, true, true, true, true, true, true, true]) rfl rfl rfl rfl (k_store sz27 rfl (by conv=>lhs;whnf) rfl rfl rfl (Nat.le_of_ble_eq_true rfl) rfl ?_)
                    refine tn_end (by kernel_rfl) (hK31 _ ?_); clear hK31
                    clear hK23
                    refine sub_weak ?_ ?_
                    · exact weakH_box (boxEq (rfl)) rfl (weakH_boxR (boxEq (rfl)) rfl (weakH_row (rowEq (by show List.replicate _ _ = List.map ci (List.replicate _ 0); rw [List.map_replicate]; rfl)) (weakH_none _)))
                    · refine weakE_upd ?e18 ?r18 (weakE_upd ?e17 ?r17 (weakE_upd ?e16 ?r16 (weakE_upd ?e15 ?r15 (weakE_upd ?e14 ?r14 (weakE_upd ?e10 ?r10 (weakE_upd ?e8 ?r8 (weakE_upd ?e6 ?r6 (weakE_upd ?e5 ?r5 (weakE_junk _ _)))))))))
                      case e5 => first | rfl | exact fI (by omega) | (rfl)
                      case r5 => intro h hh; simp [refs] at hh; subst hh; rfl
                      case e6 => first | rfl | exact fI (by omega) | (rfl)
                      case r6 => intro h hh; cases hh
                      case e8 => first | rfl | exact fI (by omega) | (rfl)
                      case r8 => intro h hh; cases hh
                      case e10 => first | rfl | exact fI (by omega) | (rfl)
                      case r10 => intro h hh; cases hh
                      case e14 => first | rfl | exact fI (by omega) | (rfl)
                      case r14 => intro h hh; cases hh
                      case e15 => first | rfl | exact fI (by omega) | (rfl)
                      case r15 => intro h hh; cases hh
                      case e16 => first | rfl | exact fI (by omega) | (rfl)
                      case r16 => intro h hh; cases hh
                      case e17 => first | rfl | exact fI (by omega) | (rfl)
                      case r17 => intro h hh; cases hh
                      case e18 => first | rfl | exact fI (by omega) | (rfl)
                      case r18 => intro h hh; simp [refs] at hh; subst hh; rfl
              · refine tn_q (listed' := #[true, false, false, false, true, true, false, false, false]) rfl rfl rfl (q_load tA25 rfl ?_)
                refine tn_step [1, 7] (by kernel_rfl) rfl ?_
                refine ⟨?_, ?_, trivial⟩
                · refine tn_q (listed' := #[true, true, false, false, true, true, false, false, false]) rfl rfl rfl (q_load tA24 rfl ?_)
                  refine tn_step [2, 7] (by kernel_rfl) rfl ?_
                  refine ⟨?_, ?_, trivial⟩
                  · refine tn_q (listed' := #[true, true, true, false, true, true, false, false, false]) rfl rfl rfl (q_len tEs24 rfl ?_)
                    intro n85 hn85
                    try simp only [List.length_map] at hn85
                    refine tn_step [3, 7] (by kernel_rfl) rfl ?_
                    refine ⟨?_, ?_, trivial⟩
                    · refine tn_k (listed' := #[true, true, true, true, true, true, false, false, false]) rfl rfl rfl rfl (k_make tE24 rfl rfl zA2 tBy2 rfl (by omega) (by omega) (by omega) rfl (by show _ = n6.length; omega) ?_)
                      refine tn_step [6, 7] (by kernel_rfl) rfl ?_
                      refine ⟨?_, ?_, trivial⟩
                      · refine tn_k (listed' := #[true, true, true, true, true, true, true, false, false]) rfl rfl rfl rfl (k_build zA27 pl27 (rfl) ?_)
                        refine tn_step [7] (by kernel_rfl) rfl ?_
                        refine ⟨?_, trivial⟩
                        refine tn_k (listed' := #[true, true, true, true, true, true, true, true, false]) rfl rfl rfl rfl (k_alloc zA27 rfl ?_)
                        refine tn_step [8] (by kernel_rfl) rfl ?_
                        refine ⟨?_, trivial⟩
                        refine tn_k (listed' := #[true, true, true, true, true, true, true, true, true]) rfl rfl rfl rfl (k_store sz27 rfl (by conv=>lhs;whnf) rfl rfl rfl (Nat.le_of_ble_eq_true rfl) rfl ?_)
                        refine tn_end (by kernel_rfl) (hK31 _ ?_); clear hK31
                        clear hK23
                        refine sub_weak ?_ ?_
                        · exact weakH_box (boxEq (rfl)) rfl (weakH_boxR (boxEq (rfl)) rfl (weakH_row (rowEq (by show List.replicate _ _ = List.map ci (List.replicate _ 0); rw [List.map_replicate]; rfl)) (weakH_none _)))
                        · refine weakE_upd ?e18 ?r18 (weakE_upd ?e17 ?r17 (weakE_upd ?e16 ?r16 (weakE_upd ?e15 ?r15 (weakE_upd ?e14 ?r14 (weakE_upd ?e10 ?r10 (weakE_upd ?e8 ?r8 (weakE_upd ?e6 ?r6 (weakE_upd ?e5 ?r5 (weakE_junk _ _)))))))))
                          case e5 => first | rfl | exact fI (by omega) | (rfl)
                          case r5 => intro h hh; simp [refs] at hh; subst hh; rfl
                          case e6 => first | rfl | exact fI (by omega) | (rfl)
                          case r6 => intro h hh; cases hh
                          case e8 => first | rfl | exact fI (by omega) | (rfl)
                          case r8 => intro h hh; cases hh
                          case e10 => first | rfl | exact fI (by omega) | (rfl)
                          case r10 => intro h hh; cases hh
                          case e14 => first | rfl | exact fI (by omega) | (rfl)
                          case r14 => intro h hh; cases hh
                          case e15 => first | rfl | exact fI (by omega) | (rfl)
                          case r15 => intro h hh; cases hh
                          case e16 => first | rfl | exact fI (by omega) | (rfl)
                          case r16 => intro h hh; cases hh
                          case e17 => first | rfl | exact fI (by omega) | (rfl)
                          case r17 => intro h hh; cases hh
                          case e18 => first | rfl | exact fI (by omega) | (rfl)
                          case r18 => intro h hh; simp [refs] at hh; subst hh; rfl
                      · refine tn_k (listed' := #[true, true, true, true, true, true, false, true, false]) rfl rfl rfl rfl (k_alloc zA27 rfl ?_)
                        refine tn_step [6] (by kernel_rfl) rfl ?_
                        refine ⟨?_, trivial⟩
                        refine tn_k (listed' := #[true, true, true, true, true, true, true, true, false]) rfl rfl rfl rfl (k_build zA27 pl27 (rfl) ?_)
                        refine tn_step [8] (by kernel_rfl) rfl ?_
                        refine ⟨?_, trivial⟩
                        refine tn_k (listed' := #[true, true, true, true, true, true, true, true, true]) rfl rfl rfl rfl (k_store sz27 rfl (by conv=>lhs;whnf) rfl rfl rfl (Nat.le_of_ble_eq_true rfl) rfl ?_)
                        refine tn_end (by kernel_rfl) (hK31 _ ?_); clear hK31
                        clear hK23
                        refine sub_weak ?_ ?_
                        · exact weakH_box (boxEq (rfl)) rfl (weakH_boxR (boxEq (rfl)) rfl (weakH_row (rowEq (by show List.replicate _ _ = List.map ci (List.replicate _ 0); rw [List.map_replicate]; rfl)) (weakH_none _)))
                        · refine weakE_upd ?e18 ?r18 (weakE_upd ?e17 ?r17 (weakE_upd ?e16 ?r16 (weakE_upd ?e15 ?r15 (weakE_upd ?e14 ?r14 (weakE_upd ?e10 ?r10 (weakE_upd ?e8 ?r8 (weakE_upd ?e6 ?r6 (weakE_upd ?e5 ?r5 (weakE_junk _ _)))))))))
                          case e5 => first | rfl | exact fI (by omega) | (rfl)
                          case r5 => intro h hh; simp [refs] at hh; subst hh; rfl
                          case e6 => first | rfl | exact fI (by omega) | (rfl)
                          case r6 => intro h hh; cases hh
                          case e8 => first | rfl | exact fI (by omega) | (rfl)
                          case r8 => intro h hh; cases hh
                          case e10 => first | rfl | exact fI (by omega) | (rfl)
                          case r10 => intro h hh; cases hh
                          case e14 => first | rfl | exact fI (by omega) | (rfl)
                          case r14 => intro h hh; cases hh
                          case e15 => first | rfl | exact fI (by omega) | (rfl)
                          case r15 => intro h hh; cases hh
                          case e16 => first | rfl | exact fI (by omega) | (rfl)
                          case r16 => intro h hh; cases hh
                          case e17 => first | rfl | exact fI (by omega) | (rfl)
                          case r17 => intro h hh; cases hh
                          case e18 => first | rfl | exact fI (by omega) | (rfl)
                          case r18 => intro h hh; simp [refs] at hh; subst hh; rfl
                    · refine tn_k (listed' := #[true, true, true, false, true, true, false, true, false]) rfl rfl rfl rfl (k_alloc zA27 rfl ?_)
                      refine tn_step [3] (by kernel_rfl) rfl ?_
                      refine ⟨?_, trivial⟩
                      refine tn_k (listed' := #[true, true, true, true, true, true, false, true, false]) rfl rfl rfl rfl (k_make tE24 rfl rfl zA2 tBy2 rfl (by omega) (by omega) (by omega) rfl (by show _ = n6.length; omega) ?_)
                      refine tn_step [6] (by kernel_rfl) rfl ?_
                      refine ⟨?_, trivial⟩
                      refine tn_k (listed' := #[true, true, true, true, true, true, true, true, false]) rfl rfl rfl rfl (k_build zA27 pl27 (rfl) ?_)
                      refine tn_step [8] (by kernel_rfl) rfl ?_
                      refine ⟨?_, trivial⟩
                      refine tn_k (listed' := #[true, true, true, true, true, true, true, true, true]) rfl rfl rfl rfl (k_store sz27 rfl (by conv=>lhs;whnf) rfl rfl rfl (Nat.le_of_ble_eq_true rfl) rfl ?_)
                      refine tn_end (by kernel_rfl) (hK31 _ ?_); clear hK31
                      clear hK23
                      refine sub_weak ?_ ?_
                      · exact weakH_box (boxEq (rfl)) rfl (weakH_boxR (boxEq (rfl)) rfl (weakH_row (rowEq (by show List.replicate _ _ = List.map ci (List.replicate _ 0); rw [List.map_replicate]; rfl)) (weakH_none _)))
                      · refine weakE_upd ?e18 ?r18 (weakE_upd ?e17 ?r17 (weakE_upd ?e16 ?r16 (weakE_upd ?e15 ?r15 (weakE_upd ?e14 ?r14 (weakE_upd ?e10 ?r10 (weakE_upd ?e8 ?r8 (weakE_upd ?e6 ?r6 (weakE_upd ?e5 ?r5 (weakE_junk _ _)))))))))
                        case e5 => first | rfl | exact fI (by omega) | (rfl)
                        case r5 => intro h hh; simp [refs] at hh; subst hh; rfl
                        case e6 => first | rfl | exact fI (by omega) | (rfl)
                        case r6 => intro h hh; cases hh
                        case e8 => first | rfl | exact fI (by omega) | (rfl)
                        case r8 => intro h hh; cases hh
                        case e10 => first | rfl | exact fI (by omega) | (rfl)
                        case r10 => intro h hh; cases hh
                        case e14 => first | rfl | exact fI (by omega) | (rfl)
                        case r14 => intro h hh; cases hh
                        case e15 => first | rfl | exact fI (by omega) | (rfl)
                        case r15 => intro h hh; cases hh
                        case e16 => first | rfl | exact fI (by omega) | (rfl)
                        case r16 => intro h hh; cases hh
                        case e17 => first | rfl | exact fI (by omega) | (rfl)
                        case r17 => intro h hh; cases hh
                        case e18 => first | rfl | exact fI (by omega) | (rfl)
                        case r18 => intro h hh; simp [refs] at hh; subst hh; rfl
                  · refine tn_k (listed' := #[true, true, false, false, true, true, false, true, false]) rfl rfl rfl rfl (k_alloc zA27 rfl ?_)
                    refine tn_first_q (i := 2) (listed' := #[true, true, true, false, true, true, false, true, false]) rfl rfl (by kernel_rfl) rfl (q_len tEs24 rfl ?_)
                    intro n86 hn86
                    try simp only [List.length_map] at hn86
                    refine tn_step [3] (by kernel_rfl) rfl ?_
                    refine ⟨?_, trivial⟩
                    refine tn_k (listed' := #[true, true, true, true, true, true, false, true, false]) rfl rfl rfl rfl (k_make tE24 rfl rfl zA2 tBy2 rfl (by omega) (by omega) (by omega) rfl (by show _ = n6.length; omega) ?_)
                    refine tn_step [6] (by kernel_rfl) rfl ?_
                    refine ⟨?_, trivial⟩
                    refine tn_k (listed' := #[true, true, true, true, true, true, true, true, false]) rfl rfl rfl rfl (k_build zA27 pl27 (rfl) ?_)
                    refine tn_step [8] (by kernel_rfl) rfl ?_
                    refine ⟨?_, trivial⟩
                    refine tn_k (listed' := #[true, true, true, true, true, true, true, true, true]) rfl rfl rfl rfl (k_store sz27 rfl (by conv=>lhs;whnf) rfl rfl rfl (Nat.le_of_ble_eq_true rfl) rfl ?_)
                    refine tn_end (by kernel_rfl) (hK31 _ ?_); clear hK31
                    clear hK23
                    refine sub_weak ?_ ?_
                    · exact weakH_box (boxEq (rfl)) rfl (weakH_boxR (boxEq (rfl)) rfl (weakH_row (rowEq (by show List.replicate _ _ = List.map ci (List.replicate _ 0); rw [List.map_replicate]; rfl)) (weakH_none _)))
                    · refine weakE_upd ?e18 ?r18 (weakE_upd ?e17 ?r17 (weakE_upd ?e16 ?r16 (weakE_upd ?e15 ?r15 (weakE_upd ?e14 ?r14 (weakE_upd ?e10 ?r10 (weakE_upd ?e8 ?r8 (weakE_upd ?e6 ?r6 (weakE_upd ?e5 ?r5 (weakE_junk _ _)))))))))
                      case e5 => first | rfl | exact fI (by omega) | (rfl)
                      case r5 => intro h hh; simp [refs] at hh; subst hh; rfl
                      case e6 => first | rfl | exact fI (by omega) | (rfl)
                      case r6 => intro h hh; cases hh
                      case e8 => first | rfl | exact fI (by omega) | (rfl)
                      case r8 => intro h hh; cases hh
                      case e10 => first | rfl | exact fI (by omega) | (rfl)
                      case r10 => intro h hh; cases hh
                      case e14 => first | rfl | exact fI (by omega) | (rfl)
                      case r14 => intro h hh; cases hh
                      case e15 => first | rfl | exact fI (by omega) | (rfl)
                      case r15 => intro h hh; cases hh
                      case e16 => first | rfl | exact fI (by omega) | (rfl)
                      case r16 => intro h hh; cases hh
                      case e17 => first | rfl | exact fI (by omega) | (rfl)
                      case r17 => intro h hh; cases hh
                      case e18 => first | rfl | exact fI (by omega) | (rfl)
                      case r18 => intro h hh; simp [refs] at hh; subst hh; rfl
                · refine tn_k (listed' := #[true, false, false, false, true, true, false, true, false]) rfl rfl rfl rfl (k_alloc zA27 rfl ?_)
                  refine tn_first_q (i := 1) (listed' := #[true, true, false, false, true, true, false, true, false]) rfl rfl (by kernel_rfl) rfl (q_load tA24 rfl ?_)
                  refine tn_first_q (i := 2) (listed' := #[true, true, true, false, true, true, false, true, false]) rfl rfl (by kernel_rfl) rfl (q_len tEs24 rfl ?_)
                  intro n87 hn87
                  try simp only [List.length_map] at hn87
                  refine tn_step [3] (by kernel_rfl) rfl ?_
                  refine ⟨?_, trivial⟩
                  refine tn_k (listed' := #[true, true, true, true, true, true, false, true, false]) rfl rfl rfl rfl (k_make tE24 rfl rfl zA2 tBy2 rfl (by omega) (by omega) (by omega) rfl (by show _ = n6.length; omega) ?_)
                  refine tn_step [6] (by kernel_rfl) rfl ?_
                  refine ⟨?_, trivial⟩
                  refine tn_k (listed' := #[true, true, true, true, true, true, true, true, false]) rfl rfl rfl rfl (k_build zA27 pl27 (rfl) ?_)
                  refine tn_step [8] (by kernel_rfl) rfl ?_
                  refine ⟨?_, trivial⟩
                  refine tn_k (listed' := #[true, true, true, true, true, true, true, true, true]) rfl rfl rfl rfl (k_store sz27 rfl (by conv=>lhs;whnf) rfl rfl rfl (Nat.le_of_ble_eq_true rfl) rfl ?_)
                  refine tn_end (by kernel_rfl) (hK31 _ ?_); clear hK31
                  clear hK23
                  refine sub_weak ?_ ?_
                  · exact weakH_box (boxEq (rfl)) rfl (weakH_boxR (boxEq (rfl)) rfl (weakH_row (rowEq (by show List.replicate _ _ = List.map ci (List.replicate _ 0); rw [List.map_replicate]; rfl)) (weakH_none _)))
                  · refine weakE_upd ?e18 ?r18 (weakE_upd ?e17 ?r17 (weakE_upd ?e16 ?r16 (weakE_upd ?e15 ?r15 (weakE_upd ?e14 ?r14 (weakE_upd ?e10 ?r10 (weakE_upd ?e8 ?r8 (weakE_upd ?e6 ?r6 (weakE_upd ?e5 ?r5 (weakE_junk _ _)))))))))
                    case e5 => first | rfl | exact fI (by omega) | (rfl)
                    case r5 => intro h hh; simp [refs] at hh; subst hh; rfl
                    case e6 => first | rfl | exact fI (by omega) | (rfl)
                    case r6 => intro h hh; cases hh
                    case e8 => first | rfl | exact fI (by omega) | (rfl)
                    case r8 => intro h hh; cases hh
                    case e10 => first | rfl | exact fI (by omega) | (rfl)
                    case r10 => intro h hh; cases hh
                    case e14 => first | rfl | exact fI (by omega) | (rfl)
                    case r14 => intro h hh; cases hh
                    case e15 => first | rfl | exact fI (by omega) | (rfl)
                    case r15 => intro h hh; cases hh
                    case e16 => first | rfl | exact fI (by omega) | (rfl)
                    case r16 => intro h hh; cases hh
                    case e17 => first | rfl | exact fI (by omega) | (rfl)
                    case r17 => intro h hh; cases hh
                    case e18 => first | rfl | exact fI (by omega) | (rfl)
                    case r18 => intro h hh; simp [refs] at hh; subst hh; rfl
              · refine tn_k (listed' := #[true, false, false, false, true, false, false, true, false]) rfl rfl rfl rfl (k_alloc zA27 rfl ?_)
                refine tn_first_q (i := 1) (listed' := #[true, true, false, false, true, false, false, true, false]) rfl rfl (by kernel_rfl) rfl (q_load tA24 rfl ?_)
                refine tn_first_q (i := 2) (listed' := #[true, true, true, false, true, false, false, true, false]) rfl rfl (by kernel_rfl) rfl (q_len tEs24 rfl ?_)
                intro n88 hn88
                try simp only [List.length_map] at hn88
                refine tn_step [3, 5] (by kernel_rfl) rfl ?_
                refine ⟨?_, ?_, trivial⟩
                · refine tn_k (listed' := #[true, true, true, true, true, false, false, true, false]) rfl rfl rfl rfl (k_make tE24 rfl rfl zA2 tBy2 rfl (by omega) (by omega) (by omega) rfl (by show _ = n6.length; omega) ?_)
                  refine tn_first_q (i := 5) (listed' := #[true, true, true, true, true, true, false, true, false]) rfl rfl (by kernel_rfl) rfl (q_load tA25 rfl ?_)
                  refine tn_step [6] (by kernel_rfl) rfl ?_
                  refine ⟨?_, trivial⟩
                  refine tn_k (listed' := #[true, true, true, true, true, true, true, true, false]) rfl rfl rfl rfl (k_build zA27 pl27 (rfl) ?_)
                  refine tn_step [8] (by kernel_rfl) rfl ?_
                  refine ⟨?_, trivial⟩
                  refine tn_k (listed' := #[true, true, true, true, true, true, true, true, true]) rfl rfl rfl rfl (k_store sz27 rfl (by conv=>lhs;whnf) rfl rfl rfl (Nat.le_of_ble_eq_true rfl) rfl ?_)
                  refine tn_end (by kernel_rfl) (hK31 _ ?_); clear hK31
                  clear hK23
                  refine sub_weak ?_ ?_
                  · exact weakH_box (boxEq (rfl)) rfl (weakH_boxR (boxEq (rfl)) rfl (weakH_row (rowEq (by show List.replicate _ _ = List.map ci (List.replicate _ 0); rw [List.map_replicate]; rfl)) (weakH_none _)))
                  · refine weakE_upd ?e18 ?r18 (weakE_upd ?e17 ?r17 (weakE_upd ?e16 ?r16 (weakE_upd ?e15 ?r15 (weakE_upd ?e14 ?r14 (weakE_upd ?e10 ?r10 (weakE_upd ?e8 ?r8 (weakE_upd ?e6 ?r6 (weakE_upd ?e5 ?r5 (weakE_junk _ _)))))))))
                    case e5 => first | rfl | exact fI (by omega) | (rfl)
                    case r5 => intro h hh; simp [refs] at hh; subst hh; rfl
                    case e6 => first | rfl | exact fI (by omega) | (rfl)
                    case r6 => intro h hh; cases hh
                    case e8 => first | rfl | exact fI (by omega) | (rfl)
                    case r8 => intro h hh; cases hh
                    case e10 => first | rfl | exact fI (by omega) | (rfl)
                    case r10 => intro h hh; cases hh
                    case e14 => first | rfl | exact fI (by omega) | (rfl)
                    case r14 => intro h hh; cases hh
                    case e15 => first | rfl | exact fI (by omega) | (rfl)
                    case r15 => intro h hh; cases hh
                    case e16 => first | rfl | exact fI (by omega) | (rfl)
                    case r16 => intro h hh; cases hh
                    case e17 => first | rfl | exact fI (by omega) | (rfl)
                    case r17 => intro h hh; cases hh
                    case e18 => first | rfl | exact fI (by omega) | (rfl)
                    case r18 => intro h hh; simp [refs] at hh; subst hh; rfl
                · refine tn_q (listed' := #[true, true, true, false, true, true, false, true, false]) rfl rfl rfl (q_load tA25 rfl ?_)
                  refine tn_step [3] (by kernel_rfl) rfl ?_
                  refine ⟨?_, trivial⟩
                  refine tn_k (listed' := #[true, true, true, true, true, true, false, true, false]) rfl rfl rfl rfl (k_make tE24 rfl rfl zA2 tBy2 rfl (by omega) (by omega) (by omega) rfl (by show _ = n6.length; omega) ?_)
                  refine tn_step [6] (by kernel_rfl) rfl ?_
                  refine ⟨?_, trivial⟩
                  refine tn_k (listed' := #[true, true, true, true, true, true, true, true, false]) rfl rfl rfl rfl (k_build zA27 pl27 (rfl) ?_)
                  refine tn_step [8] (by kernel_rfl) rfl ?_
                  refine ⟨?_, trivial⟩
                  refine tn_k (listed' := #[true, true, true, true, true, true, true, true, true]) rfl rfl rfl rfl (k_store sz27 rfl (by conv=>lhs;whnf) rfl rfl rfl (Nat.le_of_ble_eq_true rfl) rfl ?_)
                  refine tn_end (by kernel_rfl) (hK31 _ ?_); clear hK31
                  clear hK23
                  refine sub_weak ?_ ?_
                  · exact weakH_box (boxEq (rfl)) rfl (weakH_boxR (boxEq (rfl)) rfl (weakH_row (rowEq (by show List.replicate _ _ = List.map ci (List.replicate _ 0); rw [List.map_replicate]; rfl)) (weakH_none _)))
                  · refine weakE_upd ?e18 ?r18 (weakE_upd ?e17 ?r17 (weakE_upd ?e16 ?r16 (weakE_upd ?e15 ?r15 (weakE_upd ?e14 ?r14 (weakE_upd ?e10 ?r10 (weakE_upd ?e8 ?r8 (weakE_upd ?e6 ?r6 (weakE_upd ?e5 ?r5 (weakE_junk _ _)))))))))
                    case e5 => first | rfl | exact fI (by omega) | (rfl)
                    case r5 => intro h hh; simp [refs] at hh; subst hh; rfl
                    case e6 => first | rfl | exact fI (by omega) | (rfl)
                    case r6 => intro h hh; cases hh
                    case e8 => first | rfl | exact fI (by omega) | (rfl)
                    case r8 => intro h hh; cases hh
                    case e10 => first | rfl | exact fI (by omega) | (rfl)
                    case r10 => intro h hh; cases hh
                    case e14 => first | rfl | exact fI (by omega) | (rfl)
                    case r14 => intro h hh; cases hh
                    case e15 => first | rfl | exact fI (by omega) | (rfl)
                    case r15 => intro h hh; cases hh
                    case e16 => first | rfl | exact fI (by omega) | (rfl)
                    case r16 => intro h hh; cases hh
                    case e17 => first | rfl | exact fI (by omega) | (rfl)
                    case r17 => intro h hh; cases hh
                    case e18 => first | rfl | exact fI (by omega) | (rfl)
                    case r18 => intro h hh; simp [refs] at hh; subst hh; rfl
          · replace hb26 := dT hb26
            refine ev_nil (hK24 _ ?_); clear hK24
            refine good_condT rfl ?_
            refine good_skip (hK23 _ ?_); clear hK23
            refine good_seq fun K89 hK89 => ?_
            refine good_block ?_
            refine good_seq fun K90 hK90 => ?_
            refine gr rfl ?_
            refine ev_q rfl (q_loadA tA27 rfl rfl rfl ?_)
            refine em rfl (by conv=>lhs;whnf) ?_
            refine em rfl (by conv=>lhs;whnf) ?_
            refine ev_q rfl (q_call rfl rfl (rfl) (D_impl_BalanceAt n6 p6 (flT n6 p6 n9.toNat w11) (j : Int) hn hp hz hfl4) rfl ?_)
            refine em rfl (by conv=>lhs;whnf) ?_
            refine ev_q rfl (q_extractI rfl rfl ?_)
            intro n91 hn91
            have hbk := ba_ok ok (j := j) (by omega) hflp
            have hbb := baF_bd hflp (j := j)
            replace hn91 : n91 = (baF (p6.map pe) (flT n6 p6 n9.toNat w11)) j := hn91.trans hbk.2
            refine ev_q rfl (q_extractI rfl rfl ?_)
            intro n92 hn92
            replace hn92 : n92 = 0 := hn92.trans hbk.1
            refine ea rfl (by conv=>lhs;whnf) ?_
            refine ea rfl (by conv=>lhs;whnf) ?_
            refine ev_nil (hK90 _ ?_); clear hK90
            refine good_seq fun K93 hK93 => ?_
            refine good_seq fun K94 hK94 => ?_
            refine gr rfl ?_
            refine em rfl (by conv=>lhs;whnf) ?_
            refine ei rfl rfl rfl ?_
            intro b95 hb95; cases b95
            · replace hb95 := neF hb95
              refine em rfl (by conv=>lhs;whnf) ?_
              refine em rfl (by conv=>lhs;whnf) ?_
              refine em rfl (by conv=>lhs;whnf) ?_
              refine ei rfl rfl rfl ?_
              intro b96 hb96; cases b96
              · replace hb96 := neF hb96
                refine em rfl (by conv=>lhs;whnf) ?_
                refine ev_skip rfl ?_
                refine ev_skip rfl ?_
                refine ev_skip rfl ?_
                refine ev_skip rfl ?_
                refine ev_skip rfl ?_
                refine ev_skip rfl ?_
                refine ev_q rfl (q_pickF rfl (by conv=>lhs;whnf) ?_)
                refine ev_q rfl (q_pickF rfl (by conv=>lhs;whnf) ?_)
                refine ev_nil (hK94 _ ?_); clear hK94
                refine good_condF rfl ?_
                refine good_skip (hK93 _ ?_); clear hK93
                refine gr rfl ?_
                refine em rfl (by conv=>lhs;whnf) ?_
                refine em rfl (by conv=>lhs;whnf) ?_
                refine ei rfl rfl rfl ?_
                intro n97 hn97
                replace hn97 := in64 hn97 (by omega) (by omega)
                refine ea rfl (by conv=>lhs;whnf) ?_
                refine ev_nil (hK89 _ ?_); clear hK89
                refine gr rfl ?_
                refine em rfl (by conv=>lhs;whnf) ?_
                refine ei rfl rfl rfl ?_
                intro n98 hn98
                replace hn98 := in64 hn98 (by omega) (by omega)
                refine ea rfl (by conv=>lhs;whnf) ?_
                refine ev_nil ?_
                clear hK21
                refine ⟨(j + 1, n97), ?_, ?_, ?_⟩
                · refine ⟨by omega, ?_, by omega⟩
                  rw [su_rg]; omega
                · show _ - (j + 1) < _ - j; omega
                · refine sub_weak ?_ ?_
                  · exact weakH_box (boxEq (rfl)) rfl (weakH_none _)
                  · refine weakE_upd ?e11 ?r11 (weakE_upd ?e10 ?r10 (weakE_upd ?e8 ?r8 (weakE_upd ?e7 ?r7 (weakE_upd ?e6 ?r6 (weakE_upd ?e5 ?r5 (weakE_junk _ _))))))
                    case e5 => first | rfl | exact fI (by omega) | (simp_all)
                    case r5 => intro h hh; simp [refs] at hh; subst hh; rfl
                    case e6 => first | rfl | exact fI (by omega) | (simp_all)
                    case r6 => intro h hh; cases hh
                    case e7 => first | rfl | exact fI (by omega) | (simp_all)
                    case r7 => intro h hh; cases hh
                    case e8 => first | rfl | exact fI (by omega) | (simp_all)
                    case r8 => intro h hh; cases hh
                    case e10 => first | rfl | exact fI (by omega) | (simp_all)
                    case r10 => intro h hh; cases hh
                    case e11 => first | rfl | exact fI (by omega) | (simp_all)
                    case r11 => intro h hh; cases hh
              · replace hb96 := neT hb96
                refine em rfl (by conv=>lhs;whnf) ?_
                refine em rfl (by conv=>lhs;whnf) ?_
                refine em rfl (by conv=>lhs;whnf) ?_
                refine em rfl (by conv=>lhs;whnf) ?_
                refine ev_q rfl (q_idx tE24 rfl rfl (by first | exact Int.natCast_nonneg _ | omega) (by exact getG (t := w11) (v := j) (by omega)) rfl ?_)
                refine ev_q rfl (q_load tA2 rfl ?_)
                refine ei rfl rfl rfl ?_
                intro b99 hb99; cases b99
                rotate_left
                · replace hb99 := neT hb99
                  exfalso; have := ba_dm hT hsN hdm (j := j) (by omega) (by omega); omega
                replace hb99 := neF hb99
                refine ev_q rfl (q_pickT rfl (by conv=>lhs;whnf) ?_)
                refine ev_q rfl (q_pickF rfl (by conv=>lhs;whnf) ?_)
                refine ev_nil (hK94 _ ?_); clear hK94
                refine good_condF rfl ?_
                refine good_skip (hK93 _ ?_); clear hK93
                refine gr rfl ?_
                refine em rfl (by conv=>lhs;whnf) ?_
                refine em rfl (by conv=>lhs;whnf) ?_
                refine ei rfl rfl rfl ?_
                intro n100 hn100
                replace hn100 := in64 hn100 (by omega) (by omega)
                refine ea rfl (by conv=>lhs;whnf) ?_
                refine ev_nil (hK89 _ ?_); clear hK89
                refine gr rfl ?_
                refine em rfl (by conv=>lhs;whnf) ?_
                refine ei rfl rfl rfl ?_
                intro n101 hn101
                replace hn101 := in64 hn101 (by omega) (by omega)
                refine ea rfl (by conv=>lhs;whnf) ?_
                refine ev_nil ?_
                clear hK21
                refine ⟨(j + 1, n100), ?_, ?_, ?_⟩
                · refine ⟨by omega, ?_, by omega⟩
                  rw [su_rg]; omega
                · show _ - (j + 1) < _ - j; omega
                · refine sub_weak ?_ ?_
                  · exact weakH_box (boxEq (rfl)) rfl (weakH_none _)
                  · refine weakE_upd ?e11 ?r11 (weakE_upd ?e10 ?r10 (weakE_upd ?e8 ?r8 (weakE_upd ?e7 ?r7 (weakE_upd ?e6 ?r6 (weakE_upd ?e5 ?r5 (weakE_junk _ _))))))
                    case e5 => first | rfl | exact fI (by omega) | (simp_all)
                    case r5 => intro h hh; simp [refs] at hh; subst hh; rfl
                    case e6 => first | rfl | exact fI (by omega) | (simp_all)
                    case r6 => intro h hh; cases hh
                    case e7 => first | rfl | exact fI (by omega) | (simp_all)
                    case r7 => intro h hh; cases hh
                    case e8 => first | rfl | exact fI (by omega) | (simp_all)
                    case r8 => intro h hh; cases hh
                    case e10 => first | rfl | exact fI (by omega) | (simp_all)
                    case r10 => intro h hh; cases hh
                    case e11 => first | rfl | exact fI (by omega) | (simp_all)
                    case r11 => intro h hh; cases hh
            · replace hb95 := neT hb95
              refine em rfl (by conv=>lhs;whnf) ?_
              refine ev_skip rfl ?_
              refine ev_skip rfl ?_
              refine ev_skip rfl ?_
              refine ev_skip rfl ?_
              refine ev_skip rfl ?_
              refine ev_skip rfl ?_
              refine ev_skip rfl ?_
              refine ev_skip rfl ?_
              refine ev_skip rfl ?_
              refine ev_skip rfl ?_
              refine ev_skip rfl ?_
              refine ev_q rfl (q_pickT rfl (by conv=>lhs;whnf) ?_)
              refine ev_nil (hK94 _ ?_); clear hK94
              refine good_condT rfl ?_
              refine good_seq fun K102 hK102 => ?_
              refine gr rfl ?_
              refine ea rfl (by conv=>lhs;whnf) ?_
              refine ev_nil (hK102 _ ?_); clear hK102
              refine good_ret ?_
              repeat first|refine thenQ_ret ?_|refine blockQ_ret ?_
              refine ret_tmp (st := _) rfl (by conv=>lhs;whnf) rfl ?_
              clear hK21 hK89 hK93
              first | rfl | exact absurd (q1.trans h?t183.symm) (by assumption) | exact absurd ((h?t190.trans q2).trans h?t196.symm) (by assumption) | exact absurd q3 (Int.not_le.2 (by assumption)) | (exfalso; omega)
      · replace hb19 := neT hb19
        refine ev_q rfl (q_pickF rfl (by conv=>lhs;whnf) ?_)
        refine ev_nil (hK15 _ ?_); clear hK15
        refine good_condT rfl ?_
        refine good_seq fun K103 hK103 => ?_
        refine gr rfl ?_
        refine ea rfl (by conv=>lhs;whnf) ?_
        refine ev_nil (hK103 _ ?_); clear hK103
        refine good_ret ?_
        repeat first|refine thenQ_ret ?_|refine blockQ_ret ?_
        refine ret_tmp (st := _) rfl (by conv=>lhs;whnf) rfl ?_
        clear hK14
        first | rfl | exact absurd (q1.trans h?t183.symm) (by assumption) | exact absurd ((h?t190.trans q2).trans h?t196.symm) (by assumption) | exact absurd q3 (Int.not_le.2 (by assumption)) | (exfalso; omega)
    · replace hb16 := neT hb16
      refine em rfl (by conv=>lhs;whnf) ?_
      refine ev_skip rfl ?_
      refine ev_skip rfl ?_
      refine ev_skip rfl ?_
      refine ev_skip rfl ?_
      refine ev_skip rfl ?_
      refine ev_skip rfl ?_
      refine ev_q rfl (q_pickT rfl (by conv=>lhs;whnf) ?_)
      refine ev_nil (hK15 _ ?_); clear hK15
      refine good_condT rfl ?_
      refine good_seq fun K104 hK104 => ?_
      refine gr rfl ?_
      refine ea rfl (by conv=>lhs;whnf) ?_
      refine ev_nil (hK104 _ ?_); clear hK104
      refine good_ret ?_
      repeat first|refine thenQ_ret ?_|refine blockQ_ret ?_
      refine ret_tmp (st := _) rfl (by conv=>lhs;whnf) rfl ?_
      clear hK14
      first | rfl | exact absurd (q1.trans h?t183.symm) (by assumption) | exact absurd ((h?t190.trans q2).trans h?t196.symm) (by assumption) | exact absurd q3 (Int.not_le.2 (by assumption)) | (exfalso; omega)
  · first | replace hb4 := dT hb4 | skip
    refine ev_nil (hK3 _ ?_); clear hK3
    refine good_condT rfl ?_
    refine good_seq fun K105 hK105 => ?_
    refine gr rfl ?_
    refine ea rfl (by conv=>lhs;whnf) ?_
    refine ev_nil (hK105 _ ?_); clear hK105
    refine good_ret ?_
    repeat first|refine thenQ_ret ?_|refine blockQ_ret ?_
    refine ret_tmp (st := _) rfl (by conv=>lhs;whnf) rfl ?_
    clear hK2
    first | rfl | exact absurd (q1.trans h?t183.symm) (by assumption) | exact absurd ((h?t190.trans q2).trans h?t196.symm) (by assumption) | exact absurd q3 (Int.not_le.2 (by assumption)) | (exfalso; omega)

end Go.Proofs.Ytdnndlalflahhaa.DFnHydraulics
