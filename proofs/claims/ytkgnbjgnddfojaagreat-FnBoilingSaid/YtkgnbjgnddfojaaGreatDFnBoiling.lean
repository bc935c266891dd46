/- Walks through the functions that FnBoiling reaches: what each answers. -/
import Derived.Test.YtkgnbjgnddfojaaGreatDFnBoilingd
set_option linter.unusedVariables false
set_option linter.unusedSimpArgs false
set_option maxRecDepth 20000
set_option maxHeartbeats 2000000
namespace Go.Proofs.YtkgnbjgnddfojaaGreat.DFnBoiling
open Go Go.RowKit Go.Proofs Go.Proofs.YtkgnbjgnddfojaaGreat Go.Proofs.YtkgnbjgnddfojaaGreat.Ev
-- laws.FnBoiling
set_option maxHeartbeats 4000000 in
theorem D_laws_FnBoiling (cs ds : List Int) (hb : byteL cs) (hb2 : byteL ds) : Den Tryz.prog 4 [.lst 1 (cs.map cb), .lst 1 (ds.map cb)] (.s (.bool true)) := by
  refine den_of_good Tryz.func4 (by decide) rfl (Nat.le_of_ble_eq_true rfl) (Nat.le_of_ble_eq_true rfl) ?_
  refine good_seq fun K1 hK1 => ?_
  refine gr rfl ?_
  refine ea rfl (by conv=>lhs;whnf) ?_
  refine ev_nil (hK1 _ ?_); clear hK1
  refine good_seq fun K2 hK2 => ?_
  refine good_seq fun K3 hK3 => ?_
  refine gr rfl ?_
  refine em rfl (by conv=>lhs;whnf) ?_
  refine em rfl (by conv=>lhs;whnf) ?_
  refine ev_q rfl (q_callB rfl rfl (rfl) (D_laws_r8Long cs ds) ?_)
  intro b4 hb4; cases b4
  · first | replace hb4 := dF hb4 | skip
    refine ev_nil (hK3 _ ?_); clear hK3
    refine good_condF rfl ?_
    refine good_skip (hK2 _ ?_); clear hK2
    refine good_seq fun K5 hK5 => ?_
    refine gr rfl ?_
    refine em rfl (by conv=>lhs;whnf) ?_
    refine ev_k rfl (k_callR [] (D_spec_R8Tree cs (by omega) hb) rfl (rfl) (rfl) trivial rfl (by rintro ⟨n6, p6⟩ hx6_0; exact ⟨trivial, rfl⟩) rfl rfl ?_)
    rintro ⟨n6, p6⟩ hx6_0
    have hT : DrT n6 p6 := hx6_0
    have ok := hT.net
    have htr := hT.tree
    have hz := hT.idz
    have h2 := hT.n2
    have h6 := hT.n6
    have hpl := hT.pl
    have hn : n6.length ≤ 17592186044416 := by omega
    have hp : p6.length ≤ 2513169434843 := by omega
    refine ev_k rfl (k_alloc zA31 rfl ?_)
    refine ev_k rfl (k_store sz31 rfl (by conv=>lhs;whnf) rfl rfl rfl (Nat.le_of_ble_eq_true rfl) rfl ?_)
    refine ev_nil (hK5 _ ?_); clear hK5
    refine good_seq fun K7 hK7 => ?_
    refine gr rfl ?_
    refine em rfl (by conv=>lhs;whnf) ?_
    refine ev_q rfl (q_fieldAddrP fO31_0 rfl rfl ?_)
    refine ev_q rfl (q_load tA22 rfl ?_)
    refine ev_q rfl (q_len tEs22 rfl ?_)
    intro n8 hn8
    try simp only [List.length_map] at hn8
    refine ev_q rfl (q_callI rfl rfl (rfl) (D_laws_r8At ds 0 _ (by omega) hb2 (by omega) (by omega)) ?_)
    intro n9 hn9
    have hsb := r8a_bd (cs := ds) (k := 0) (n := n8) (by omega)
    rw [← hn9] at hsb
    have hs : 0 ≤ n9 ∧ n9 < n6.length := by omega
    refine ea rfl (by conv=>lhs;whnf) ?_
    refine ev_nil (hK7 _ ?_); clear hK7
    refine good_seq fun K10 hK10 => ?_
    refine gr rfl ?_
    refine em rfl (by conv=>lhs;whnf) ?_
    refine ev_q rfl (q_loadA tA31 rfl rfl rfl ?_)
    refine ev_k rfl (k_callR [] (D_spec_R8Water ds n6 p6 (by omega) hb2 (by omega)) rfl (rfl) (rfl) trivial rfl (by rintro w11 hx11_0; exact ⟨trivial, rfl⟩) rfl rfl ?_)
    rintro w11 hx11_0
    have hdm : dmP n6 w11 := hx11_0
    have hsN : n9.toNat < n6.length := by omega
    have hflp := flT_ok hT hsN hdm
    have hdrp := drT_ok hT hsN hdm
    have hfl4 : (flT n6 p6 n9.toNat w11).length ≤ 17592186044416 := by have := hflp.1; omega
    refine ea rfl (by conv=>lhs;whnf) ?_
    refine ev_nil (hK10 _ ?_); clear hK10
    refine good_seq fun K12 hK12 => ?_
    refine gr rfl ?_
    refine ev_q rfl (q_loadA tA31 rfl rfl rfl ?_)
    refine em rfl (by conv=>lhs;whnf) ?_
    refine em rfl (by conv=>lhs;whnf) ?_
    refine ev_q rfl (q_call rfl rfl (rfl) (D_spec_TreeFlows n6 p6 n9 w11 hn hp hz ok hs htr hdm) rfl ?_)
    refine em rfl (by conv=>lhs;whnf) ?_
    refine ev_q rfl (q_extract rfl rfl ?_)
    refine ev_q rfl (q_extractI rfl rfl ?_)
    intro n13 hn13
    refine ea rfl (by conv=>lhs;whnf) ?_
    refine ea rfl (by conv=>lhs;whnf) ?_
    refine ev_nil (hK12 _ ?_); clear hK12
    refine good_seq fun K14 hK14 => ?_
    refine gr rfl ?_
    refine ev_k rfl (k_lit tE22 zA2 rfl rfl (by decide) (by decide) rfl rfl rfl ?_)
    refine ea rfl (by conv=>lhs;whnf) ?_
    refine ev_nil (hK14 _ ?_); clear hK14
    refine good_seq fun K15 hK15 => ?_
    refine good_seq fun K16 hK16 => ?_
    refine gr rfl ?_
    refine ea rfl (by conv=>lhs;whnf) ?_
    refine ev_nil (hK16 _ ?_); clear hK16
    refine good_block ?_
    refine good_loop (α := List Int) (fun u => { env := upd (upd (upd (upd (upd (upd (upd ((fun _ => .junk)) 0 (.lst 1 (cs.map cb))) 1 (.lst 1 (ds.map cb))) 5 (.ptr 5 0)) 6 (.s (.int .i64 (n9)))) 8 (.lst 1 ((flT n6 p6 n9.toNat w11).map ci))) 10 (.own 79 u.length)) 11 (.s (.int .i64 ((u.length : Int)))), H := upd (upd ((fun _ => none)) 79 (some (.row 2 1 (u.map ci)))) 5 (some (.box 31 [.lst 1 (n6.map ci), .lst 6 (p6.map piA)])) }) (fun u => u.length ≤ n6.length ∧ dgR u) (fun u => n6.length - u.length) [] ?_ ?_ ?_
    · exact ⟨by simp, fun x hx => (by cases hx)⟩
    · refine Sub.trans (sub_move 10 63 79 rfl rfl rfl (by decide)) ?_
      refine sub_weak ?_ ?_
      · exact weakH_box (boxEq (rfl)) rfl (weakH_row (rowEq (rfl)) (weakH_none _))
      · refine weakE_upd ?e11 ?r11 (weakE_upd ?e10 ?r10 (weakE_upd ?e8 ?r8 (weakE_upd ?e6 ?r6 (weakE_upd ?e5 ?r5 (weakE_upd ?e1 ?r1 (weakE_upd ?e0 ?r0 (weakE_junk _ _)))))))
        case e0 => first | rfl | exact fI (by omega) | (simp_all)
        case r0 => intro h hh; cases hh
        case e1 => first | rfl | exact fI (by omega) | (simp_all)
        case r1 => intro h hh; cases hh
        case e5 => first | rfl | exact fI (by omega) | (simp_all)
        case r5 => intro h hh; simp [refs] at hh; subst hh; rfl
        case e6 => first | rfl | exact fI (by omega) | (simp_all)
        case r6 => intro h hh; cases hh
        case e8 => first | rfl | exact fI (by omega) | (simp_all)
        case r8 => intro h hh; cases hh
        case e10 => first | rfl | exact fI (by omega) | (first | rfl | exact ownEq (by simp))
        case r10 => intro h hh; simp [refs] at hh; subst hh; rfl
        case e11 => first | rfl | exact fI (by omega) | (first | rfl | exact fI (by simp; omega))
        case r11 => intro h hh; cases hh
    · rintro u ⟨hul0, hdu⟩
      refine good_seq fun K17 hK17 => ?_
      refine good_seq fun K18 hK18 => ?_
      refine gr rfl ?_
      refine em rfl (by conv=>lhs;whnf) ?_
      refine ev_q rfl (q_fieldAddrP fO31_0 rfl rfl ?_)
      refine ev_q rfl (q_load tA22 rfl ?_)
      refine ev_q rfl (q_len tEs22 rfl ?_)
      intro n19 hn19
      try simp only [List.length_map] at hn19
      refine ei rfl rfl rfl ?_
      intro b20 hb20; cases b20
      · replace hb20 := dF hb20
        refine ev_nil (hK18 _ ?_); clear hK18
        refine good_condF rfl ?_
        refine good_exit ?_
        repeat first|refine thenQ_exit ?_|refine blockQ_pass rfl ?_
        refine blockQ_exit (hK15 _ ?_); clear hK15
        refine good_seq fun K21 hK21 => ?_
        refine gr rfl ?_
        have hul : u.length = n6.length := by omega
        have hul4 : u.length ≤ 17592186044416 := by omega
        have hdg : dgP n6 u := dgR_P hdu hul
        have hu0 := dgR_g hdu (v := 0) (by omega)
        refine em rfl (by conv=>lhs;whnf) ?_
        refine ev_q rfl (q_callI rfl rfl (rfl) (D_laws_r8At cs 0 100 (by omega) hb (by omega) (by omega)) ?_)
        intro n22 hn22
        have hmb := r8a_bd (cs := cs) (k := 0) (n := 100) (by omega)
        rw [← hn22] at hmb
        refine ei rfl rfl rfl ?_
        intro n23 hn23
        replace hn23 := in64 hn23 (by omega) (by omega)
        refine ea rfl (by conv=>lhs;whnf) ?_
        refine ev_nil (hK21 _ ?_); clear hK21
        refine good_seq fun K24 hK24 => ?_
        refine gr rfl ?_
        have hsr := sp_0 (s := n9) (mg := n23) ok hs (by omega) hflp hdg htr hdrp
        refine ev_q rfl (q_loadA tA31 rfl rfl rfl ?_)
        refine em rfl (by conv=>lhs;whnf) ?_
        refine em rfl (by conv=>lhs;whnf) ?_
        refine em rfl (by conv=>lhs;whnf) ?_
        refine em rfl (by conv=>lhs;whnf) ?_
        refine ev_q rfl (q_call rfl rfl (by change ([.agg [.lst 1 (n6.map ci), .lst 6 (p6.map piA)], .s (.int .i64 (n9)), .lst 1 ((flT n6 p6 n9.toNat w11).map ci), .lst 1 (List.take u.length (u.map ci)), .s (.int .i64 (n23))] : List AV) = _; simp only [takeMap]) (D_impl_SourcePressure n6 p6 n9 (flT n6 p6 n9.toNat w11) u n23 hn hp hz hfl4 hul4) rfl ?_)
        refine em rfl (by conv=>lhs;whnf) ?_
        refine ev_q rfl (q_extractI rfl rfl ?_)
        intro n25 hn25
        have hLe : n25 = spM (prT n6 p6 n9.toNat w11 0) u n23 n6.length := hn25.trans hsr.2
        have hFB := fb_ok hT hsN hdm hdg (mg := n23) (by omega)
        rw [← hLe] at hFB
        have hr := hFB.r
        refine ev_q rfl (q_extractI rfl rfl ?_)
        intro n26 hn26
        replace hn26 : n26 = 0 := hn26.trans hsr.1
        refine ea rfl (by conv=>lhs;whnf) ?_
        refine ea rfl (by conv=>lhs;whnf) ?_
        refine ev_nil (hK24 _ ?_); clear hK24
        refine good_seq fun K27 hK27 => ?_
        refine good_seq fun K28 hK28 => ?_
        refine gr rfl ?_
        refine em rfl (by conv=>lhs;whnf) ?_
        refine ei rfl rfl rfl ?_
        intro b29 hb29; cases b29
        rotate_left
        · replace hb29 := neT hb29
          exfalso; omega
        replace hb29 := neF hb29
        refine ev_nil (hK28 _ ?_); clear hK28
        refine good_condF rfl ?_
        refine good_skip (hK27 _ ?_); clear hK27
        refine good_seq fun K30 hK30 => ?_
        refine good_seq fun K31 hK31 => ?_
        refine gr rfl ?_
        refine em rfl (by conv=>lhs;whnf) ?_
        refine ei rfl rfl rfl ?_
        intro b32 hb32; cases b32
        rotate_left
        · replace hb32 := dT hb32
          exfalso; omega
        replace hb32 := dF hb32
        refine ev_nil (hK31 _ ?_); clear hK31
        refine good_condF rfl ?_
        refine good_skip (hK30 _ ?_); clear hK30
        refine good_seq fun K33 hK33 => ?_
        refine good_seq fun K34 hK34 => ?_
        refine gr rfl ?_
        refine em rfl (by conv=>lhs;whnf) ?_
        refine ei rfl rfl rfl ?_
        intro b35 hb35; cases b35
        · replace hb35 := dF hb35
          exfalso; omega
        replace hb35 := dT hb35
        refine ev_nil (hK34 _ ?_); clear hK34
        refine good_condT rfl ?_
        refine good_seq fun K36 hK36 => ?_
        refine gr rfl ?_
        refine ev_q rfl (q_loadA tA31 rfl rfl rfl ?_)
        refine em rfl (by conv=>lhs;whnf) ?_
        refine em rfl (by conv=>lhs;whnf) ?_
        refine em rfl (by conv=>lhs;whnf) ?_
        refine ev_q rfl (q_call rfl rfl (rfl) (D_spec_PressuresOf n6 p6 n9 (flT n6 p6 n9.toNat w11) n25 hn hp hz hfl4 ok hs hflp (by omega) htr hdrp) rfl ?_)
        refine em rfl (by conv=>lhs;whnf) ?_
        refine ev_q rfl (q_extract rfl rfl ?_)
        refine ev_q rfl (q_extractI rfl rfl ?_)
        intro n37 hn37
        refine ea rfl (by conv=>lhs;whnf) ?_
        refine ea rfl (by conv=>lhs;whnf) ?_
        refine ev_nil (hK36 _ ?_); clear hK36
        refine good_seq fun K38 hK38 => ?_
        refine gr rfl ?_
        refine em rfl (by conv=>lhs;whnf) ?_
        refine em rfl (by conv=>lhs;whnf) ?_
        refine em rfl (by conv=>lhs;whnf) ?_
        refine ev_k rfl (k_callXc [(38, 900038)] (D_impl_BoilingNodes_X (prT n6 p6 n9.toNat w11 n25) u n23 (by rw [prT_len]; omega) hul4) rfl (by change some ([.lst 1 ((prT n6 p6 n9.toNat w11 n25).map ci), .lst 1 (List.take u.length (u.map ci)), .s (.int .i64 (n23))] : List AV) = some _; (simp only [takeMap]) <;> rfl) (⟨rfl, ⟨pure_ci, trivial⟩⟩) trivial ⟨⟨rfl, show (900038 : Nat) < 1000000 by decide⟩, trivial⟩ rfl rfl rfl ?_)
        refine em rfl (by conv=>lhs;whnf) ?_
        refine ev_q rfl (q_extract rfl rfl ?_)
        refine ev_q rfl (q_extractI rfl rfl ?_)
        intro n39 hn39
        replace hn39 : n39 = 0 := hn39.trans (hFB.w _ hr.1 hr.2).1
        refine ea rfl (by conv=>lhs;whnf) ?_
        refine ea rfl (by conv=>lhs;whnf) ?_
        refine ev_nil (hK38 _ ?_); clear hK38
        refine good_seq fun K40 hK40 => ?_
        refine gr rfl ?_
        refine em rfl (by conv=>lhs;whnf) ?_
        refine em rfl (by conv=>lhs;whnf) ?_
        refine ev_q rfl (q_call rfl rfl (by change ([.lst 1 ((prT n6 p6 n9.toNat w11 n25).map ci), .lst 1 (List.take u.length (u.map ci))] : List AV) = _; simp only [takeMap]) (D_impl_LeastMargin (prT n6 p6 n9.toNat w11 n25) u (by rw [prT_len]; omega) hul4) rfl ?_)
        refine em rfl (by conv=>lhs;whnf) ?_
        refine ev_q rfl (q_extractI rfl rfl ?_)
        intro n41 hn41
        rw [if_pos hFB.m.1, prT_len] at hn41
        refine ev_q rfl (q_extractI rfl rfl ?_)
        intro n42 hn42
        rw [if_pos hFB.m.1, prT_len] at hn42
        refine ev_q rfl (q_extractI rfl rfl ?_)
        intro n43 hn43
        rw [hFB.m.1] at hn43
        obtain ⟨m1, m2, m3, m4⟩ := hFB.m
        refine ea rfl (by conv=>lhs;whnf) ?_
        refine ea rfl (by conv=>lhs;whnf) ?_
        refine ea rfl (by conv=>lhs;whnf) ?_
        refine ev_nil (hK40 _ ?_); clear hK40
        refine good_seq fun K44 hK44 => ?_
        refine gr rfl ?_
        refine em rfl (by conv=>lhs;whnf) ?_
        refine em rfl (by conv=>lhs;whnf) ?_
        refine em rfl (by conv=>lhs;whnf) ?_
        refine ev_q rfl (q_call rfl rfl (by change ([.lst 1 ((prT n6 p6 n9.toNat w11 n25).map ci), .lst 1 (List.take u.length (u.map ci)), .s (.int .i64 (n23)), .s (.int .i64 100000000)] : List AV) = _; simp only [takeMap]) (D_impl_PressureRoom (prT n6 p6 n9.toNat w11 n25) u n23 100000000 (by rw [prT_len]; omega) hul4) rfl ?_)
        refine em rfl (by conv=>lhs;whnf) ?_
        refine ev_q rfl (q_extractI rfl rfl ?_)
        intro n45 hn45
        rw [if_pos hFB.p.1, prT_len] at hn45
        refine ev_q rfl (q_extractI rfl rfl ?_)
        intro n46 hn46
        rw [if_pos hFB.p.1, prT_len] at hn46
        refine ev_q rfl (q_extractI rfl rfl ?_)
        intro n47 hn47
        rw [hFB.p.1] at hn47
        obtain ⟨p1, p2, p3, p4⟩ := hFB.p
        have b1 := hFB.b
        refine ea rfl (by conv=>lhs;whnf) ?_
        refine ea rfl (by conv=>lhs;whnf) ?_
        refine ea rfl (by conv=>lhs;whnf) ?_
        refine ev_nil (hK44 _ ?_); clear hK44
        refine good_seq fun K48 hK48 => ?_
        refine good_seq fun K49 hK49 => ?_
        refine gr rfl ?_
        refine em rfl (by conv=>lhs;whnf) ?_
        refine ei rfl rfl rfl ?_
        intro b50 hb50; cases b50
        rotate_left
        · replace hb50 := neT hb50
          exfalso; omega
        replace hb50 := neF hb50
        refine em rfl (by conv=>lhs;whnf) ?_
        refine em rfl (by conv=>lhs;whnf) ?_
        refine ei rfl rfl rfl ?_
        intro b51 hb51; cases b51
        rotate_left
        · replace hb51 := neT hb51
          exfalso; omega
        replace hb51 := neF hb51
        refine ev_q rfl (q_pickF rfl (by conv=>lhs;whnf) ?_)
        refine em rfl (by conv=>lhs;whnf) ?_
        refine em rfl (by conv=>lhs;whnf) ?_
        refine ev_q rfl (q_len tEs22 rfl ?_)
        intro n52 hn52
        try simp only [List.length_map] at hn52
        refine ei rfl rfl rfl ?_
        intro b53 hb53; cases b53
        rotate_left
        · replace hb53 := neT hb53
          exfalso; omega
        replace hb53 := neF hb53
        refine ev_q rfl (q_pickF rfl (by conv=>lhs;whnf) ?_)
        refine em rfl (by conv=>lhs;whnf) ?_
        refine em rfl (by conv=>lhs;whnf) ?_
        refine ei rfl rfl rfl ?_
        intro b54 hb54; cases b54
        rotate_left
        · replace hb54 := neT hb54
          exfalso; omega
        replace hb54 := neF hb54
        refine ev_q rfl (q_pickF rfl (by conv=>lhs;whnf) ?_)
        refine em rfl (by conv=>lhs;whnf) ?_
        refine em rfl (by conv=>lhs;whnf) ?_
        refine ei rfl rfl rfl ?_
        intro b55 hb55; cases b55
        rotate_left
        · replace hb55 := dT hb55
          exfalso; omega
        replace hb55 := dF hb55
        refine ev_q rfl (q_pickF rfl (by conv=>lhs;whnf) ?_)
        refine em rfl (by conv=>lhs;whnf) ?_
        refine em rfl (by conv=>lhs;whnf) ?_
        refine ev_q rfl (q_fieldAddrP fO31_0 rfl rfl ?_)
        refine ev_q rfl (q_load tA22 rfl ?_)
        refine ev_q rfl (q_len tEs22 rfl ?_)
        intro n56 hn56
        try simp only [List.length_map] at hn56
        refine ei rfl rfl rfl ?_
        intro b57 hb57; cases b57
        rotate_left
        · replace hb57 := dT hb57
          exfalso; omega
        replace hb57 := dF hb57
        refine ev_q rfl (q_pickF rfl (by conv=>lhs;whnf) ?_)
        refine em rfl (by conv=>lhs;whnf) ?_
        refine em rfl (by conv=>lhs;whnf) ?_
        refine em rfl (by conv=>lhs;whnf) ?_
        refine ei rfl rfl rfl ?_
        intro b58 hb58; cases b58
        rotate_left
        · replace hb58 := dT hb58
          exfalso; omega
        replace hb58 := dF hb58
        refine ev_q rfl (q_pickF rfl (by conv=>lhs;whnf) ?_)
        refine em rfl (by conv=>lhs;whnf) ?_
        refine em rfl (by conv=>lhs;whnf) ?_
        refine ei rfl rfl rfl ?_
        intro b59 hb59; cases b59
        · replace hb59 := dF hb59
          refine em rfl (by conv=>lhs;whnf) ?_
          refine ev_skip rfl ?_
          refine ev_skip rfl ?_
          refine ev_skip rfl ?_
          refine ev_q rfl (q_pickF rfl (by conv=>lhs;whnf) ?_)
          refine ev_q rfl (q_pickF rfl (by conv=>lhs;whnf) ?_)
          refine em rfl (by conv=>lhs;whnf) ?_
          refine em rfl (by conv=>lhs;whnf) ?_
          refine ei rfl rfl rfl ?_
          intro b60 hb60; cases b60
          rotate_left
          · replace hb60 := neT hb60
            exfalso; omega
          replace hb60 := neF hb60
          refine ev_q rfl (q_pickF rfl (by conv=>lhs;whnf) ?_)
          refine em rfl (by conv=>lhs;whnf) ?_
          refine em rfl (by conv=>lhs;whnf) ?_
          refine ei rfl rfl rfl ?_
          intro b61 hb61; cases b61
          rotate_left
          · replace hb61 := dT hb61
            exfalso; omega
          replace hb61 := dF hb61
          refine ev_q rfl (q_pickF rfl (by conv=>lhs;whnf) ?_)
          refine em rfl (by conv=>lhs;whnf) ?_
          refine em rfl (by conv=>lhs;whnf) ?_
          refine em rfl (by conv=>lhs;whnf) ?_
          refine ei rfl rfl rfl ?_
          intro b62 hb62; cases b62
          rotate_left
          · replace hb62 := dT hb62
            exfalso; omega
          replace hb62 := dF hb62
          refine ev_q rfl (q_pickF rfl (by conv=>lhs;whnf) ?_)
          refine em rfl (by conv=>lhs;whnf) ?_
          refine em rfl (by conv=>lhs;whnf) ?_
          refine ei rfl rfl rfl ?_
          intro b63 hb63; cases b63
          rotate_left
          · replace hb63 := dT hb63
            exfalso; omega
          replace hb63 := dF hb63
          refine em rfl (by conv=>lhs;whnf) ?_
          refine ev_skip rfl ?_
          refine ev_skip rfl ?_
          refine ev_q rfl (q_pickF rfl (by conv=>lhs;whnf) ?_)
          refine ev_q rfl (q_pickF rfl (by conv=>lhs;whnf) ?_)
          refine ev_nil (hK49 _ ?_); clear hK49
          refine good_condF rfl ?_
          refine good_skip (hK48 _ ?_); clear hK48
          refine good_join { env := upd (upd (upd (upd (upd (upd (upd ((fun _ => .junk)) 0 (.lst 1 (cs.map cb))) 1 (.lst 1 (ds.map cb))) 5 (.ptr 5 0)) 6 (.s (.int .i64 (n9)))) 10 (.own 79 u.length)) 12 (.s (.int .i64 (n23)))) 15 (.lst 1 ((prT n6 p6 n9.toNat w11 n25).map ci)), H := upd (upd ((fun _ => none)) 79 (some (.row 2 1 (u.map ci)))) 5 (some (.box 31 [.lst 1 (n6.map ci), .lst 6 (p6.map piA)])) } ?_ fun K64 hK64 => ?_
          · refine good_seq fun K65 hK65 => ?_
            refine gr rfl ?_
            refine em rfl (by conv=>lhs;whnf) ?_
            refine ev_q rfl (q_call rfl rfl (rfl) (D_impl_TooHigh (prT n6 p6 n9.toNat w11 n25) 700000 (by rw [prT_len]; omega)) rfl ?_)
            refine em rfl (by conv=>lhs;whnf) ?_
            refine ev_q rfl (q_extract rfl rfl ?_)
            refine ev_q rfl (q_extractI rfl rfl ?_)
            intro n66 hn66
            have hth := (hFB.w _ hr.1 hr.2).2.2.1
            replace hn66 : n66 = 0 := hn66.trans hth
            refine ea rfl (by conv=>lhs;whnf) ?_
            refine ea rfl (by conv=>lhs;whnf) ?_
            refine ev_nil (hK65 _ ?_); clear hK65
            refine good_seq fun K67 hK67 => ?_
            refine good_seq fun K68 hK68 => ?_
            refine gr rfl ?_
            refine em rfl (by conv=>lhs;whnf) ?_
            refine ei rfl rfl rfl ?_
            intro b69 hb69; cases b69
            rotate_left
            · replace hb69 := neT hb69
              exfalso; omega
            replace hb69 := neF hb69
            refine ev_nil (hK68 _ ?_); clear hK68
            refine good_condF rfl ?_
            refine good_skip (hK67 _ ?_); clear hK67
            refine good_seq fun K70 hK70 => ?_
            refine gr rfl ?_
            refine ea rfl (by conv=>lhs;whnf) ?_
            refine ev_nil (hK70 _ ?_); clear hK70
            refine good_block ?_
            refine good_loop (α := Nat) (fun j => { env := upd (upd (upd (upd (upd (upd (upd (upd (upd ((fun _ => .junk)) 0 (.lst 1 (cs.map cb))) 1 (.lst 1 (ds.map cb))) 5 (.ptr 5 0)) 6 (.s (.int .i64 (n9)))) 10 (.own 79 u.length)) 12 (.s (.int .i64 (n23)))) 15 (.lst 1 ((prT n6 p6 n9.toNat w11 n25).map ci))) 29 (.lst 1 ((thL (prT n6 p6 n9.toNat w11 n25) 700000).map ci))) 31 (.s (.int .i64 ((j : Int)))), H := upd (upd ((fun _ => none)) 79 (some (.row 2 1 (u.map ci)))) 5 (some (.box 31 [.lst 1 (n6.map ci), .lst 6 (p6.map piA)])) }) (fun j => j ≤ n6.length) (fun j => n6.length - j) 0 ?_ ?_ ?_
            · exact Nat.zero_le _
            · refine sub_weak ?_ ?_
              · exact weakH_box (boxEq (rfl)) rfl (weakH_row (rowEq (rfl)) (weakH_none _))
              · refine weakE_upd ?e31 ?r31 (weakE_upd ?e29 ?r29 (weakE_upd ?e15 ?r15 (weakE_upd ?e12 ?r12 (weakE_upd ?e10 ?r10 (weakE_upd ?e6 ?r6 (weakE_upd ?e5 ?r5 (weakE_upd ?e1 ?r1 (weakE_upd ?e0 ?r0 (weakE_junk _ _)))))))))
                case e0 => first | rfl | exact fI (by omega) | (simp_all)
                case r0 => intro h hh; cases hh
                case e1 => first | rfl | exact fI (by omega) | (simp_all)
                case r1 => intro h hh; cases hh
                case e5 => first | rfl | exact fI (by omega) | (simp_all)
                case r5 => intro h hh; simp [refs] at hh; subst hh; rfl
                case e6 => first | rfl | exact fI (by omega) | (simp_all)
                case r6 => intro h hh; cases hh
                case e10 => first | rfl | exact fI (by omega) | (simp_all)
                case r10 => intro h hh; simp [refs] at hh; subst hh; rfl
                case e12 => first | rfl | exact fI (by omega) | (simp_all)
                case r12 => intro h hh; cases hh
                case e15 => first | rfl | exact fI (by omega) | (simp_all)
                case r15 => intro h hh; cases hh
                case e29 => first | rfl | exact fI (by omega) | (simp_all)
                case r29 => intro h hh; cases hh
                case e31 => first | rfl | exact fI (by omega) | (simp_all)
                case r31 => intro h hh; cases hh
            · rintro j hj
              refine good_seq fun K71 hK71 => ?_
              refine good_seq fun K72 hK72 => ?_
              refine gr rfl ?_
              refine em rfl (by conv=>lhs;whnf) ?_
              refine em rfl (by conv=>lhs;whnf) ?_
              refine ev_q rfl (q_len tEs22 rfl ?_)
              intro n73 hn73
              try simp only [List.length_map] at hn73
              rw [prT_len] at hn73
              refine ei rfl rfl rfl ?_
              intro b74 hb74; cases b74
              · replace hb74 := dF hb74
                refine ev_nil (hK72 _ ?_); clear hK72
                refine good_condF rfl ?_
                refine good_exit ?_
                repeat first|refine thenQ_exit ?_|refine blockQ_pass rfl ?_
                refine blockQ_exit (hK33 _ ?_); clear hK33
                refine good_seq fun K75 hK75 => ?_
                refine gr rfl ?_
                refine em rfl (by conv=>lhs;whnf) ?_
                refine ev_q rfl (q_callI rfl rfl (rfl) (D_laws_r8Wide ds 20 1200 (by omega) hb2 (by omega) (by omega)) ?_)
                intro n76 hn76
                have hwp := r8w_bd (cs := ds) (k := 20) (n := 1200) (by omega)
                rw [← hn76] at hwp
                refine ei rfl rfl rfl ?_
                intro n77 hn77
                replace hn77 := in64 hn77 (by omega) (by omega)
                refine ea rfl (by conv=>lhs;whnf) ?_
                refine ev_nil (hK75 _ ?_); clear hK75
                refine good_seq fun K78 hK78 => ?_
                refine gr rfl ?_
                refine em rfl (by conv=>lhs;whnf) ?_
                refine em rfl (by conv=>lhs;whnf) ?_
                refine ev_q rfl (q_call rfl rfl (rfl) (D_impl_HottestWater _ _) rfl ?_)
                refine em rfl (by conv=>lhs;whnf) ?_
                refine ev_q rfl (q_extractI rfl rfl ?_)
                intro n79 hn79
                have hho := hot_all n77 n23
                rw [if_pos ⟨by omega, by omega⟩] at hn79
                refine ev_q rfl (q_extractI rfl rfl ?_)
                intro n80 hn80
                rw [if_pos ⟨by omega, by omega⟩] at hn80
                refine ea rfl (by conv=>lhs;whnf) ?_
                refine ea rfl (by conv=>lhs;whnf) ?_
                refine ev_nil (hK78 _ ?_); clear hK78
                refine good_seq fun K81 hK81 => ?_
                refine good_seq fun K82 hK82 => ?_
                refine gr rfl ?_
                refine em rfl (by conv=>lhs;whnf) ?_
                refine ei rfl rfl rfl ?_
                intro b83 hb83; cases b83
                · replace hb83 := neF hb83
                  refine ev_nil (hK82 _ ?_); clear hK82
                  refine good_condF rfl ?_
                  refine good_skip (hK81 _ ?_); clear hK81
                  refine good_seq fun K84 hK84 => ?_
                  refine gr rfl ?_
                  have hh0 : ¬ hot n77 n23 = 0 := by intro e; rw [if_pos e] at hn80; omega
                  rw [if_neg hh0] at hn79
                  have hh1 := hho.2.2.1 n79 (by omega) (by omega)
                  have hh2 : n79 < 18000 → stm (n79 + 1) + n23 > n77 := fun h => by have := hho.2.2.2 (by omega); rwa [show n79 + 1 = hot n77 n23 by omega]
                  refine em rfl (by conv=>lhs;whnf) ?_
                  refine ev_q rfl (q_call rfl rfl (rfl) (D_spec_SteamPressure _) rfl ?_)
                  refine em rfl (by conv=>lhs;whnf) ?_
                  refine ev_q rfl (q_extractI rfl rfl ?_)
                  intro n85 hn85
                  rw [if_pos (by omega)] at hn85
                  have hst1 := stm_bd n79
                  refine ev_q rfl (q_extractI rfl rfl ?_)
                  intro n86 hn86
                  rw [if_pos (by omega)] at hn86
                  refine ea rfl (by conv=>lhs;whnf) ?_
                  refine ea rfl (by conv=>lhs;whnf) ?_
                  refine ev_nil (hK84 _ ?_); clear hK84
                  refine good_seq fun K87 hK87 => ?_
                  refine gr rfl ?_
                  refine em rfl (by conv=>lhs;whnf) ?_
                  refine ei rfl rfl rfl ?_
                  intro n88 hn88
                  replace hn88 := in64 hn88 (by omega) (by omega)
                  refine ev_q rfl (q_call rfl rfl (rfl) (D_spec_SteamPressure _) rfl ?_)
                  refine em rfl (by conv=>lhs;whnf) ?_
                  refine ev_q rfl (q_extractI rfl rfl ?_)
                  intro n89 hn89
                  have hst2 := stm_bd (n79 + 1)
                  have e262 : n88 = n79 + 1 := by omega
                  rw [e262] at hn89
                  have hb264 : 0 ≤ n89 ∧ n89 ≤ 1200001 := by rw [hn89]; split <;> omega
                  refine ev_q rfl (q_extractI rfl rfl ?_)
                  intro n90 hn90
                  rw [e262] at hn90
                  refine ea rfl (by conv=>lhs;whnf) ?_
                  refine ea rfl (by conv=>lhs;whnf) ?_
                  refine ev_nil (hK87 _ ?_); clear hK87
                  refine good_seq fun K91 hK91 => ?_
                  refine good_draw 12 hmix (by kernel_rfl) rfl ?_
                  refine qo_q rfl (q_loadA tA31 rfl rfl rfl ?_)
                  refine qm rfl (by conv=>lhs;whnf) ?_
                  refine qm rfl (by conv=>lhs;whnf) ?_
                  refine qo_q rfl (q_idxO tE22 rfl rfl rfl (by first | omega | exact Int.natCast_nonneg _) (by omega) rfl ?_)
                  refine qo_q rfl (q_loadE tA2 rfl rfl (by exact getG (t := u) (v := 0) (by omega)) rfl ?_)
                  refine qm rfl (by conv=>lhs;whnf) ?_
                  refine qo_q rfl (q_call rfl rfl (rfl) (D_impl_StillPressure n6 p6 n9 (u.getD 0 0) n23 hn hp hz) rfl ?_)
                  refine qm rfl (by conv=>lhs;whnf) ?_
                  refine qo_q rfl (q_extractI rfl rfl ?_)
                  intro n92 hn92
                  have hso := spO0 (k := n9) (t := u.getD 0 0) (m := n23) ok ⟨hs, by omega, by omega⟩
                  rw [if_pos hso] at hn92
                  have hsg := still_ge (ns := n6) (k := n9) (t := u.getD 0 0) (m := n23) hs
                  refine qo_q rfl (q_extractI rfl rfl ?_)
                  intro n93 hn93
                  rw [hso] at hn93
                  refine qa rfl (by conv=>lhs;whnf) ?_
                  refine qa rfl (by conv=>lhs;whnf) ?_
                  refine qo_nil ?_
                  refine ev_nil (hK91 _ ?_); clear hK91
                  refine good_seq fun K94 hK94 => ?_
                  refine gr rfl ?_
                  refine em rfl (by conv=>lhs;whnf) ?_
                  refine ev_q rfl (q_idxO tE22 rfl rfl rfl (by first | omega | exact Int.natCast_nonneg _) (by omega) rfl ?_)
                  refine ev_q rfl (q_loadE tA2 rfl rfl (by exact getG (t := u) (v := 0) (by omega)) rfl ?_)
                  refine ev_q rfl (q_call rfl rfl (rfl) (D_spec_SteamPressure _) rfl ?_)
                  refine em rfl (by conv=>lhs;whnf) ?_
                  refine ev_q rfl (q_extractI rfl rfl ?_)
                  intro n95 hn95
                  rw [if_pos (by omega)] at hn95
                  have hst3 := stm_bd (u.getD 0 0)
                  refine ev_q rfl (q_extractI rfl rfl ?_)
                  intro n96 hn96
                  rw [if_pos (by omega)] at hn96
                  refine ea rfl (by conv=>lhs;whnf) ?_
                  refine ea rfl (by conv=>lhs;whnf) ?_
                  refine ev_nil (hK94 _ ?_); clear hK94
                  refine good_seq fun K97 hK97 => ?_
                  refine gr rfl ?_
                  refine em rfl (by conv=>lhs;whnf) ?_
                  refine ei rfl rfl rfl ?_
                  intro b98 hb98; cases b98
                  · replace hb98 := eqF hb98
                    exfalso; omega
                  replace hb98 := eqT hb98
                  refine em rfl (by conv=>lhs;whnf) ?_
                  refine em rfl (by conv=>lhs;whnf) ?_
                  refine em rfl (by conv=>lhs;whnf) ?_
                  refine ei rfl rfl rfl ?_
                  intro n99 hn99
                  replace hn99 := in64 hn99 (by omega) (by omega)
                  refine em rfl (by conv=>lhs;whnf) ?_
                  refine ei rfl rfl rfl ?_
                  intro b100 hb100; cases b100
                  · replace hb100 := dF hb100
                    exfalso; omega
                  replace hb100 := dT hb100
                  refine ev_q rfl (q_pickT rfl (by conv=>lhs;whnf) ?_)
                  refine em rfl (by conv=>lhs;whnf) ?_
                  refine em rfl (by conv=>lhs;whnf) ?_
                  refine ei rfl rfl rfl ?_
                  intro b101 hb101; cases b101
                  · replace hb101 := neF hb101
                    refine em rfl (by conv=>lhs;whnf) ?_
                    refine em rfl (by conv=>lhs;whnf) ?_
                    refine em rfl (by conv=>lhs;whnf) ?_
                    refine ei rfl rfl rfl ?_
                    intro n102 hn102
                    replace hn102 := in64 hn102 (by omega) (by omega)
                    refine em rfl (by conv=>lhs;whnf) ?_
                    refine ei rfl rfl rfl ?_
                    intro b103 hb103; cases b103
                    · replace hb103 := dF hb103
                      refine ev_q rfl (q_pickF rfl (by conv=>lhs;whnf) ?_)
                      refine ev_q rfl (q_pickT rfl (by conv=>lhs;whnf) ?_)
                      refine em rfl (by conv=>lhs;whnf) ?_
                      refine ev_skip rfl ?_
                      refine ev_skip rfl ?_
                      refine ev_q rfl (q_pickF rfl (by conv=>lhs;whnf) ?_)
                      refine em rfl (by conv=>lhs;whnf) ?_
                      refine ev_skip rfl ?_
                      refine ev_skip rfl ?_
                      refine ev_q rfl (q_pickF rfl (by conv=>lhs;whnf) ?_)
                      refine em rfl (by conv=>lhs;whnf) ?_
                      refine ev_skip rfl ?_
                      refine ev_skip rfl ?_
                      refine ev_skip rfl ?_
                      refine ev_skip rfl ?_
                      refine ev_skip rfl ?_
                      refine ev_q rfl (q_pickF rfl (by conv=>lhs;whnf) ?_)
                      refine ea rfl (by conv=>lhs;whnf) ?_
                      refine ev_nil (hK97 _ ?_); clear hK97
                      refine good_ret ?_
                      repeat first|refine thenQ_ret ?_|refine blockQ_ret ?_
                      refine ret_tmp (st := _) rfl (by conv=>lhs;whnf) rfl ?_
                      clear hK17 hK71
                      first | rfl | (exfalso; omega)
                    · replace hb103 := dT hb103
                      refine ev_q rfl (q_pickF rfl (by conv=>lhs;whnf) ?_)
                      refine ev_q rfl (q_pickT rfl (by conv=>lhs;whnf) ?_)
                      refine em rfl (by conv=>lhs;whnf) ?_
                      refine em rfl (by conv=>lhs;whnf) ?_
                      refine ei rfl rfl rfl ?_
                      intro b104 hb104; cases b104
                      · replace hb104 := eqF hb104
                        exfalso; omega
                      replace hb104 := eqT hb104
                      refine ev_q rfl (q_pickT rfl (by conv=>lhs;whnf) ?_)
                      refine em rfl (by conv=>lhs;whnf) ?_
                      refine em rfl (by conv=>lhs;whnf) ?_
                      refine ei rfl rfl rfl ?_
                      intro b105 hb105; cases b105
                      · replace hb105 := eqF hb105
                        exfalso; omega
                      replace hb105 := eqT hb105
                      refine ev_q rfl (q_pickT rfl (by conv=>lhs;whnf) ?_)
                      refine em rfl (by conv=>lhs;whnf) ?_
                      refine em rfl (by conv=>lhs;whnf) ?_
                      refine em rfl (by conv=>lhs;whnf) ?_
                      refine em rfl (by conv=>lhs;whnf) ?_
                      refine ei rfl rfl rfl ?_
                      intro n106 hn106
                      replace hn106 := in64 hn106 (by omega) (by omega)
                      refine ei rfl rfl rfl ?_
                      intro b107 hb107; cases b107
                      · replace hb107 := dF hb107
                        exfalso; omega
                      replace hb107 := dT hb107
                      refine ev_q rfl (q_pickT rfl (by conv=>lhs;whnf) ?_)
                      refine ea rfl (by conv=>lhs;whnf) ?_
                      refine ev_nil (hK97 _ ?_); clear hK97
                      refine good_ret ?_
                      repeat first|refine thenQ_ret ?_|refine blockQ_ret ?_
                      refine ret_tmp (st := _) rfl (by conv=>lhs;whnf) rfl ?_
                      clear hK17 hK71
                      first | rfl | (exfalso; omega)
                  · replace hb101 := neT hb101
                    refine em rfl (by conv=>lhs;whnf) ?_
                    refine ev_skip rfl ?_
                    refine ev_skip rfl ?_
                    refine ev_skip rfl ?_
                    refine ev_skip rfl ?_
                    refine ev_skip rfl ?_
                    refine ev_q rfl (q_pickT rfl (by conv=>lhs;whnf) ?_)
                    refine ev_q rfl (q_pickT rfl (by conv=>lhs;whnf) ?_)
                    refine em rfl (by conv=>lhs;whnf) ?_
                    refine em rfl (by conv=>lhs;whnf) ?_
                    refine ei rfl rfl rfl ?_
                    intro b108 hb108; cases b108
                    · replace hb108 := eqF hb108
                      exfalso; omega
                    replace hb108 := eqT hb108
                    refine ev_q rfl (q_pickT rfl (by conv=>lhs;whnf) ?_)
                    refine em rfl (by conv=>lhs;whnf) ?_
                    refine em rfl (by conv=>lhs;whnf) ?_
                    refine ei rfl rfl rfl ?_
                    intro b109 hb109; cases b109
                    · replace hb109 := eqF hb109
                      exfalso; omega
                    replace hb109 := eqT hb109
                    refine ev_q rfl (q_pickT rfl (by conv=>lhs;whnf) ?_)
                    refine em rfl (by conv=>lhs;whnf) ?_
                    refine em rfl (by conv=>lhs;whnf) ?_
                    refine em rfl (by conv=>lhs;whnf) ?_
                    refine em rfl (by conv=>lhs;whnf) ?_
                    refine ei rfl rfl rfl ?_
                    intro n110 hn110
                    replace hn110 := in64 hn110 (by omega) (by omega)
                    refine ei rfl rfl rfl ?_
                    intro b111 hb111; cases b111
                    · replace hb111 := dF hb111
                      exfalso; omega
                    replace hb111 := dT hb111
                    refine ev_q rfl (q_pickT rfl (by conv=>lhs;whnf) ?_)
                    refine ea rfl (by conv=>lhs;whnf) ?_
                    refine ev_nil (hK97 _ ?_); clear hK97
                    refine good_ret ?_
                    repeat first|refine thenQ_ret ?_|refine blockQ_ret ?_
                    refine ret_tmp (st := _) rfl (by conv=>lhs;whnf) rfl ?_
                    clear hK17 hK71
                    first | rfl | (exfalso; omega)
                · replace hb83 := neT hb83
                  refine ev_nil (hK82 _ ?_); clear hK82
                  refine good_condT rfl ?_
                  refine good_seq fun K112 hK112 => ?_
                  refine gr rfl ?_
                  refine em rfl (by conv=>lhs;whnf) ?_
                  refine ei rfl rfl rfl ?_
                  intro b113 hb113; cases b113
                  · replace hb113 := eqF hb113
                    exfalso; split at hn80 <;> omega
                  replace hb113 := eqT hb113
                  refine ea rfl (by conv=>lhs;whnf) ?_
                  refine ev_nil (hK112 _ ?_); clear hK112
                  refine good_ret ?_
                  repeat first|refine thenQ_ret ?_|refine blockQ_ret ?_
                  refine ret_tmp (st := _) rfl (by conv=>lhs;whnf) rfl ?_
                  clear hK17 hK71 hK81
                  first | rfl | (exfalso; omega)
              · replace hb74 := dT hb74
                have hmem := ixs_mem (p := fun i => 700000 < gd (prT n6 p6 n9.toNat w11 n25) i) (j := j) (prT n6 p6 n9.toNat w11 n25).length
                rw [← thL_ok hth, prT_len] at hmem
                refine ev_nil (hK72 _ ?_); clear hK72
                refine good_condT rfl ?_
                refine good_skip (hK71 _ ?_); clear hK71
                refine good_seq fun K114 hK114 => ?_
                refine good_block ?_
                refine good_seq fun K115 hK115 => ?_
                refine good_draw 9 hmix (by kernel_rfl) rfl ?_
                refine qm rfl (by conv=>lhs;whnf) ?_
                refine qm rfl (by conv=>lhs;whnf) ?_
                refine qo_q rfl (q_callB rfl rfl (rfl) (D_laws_r8Has (thL (prT n6 p6 n9.toNat w11 n25) 700000) _ (by have := (thL_len (xs := (prT n6 p6 n9.toNat w11 n25)) (lim := 700000)).1; omega)) ?_)
                intro b116 hb116; cases b116
                · first | replace hb116 := dF hb116 | skip
                  refine qm rfl (by conv=>lhs;whnf) ?_
                  refine qm rfl (by conv=>lhs;whnf) ?_
                  refine qo_q rfl (q_idx tE22 rfl rfl (by first | omega | exact Int.natCast_nonneg _) (by exact getG (t := (prT n6 p6 n9.toNat w11 n25)) (v := j) (by rw [prT_len]; omega)) rfl ?_)
                  refine qo_q rfl (q_load tA2 rfl ?_)
                  refine qo_q rfl (q_int rfl rfl ?_)
                  intro b117 hb117; cases b117
                  rotate_left
                  · replace hb117 := dT hb117
                    exfalso; exact absurd (hmem.2 ⟨by omega, by show 700000 < (prT n6 p6 n9.toNat w11 n25).getD j 0; omega⟩) (by assumption)
                  replace hb117 := dF hb117
                  refine qo_q rfl (q_bne tB4 rfl rfl ?_)
                  intro b118 hb118; replace hb118 : b118 = false := hb118; subst hb118
                  refine qo_nil ?_
                  refine ev_nil (hK115 _ ?_); clear hK115
                  refine good_condF rfl ?_
                  refine good_skip (hK114 _ ?_); clear hK114
                  refine gr rfl ?_
                  refine em rfl (by conv=>lhs;whnf) ?_
                  refine ei rfl rfl rfl ?_
                  intro n119 hn119
                  replace hn119 := in64 hn119 (by omega) (by omega)
                  refine ea rfl (by conv=>lhs;whnf) ?_
                  refine ev_nil ?_
                  clear hK17 hK33
                  refine ⟨j + 1, ?_, ?_, ?_⟩
                  · show _ ≤ _; omega
                  · first | omega | (simp only []; omega) | (dsimp only; omega)
                  · refine sub_weak ?_ ?_
                    · exact weakH_box (boxEq (rfl)) rfl (weakH_row (rowEq (rfl)) (weakH_none _))
                    · refine weakE_upd ?e31 ?r31 (weakE_upd ?e29 ?r29 (weakE_upd ?e15 ?r15 (weakE_upd ?e12 ?r12 (weakE_upd ?e10 ?r10 (weakE_upd ?e6 ?r6 (weakE_upd ?e5 ?r5 (weakE_upd ?e1 ?r1 (weakE_upd ?e0 ?r0 (weakE_junk _ _)))))))))
                      case e0 => first | rfl | exact fI (by omega) | (simp_all)
                      case r0 => intro h hh; cases hh
                      case e1 => first | rfl | exact fI (by omega) | (simp_all)
                      case r1 => intro h hh; cases hh
                      case e5 => first | rfl | exact fI (by omega) | (simp_all)
                      case r5 => intro h hh; simp [refs] at hh; subst hh; rfl
                      case e6 => first | rfl | exact fI (by omega) | (simp_all)
                      case r6 => intro h hh; cases hh
                      case e10 => first | rfl | exact fI (by omega) | (simp_all)
                      case r10 => intro h hh; simp [refs] at hh; subst hh; rfl
                      case e12 => first | rfl | exact fI (by omega) | (simp_all)
                      case r12 => intro h hh; cases hh
                      case e15 => first | rfl | exact fI (by omega) | (simp_all)
                      case r15 => intro h hh; cases hh
                      case e29 => first | rfl | exact fI (by omega) | (simp_all)
                      case r29 => intro h hh; cases hh
                      case e31 => first | rfl | exact fI (by omega) | (simp_all)
                      case r31 => intro h hh; cases hh
                · first | replace hb116 := dT hb116 | skip
                  refine qm rfl (by conv=>lhs;whnf) ?_
                  refine qm rfl (by conv=>lhs;whnf) ?_
                  refine qo_q rfl (q_idx tE22 rfl rfl (by first | omega | exact Int.natCast_nonneg _) (by exact getG (t := (prT n6 p6 n9.toNat w11 n25)) (v := j) (by rw [prT_len]; omega)) rfl ?_)
                  refine qo_q rfl (q_load tA2 rfl ?_)
                  refine qo_q rfl (q_int rfl rfl ?_)
                  intro b120 hb120; cases b120
                  · replace hb120 := dF hb120
                    exfalso; have q : 700000 < (prT n6 p6 n9.toNat w11 n25).getD j 0 := (hmem.1 (by assumption)).2; omega
                  replace hb120 := dT hb120
                  refine qo_q rfl (q_bne tB4 rfl rfl ?_)
                  intro b121 hb121; replace hb121 : b121 = false := hb121; subst hb121
                  refine qo_nil ?_
                  refine ev_nil (hK115 _ ?_); clear hK115
                  refine good_condF rfl ?_
                  refine good_skip (hK114 _ ?_); clear hK114
                  refine gr rfl ?_
                  refine em rfl (by conv=>lhs;whnf) ?_
                  refine ei rfl rfl rfl ?_
                  intro n122 hn122
                  replace hn122 := in64 hn122 (by omega) (by omega)
                  refine ea rfl (by conv=>lhs;whnf) ?_
                  refine ev_nil ?_
                  clear hK17 hK33
                  refine ⟨j + 1, ?_, ?_, ?_⟩
                  · show _ ≤ _; omega
                  · first | omega | (simp only []; omega) | (dsimp only; omega)
                  · refine sub_weak ?_ ?_
                    · exact weakH_box (boxEq (rfl)) rfl (weakH_row (rowEq (rfl)) (weakH_none _))
                    · refine weakE_upd ?e31 ?r31 (weakE_upd ?e29 ?r29 (weakE_upd ?e15 ?r15 (weakE_upd ?e12 ?r12 (weakE_upd ?e10 ?r10 (weakE_upd ?e6 ?r6 (weakE_upd ?e5 ?r5 (weakE_upd ?e1 ?r1 (weakE_upd ?e0 ?r0 (weakE_junk _ _)))))))))
                      case e0 => first | rfl | exact fI (by omega) | (simp_all)
                      case r0 => intro h hh; cases hh
                      case e1 => first | rfl | exact fI (by omega) | (simp_all)
                      case r1 => intro h hh; cases hh
                      case e5 => first | rfl | exact fI (by omega) | (simp_all)
                      case r5 => intro h hh; simp [refs] at hh; subst hh; rfl
                      case e6 => first | rfl | exact fI (by omega) | (simp_all)
                      case r6 => intro h hh; cases hh
                      case e10 => first | rfl | exact fI (by omega) | (simp_all)
                      case r10 => intro h hh; simp [refs] at hh; subst hh; rfl
                      case e12 => first | rfl | exact fI (by omega) | (simp_all)
                      case r12 => intro h hh; cases hh
                      case e15 => first | rfl | exact fI (by omega) | (simp_all)
                      case r15 => intro h hh; cases hh
                      case e29 => first | rfl | exact fI (by omega) | (simp_all)
                      case r29 => intro h hh; cases hh
                      case e31 => first | rfl | exact fI (by omega) | (simp_all)
                      case r31 => intro h hh; cases hh
          · refine good_seq fun K123 hK123 => ?_
            refine gr rfl ?_
            refine em rfl (by conv=>lhs;whnf) ?_
            refine ei rfl rfl rfl ?_
            intro b124 hb124; cases b124
            rotate_left
            · replace hb124 := dT hb124
              exfalso; omega
            replace hb124 := dF hb124
            refine ev_nil (hK123 _ ?_); clear hK123
            refine good_condF rfl ?_
            refine good_skip (hK64 _ ?_); clear hK64
            clear hK17 hK33
            refine sub_weak ?_ ?_
            · exact weakH_box (boxEq (rfl)) rfl (weakH_row (rowEq (rfl)) (weakH_none _))
            · refine weakE_upd ?e15 ?r15 (weakE_upd ?e12 ?r12 (weakE_upd ?e10 ?r10 (weakE_upd ?e6 ?r6 (weakE_upd ?e5 ?r5 (weakE_upd ?e1 ?r1 (weakE_upd ?e0 ?r0 (weakE_junk _ _)))))))
              case e0 => first | rfl | exact fI (by omega) | (rfl)
              case r0 => intro h hh; cases hh
              case e1 => first | rfl | exact fI (by omega) | (rfl)
              case r1 => intro h hh; cases hh
              case e5 => first | rfl | exact fI (by omega) | (rfl)
              case r5 => intro h hh; simp [refs] at hh; subst hh; rfl
              case e6 => first | rfl | exact fI (by omega) | (rfl)
              case r6 => intro h hh; cases hh
              case e10 => first | rfl | exact fI (by omega) | (rfl)
              case r10 => intro h hh; simp [refs] at hh; subst hh; rfl
              case e12 => first | rfl | exact fI (by omega) | (rfl)
              case r12 => intro h hh; cases hh
              case e15 => first | rfl | exact fI (by omega) | (rfl)
              case r15 => intro h hh; cases hh
        · replace hb59 := dT hb59
          refine em rfl (by conv=>lhs;whnf) ?_
          refine em rfl (by conv=>lhs;whnf) ?_
          refine em rfl (by conv=>lhs;whnf) ?_
          refine ei rfl rfl rfl ?_
          intro b125 hb125; cases b125
          rotate_left
          · replace hb125 := neT hb125
            exfalso; have := m4 (by omega); omega
          replace hb125 := neF hb125
          refine ev_q rfl (q_pickT rfl (by conv=>lhs;whnf) ?_)
          refine ev_q rfl (q_pickF rfl (by conv=>lhs;whnf) ?_)
          refine em rfl (by conv=>lhs;whnf) ?_
          refine em rfl (by conv=>lhs;whnf) ?_
          refine ei rfl rfl rfl ?_
          intro b126 hb126; cases b126
          rotate_left
          · replace hb126 := neT hb126
            exfalso; omega
          replace hb126 := neF hb126
          refine ev_q rfl (q_pickF rfl (by conv=>lhs;whnf) ?_)
          refine em rfl (by conv=>lhs;whnf) ?_
          refine em rfl (by conv=>lhs;whnf) ?_
          refine ei rfl rfl rfl ?_
          intro b127 hb127; cases b127
          rotate_left
          · replace hb127 := dT hb127
            exfalso; omega
          replace hb127 := dF hb127
          refine ev_q rfl (q_pickF rfl (by conv=>lhs;whnf) ?_)
          refine em rfl (by conv=>lhs;whnf) ?_
          refine em rfl (by conv=>lhs;whnf) ?_
          refine em rfl (by conv=>lhs;whnf) ?_
          refine ei rfl rfl rfl ?_
          intro b128 hb128; cases b128
          rotate_left
          · replace hb128 := dT hb128
            exfalso; omega
          replace hb128 := dF hb128
          refine ev_q rfl (q_pickF rfl (by conv=>lhs;whnf) ?_)
          refine em rfl (by conv=>lhs;whnf) ?_
          refine em rfl (by conv=>lhs;whnf) ?_
          refine ei rfl rfl rfl ?_
          intro b129 hb129; cases b129
          · replace hb129 := dF hb129
            exfalso; omega
          replace hb129 := dT hb129
          refine em rfl (by conv=>lhs;whnf) ?_
          refine em rfl (by conv=>lhs;whnf) ?_
          refine ei rfl rfl rfl ?_
          intro b130 hb130; cases b130
          rotate_left
          · replace hb130 := neT hb130
            exfalso; have := p4 (by omega); omega
          replace hb130 := neF hb130
          refine ev_q rfl (q_pickT rfl (by conv=>lhs;whnf) ?_)
          refine ev_q rfl (q_pickF rfl (by conv=>lhs;whnf) ?_)
          refine ev_nil (hK49 _ ?_); clear hK49
          refine good_condF rfl ?_
          refine good_skip (hK48 _ ?_); clear hK48
          refine good_join { env := upd (upd (upd (upd (upd (upd (upd ((fun _ => .junk)) 0 (.lst 1 (cs.map cb))) 1 (.lst 1 (ds.map cb))) 5 (.ptr 5 0)) 6 (.s (.int .i64 (n9)))) 10 (.own 79 u.length)) 12 (.s (.int .i64 (n23)))) 15 (.lst 1 ((prT n6 p6 n9.toNat w11 n25).map ci)), H := upd (upd ((fun _ => none)) 79 (some (.row 2 1 (u.map ci)))) 5 (some (.box 31 [.lst 1 (n6.map ci), .lst 6 (p6.map piA)])) } ?_ fun K131 hK131 => ?_
          · refine good_seq fun K132 hK132 => ?_
            refine gr rfl ?_
            refine em rfl (by conv=>lhs;whnf) ?_
            refine ev_q rfl (q_call rfl rfl (rfl) (D_impl_TooHigh (prT n6 p6 n9.toNat w11 n25) 700000 (by rw [prT_len]; omega)) rfl ?_)
            refine em rfl (by conv=>lhs;whnf) ?_
            refine ev_q rfl (q_extract rfl rfl ?_)
            refine ev_q rfl (q_extractI rfl rfl ?_)
            intro n133 hn133
            have hth := (hFB.w _ hr.1 hr.2).2.2.1
            replace hn133 : n133 = 0 := hn133.trans hth
            refine ea rfl (by conv=>lhs;whnf) ?_
            refine ea rfl (by conv=>lhs;whnf) ?_
            refine ev_nil (hK132 _ ?_); clear hK132
            refine good_seq fun K134 hK134 => ?_
            refine good_seq fun K135 hK135 => ?_
            refine gr rfl ?_
            refine em rfl (by conv=>lhs;whnf) ?_
            refine ei rfl rfl rfl ?_
            intro b136 hb136; cases b136
            rotate_left
            · replace hb136 := neT hb136
              exfalso; omega
            replace hb136 := neF hb136
            refine ev_nil (hK135 _ ?_); clear hK135
            refine good_condF rfl ?_
            refine good_skip (hK134 _ ?_); clear hK134
            refine good_seq fun K137 hK137 => ?_
            refine gr rfl ?_
            refine ea rfl (by conv=>lhs;whnf) ?_
            refine ev_nil (hK137 _ ?_); clear hK137
            refine good_block ?_
            refine good_loop (α := Nat) (fun j => { env := upd (upd (upd (upd (upd (upd (upd (upd (upd ((fun _ => .junk)) 0 (.lst 1 (cs.map cb))) 1 (.lst 1 (ds.map cb))) 5 (.ptr 5 0)) 6 (.s (.int .i64 (n9)))) 10 (.own 79 u.length)) 12 (.s (.int .i64 (n23)))) 15 (.lst 1 ((prT n6 p6 n9.toNat w11 n25).map ci))) 29 (.lst 1 ((thL (prT n6 p6 n9.toNat w11 n25) 700000).map ci))) 31 (.s (.int .i64 ((j : Int)))), H := upd (upd ((fun _ => none)) 79 (some (.row 2 1 (u.map ci)))) 5 (some (.box 31 [.lst 1 (n6.map ci), .lst 6 (p6.map piA)])) }) (fun j => j ≤ n6.length) (fun j => n6.length - j) 0 ?_ ?_ ?_
            · exact Nat.zero_le _
            · refine sub_weak ?_ ?_
              · exact weakH_box (boxEq (rfl)) rfl (weakH_row (rowEq (rfl)) (weakH_none _))
              · refine weakE_upd ?e31 ?r31 (weakE_upd ?e29 ?r29 (weakE_upd ?e15 ?r15 (weakE_upd ?e12 ?r12 (weakE_upd ?e10 ?r10 (weakE_upd ?e6 ?r6 (weakE_upd ?e5 ?r5 (weakE_upd ?e1 ?r1 (weakE_upd ?e0 ?r0 (weakE_junk _ _)))))))))
                case e0 => first | rfl | exact fI (by omega) | (simp_all)
                case r0 => intro h hh; cases hh
                case e1 => first | rfl | exact fI (by omega) | (simp_all)
                case r1 => intro h hh; cases hh
                case e5 => first | rfl | exact fI (by omega) | (simp_all)
                case r5 => intro h hh; simp [refs] at hh; subst hh; rfl
                case e6 => first | rfl | exact fI (by omega) | (simp_all)
                case r6 => intro h hh; cases hh
                case e10 => first | rfl | exact fI (by omega) | (simp_all)
                case r10 => intro h hh; simp [refs] at hh; subst hh; rfl
                case e12 => first | rfl | exact fI (by omega) | (simp_all)
                case r12 => intro h hh; cases hh
                case e15 => first | rfl | exact fI (by omega) | (simp_all)
                case r15 => intro h hh; cases hh
                case e29 => first | rfl | exact fI (by omega) | (simp_all)
                case r29 => intro h hh; cases hh
                case e31 => first | rfl | exact fI (by omega) | (simp_all)
                case r31 => intro h hh; cases hh
            · rintro j hj
              refine good_seq fun K138 hK138 => ?_
              refine good_seq fun K139 hK139 => ?_
              refine gr rfl ?_
              refine em rfl (by conv=>lhs;whnf) ?_
              refine em rfl (by conv=>lhs;whnf) ?_
              refine ev_q rfl (q_len tEs22 rfl ?_)
              intro n140 hn140
              try simp only [List.length_map] at hn140
              rw [prT_len] at hn140
              refine ei rfl rfl rfl ?_
              intro b141 hb141; cases b141
              · replace hb141 := dF hb141
                refine ev_nil (hK139 _ ?_); clear hK139
                refine good_condF rfl ?_
                refine good_exit ?_
                repeat first|refine thenQ_exit ?_|refine blockQ_pass rfl ?_
                refine blockQ_exit (hK33 _ ?_); clear hK33
                refine good_seq fun K142 hK142 => ?_
                refine gr rfl ?_
                refine em rfl (by conv=>lhs;whnf) ?_
                refine ev_q rfl (q_callI rfl rfl (rfl) (D_laws_r8Wide ds 20 1200 (by omega) hb2 (by omega) (by omega)) ?_)
                intro n143 hn143
                have hwp := r8w_bd (cs := ds) (k := 20) (n := 1200) (by omega)
                rw [← hn143] at hwp
                refine ei rfl rfl rfl ?_
                intro n144 hn144
                replace hn144 := in64 hn144 (by omega) (by omega)
                refine ea rfl (by conv=>lhs;whnf) ?_
                refine ev_nil (hK142 _ ?_); clear hK142
                refine good_seq fun K145 hK145 => ?_
                refine gr rfl ?_
                refine em rfl (by conv=>lhs;whnf) ?_
                refine em rfl (by conv=>lhs;whnf) ?_
                refine ev_q rfl (q_call rfl rfl (rfl) (D_impl_HottestWater _ _) rfl ?_)
                refine em rfl (by conv=>lhs;whnf) ?_
                refine ev_q rfl (q_extractI rfl rfl ?_)
                intro n146 hn146
                have hho := hot_all n144 n23
                rw [if_pos ⟨by omega, by omega⟩] at hn146
                refine ev_q rfl (q_extractI rfl rfl ?_)
                intro n147 hn147
                rw [if_pos ⟨by omega, by omega⟩] at hn147
                refine ea rfl (by conv=>lhs;whnf) ?_
                refine ea rfl (by conv=>lhs;whnf) ?_
                refine ev_nil (hK145 _ ?_); clear hK145
                refine good_seq fun K148 hK148 => ?_
                refine good_seq fun K149 hK149 => ?_
                refine gr rfl ?_
                refine em rfl (by conv=>lhs;whnf) ?_
                refine ei rfl rfl rfl ?_
                intro b150 hb150; cases b150
                · replace hb150 := neF hb150
                  refine ev_nil (hK149 _ ?_); clear hK149
                  refine good_condF rfl ?_
                  refine good_skip (hK148 _ ?_); clear hK148
                  refine good_seq fun K151 hK151 => ?_
                  refine gr rfl ?_
                  have hh0 : ¬ hot n144 n23 = 0 := by intro e; rw [if_pos e] at hn147; omega
                  rw [if_neg hh0] at hn146
                  have hh1 := hho.2.2.1 n146 (by omega) (by omega)
                  have hh2 : n146 < 18000 → stm (n146 + 1) + n23 > n144 := fun h => by have := hho.2.2.2 (by omega); rwa [show n146 + 1 = hot n144 n23 by omega]
                  refine em rfl (by conv=>lhs;whnf) ?_
                  refine ev_q rfl (q_call rfl rfl (rfl) (D_spec_SteamPressure _) rfl ?_)
                  refine em rfl (by conv=>lhs;whnf) ?_
                  refine ev_q rfl (q_extractI rfl rfl ?_)
                  intro n152 hn152
                  rw [if_pos (by omega)] at hn152
                  have hst1 := stm_bd n146
                  refine ev_q rfl (q_extractI rfl rfl ?_)
                  intro n153 hn153
                  rw [if_pos (by omega)] at hn153
                  refine ea rfl (by conv=>lhs;whnf) ?_
                  refine ea rfl (by conv=>lhs;whnf) ?_
                  refine ev_nil (hK151 _ ?_); clear hK151
                  refine good_seq fun K154 hK154 => ?_
                  refine gr rfl ?_
                  refine em rfl (by conv=>lhs;whnf) ?_
                  refine ei rfl rfl rfl ?_
                  intro n155 hn155
                  replace hn155 := in64 hn155 (by omega) (by omega)
                  refine ev_q rfl (q_call rfl rfl (rfl) (D_spec_SteamPressure _) rfl ?_)
                  refine em rfl (by conv=>lhs;whnf) ?_
                  refine ev_q rfl (q_extractI rfl rfl ?_)
                  intro n156 hn156
                  have hst2 := stm_bd (n146 + 1)
                  have e262 : n155 = n146 + 1 := by omega
                  rw [e262] at hn156
                  have hb264 : 0 ≤ n156 ∧ n156 ≤ 1200001 := by rw [hn156]; split <;> omega
                  refine ev_q rfl (q_extractI rfl rfl ?_)
                  intro n157 hn157
                  rw [e262] at hn157
                  refine ea rfl (by conv=>lhs;whnf) ?_
                  refine ea rfl (by conv=>lhs;whnf) ?_
                  refine ev_nil (hK154 _ ?_); clear hK154
                  refine good_seq fun K158 hK158 => ?_
                  refine good_draw 12 hmix (by kernel_rfl) rfl ?_
                  refine qo_q rfl (q_loadA tA31 rfl rfl rfl ?_)
                  refine qm rfl (by conv=>lhs;whnf) ?_
                  refine qm rfl (by conv=>lhs;whnf) ?_
                  refine qo_q rfl (q_idxO tE22 rfl rfl rfl (by first | omega | exact Int.natCast_nonneg _) (by omega) rfl ?_)
                  refine qo_q rfl (q_loadE tA2 rfl rfl (by exact getG (t := u) (v := 0) (by omega)) rfl ?_)
                  refine qm rfl (by conv=>lhs;whnf) ?_
                  refine qo_q rfl (q_call rfl rfl (rfl) (D_impl_StillPressure n6 p6 n9 (u.getD 0 0) n23 hn hp hz) rfl ?_)
                  refine qm rfl (by conv=>lhs;whnf) ?_
                  refine qo_q rfl (q_extractI rfl rfl ?_)
                  intro n159 hn159
                  have hso := spO0 (k := n9) (t := u.getD 0 0) (m := n23) ok ⟨hs, by omega, by omega⟩
                  rw [if_pos hso] at hn159
                  have hsg := still_ge (ns := n6) (k := n9) (t := u.getD 0 0) (m := n23) hs
                  refine qo_q rfl (q_extractI rfl rfl ?_)
                  intro n160 hn160
                  rw [hso] at hn160
                  refine qa rfl (by conv=>lhs;whnf) ?_
                  refine qa rfl (by conv=>lhs;whnf) ?_
                  refine qo_nil ?_
                  refine ev_nil (hK158 _ ?_); clear hK158
                  refine good_seq fun K161 hK161 => ?_
                  refine gr rfl ?_
                  refine em rfl (by conv=>lhs;whnf) ?_
                  refine ev_q rfl (q_idxO tE22 rfl rfl rfl (by first | omega | exact Int.natCast_nonneg _) (by omega) rfl ?_)
                  refine ev_q rfl (q_loadE tA2 rfl rfl (by exact getG (t := u) (v := 0) (by omega)) rfl ?_)
                  refine ev_q rfl (q_call rfl rfl (rfl) (D_spec_SteamPressure _) rfl ?_)
                  refine em rfl (by conv=>lhs;whnf) ?_
                  refine ev_q rfl (q_extractI rfl rfl ?_)
                  intro n162 hn162
                  rw [if_pos (by omega)] at hn162
                  have hst3 := stm_bd (u.getD 0 0)
                  refine ev_q rfl (q_extractI rfl rfl ?_)
                  intro n163 hn163
                  rw [if_pos (by omega)] at hn163
                  refine ea rfl (by conv=>lhs;whnf) ?_
                  refine ea rfl (by conv=>lhs;whnf) ?_
                  refine ev_nil (hK161 _ ?_); clear hK161
                  refine good_seq fun K164 hK164 => ?_
                  refine gr rfl ?_
                  refine em rfl (by conv=>lhs;whnf) ?_
                  refine ei rfl rfl rfl ?_
                  intro b165 hb165; cases b165
                  · replace hb165 := eqF hb165
                    exfalso; omega
                  replace hb165 := eqT hb165
                  refine em rfl (by conv=>lhs;whnf) ?_
                  refine em rfl (by conv=>lhs;whnf) ?_
                  refine em rfl (by conv=>lhs;whnf) ?_
                  refine ei rfl rfl rfl ?_
                  intro n166 hn166
                  replace hn166 := in64 hn166 (by omega) (by omega)
                  refine em rfl (by conv=>lhs;whnf) ?_
                  refine ei rfl rfl rfl ?_
                  intro b167 hb167; cases b167
                  · replace hb167 := dF hb167
                    exfalso; omega
                  replace hb167 := dT hb167
                  refine ev_q rfl (q_pickT rfl (by conv=>lhs;whnf) ?_)
                  refine em rfl (by conv=>lhs;whnf) ?_
                  refine em rfl (by conv=>lhs;whnf) ?_
                  refine ei rfl rfl rfl ?_
                  intro b168 hb168; cases b168
                  · replace hb168 := neF hb168
                    refine em rfl (by conv=>lhs;whnf) ?_
                    refine em rfl (by conv=>lhs;whnf) ?_
                    refine em rfl (by conv=>lhs;whnf) ?_
                    refine ei rfl rfl rfl ?_
                    intro n169 hn169
                    replace hn169 := in64 hn169 (by omega) (by omega)
                    refine em rfl (by conv=>lhs;whnf) ?_
                    refine ei rfl rfl rfl ?_
                    intro b170 hb170; cases b170
                    · replace hb170 := dF hb170
                      refine ev_q rfl (q_pickF rfl (by conv=>lhs;whnf) ?_)
                      refine ev_q rfl (q_pickT rfl (by conv=>lhs;whnf) ?_)
                      refine em rfl (by conv=>lhs;whnf) ?_
                      refine ev_skip rfl ?_
                      refine ev_skip rfl ?_
                      refine ev_q rfl (q_pickF rfl (by conv=>lhs;whnf) ?_)
                      refine em rfl (by conv=>lhs;whnf) ?_
                      refine ev_skip rfl ?_
                      refine ev_skip rfl ?_
                      refine ev_q rfl (q_pickF rfl (by conv=>lhs;whnf) ?_)
                      refine em rfl (by conv=>lhs;whnf) ?_
                      refine ev_skip rfl ?_
                      refine ev_skip rfl ?_
                      refine ev_skip rfl ?_
                      refine ev_skip rfl ?_
                      refine ev_skip rfl ?_
                      refine ev_q rfl (q_pickF rfl (by conv=>lhs;whnf) ?_)
                      refine ea rfl (by conv=>lhs;whnf) ?_
                      refine ev_nil (hK164 _ ?_); clear hK164
                      refine good_ret ?_
                      repeat first|refine thenQ_ret ?_|refine blockQ_ret ?_
                      refine ret_tmp (st := _) rfl (by conv=>lhs;whnf) rfl ?_
                      clear hK17 hK138
                      first | rfl | (exfalso; omega)
                    · replace hb170 := dT hb170
                      refine ev_q rfl (q_pickF rfl (by conv=>lhs;whnf) ?_)
                      refine ev_q rfl (q_pickT rfl (by conv=>lhs;whnf) ?_)
                      refine em rfl (by conv=>lhs;whnf) ?_
                      refine em rfl (by conv=>lhs;whnf) ?_
                      refine ei rfl rfl rfl ?_
                      intro b171 hb171; cases b171
                      · replace hb171 := eqF hb171
                        exfalso; omega
                      replace hb171 := eqT hb171
                      refine ev_q rfl (q_pickT rfl (by conv=>lhs;whnf) ?_)
                      refine em rfl (by conv=>lhs;whnf) ?_
                      refine em rfl (by conv=>lhs;whnf) ?_
                      refine ei rfl rfl rfl ?_
                      intro b172 hb172; cases b172
                      · replace hb172 := eqF hb172
                        exfalso; omega
                      replace hb172 := eqT hb172
                      refine ev_q rfl (q_pickT rfl (by conv=>lhs;whnf) ?_)
                      refine em rfl (by conv=>lhs;whnf) ?_
                      refine em rfl (by conv=>lhs;whnf) ?_
                      refine em rfl (by conv=>lhs;whnf) ?_
                      refine em rfl (by conv=>lhs;whnf) ?_
                      refine ei rfl rfl rfl ?_
                      intro n173 hn173
                      replace hn173 := in64 hn173 (by omega) (by omega)
                      refine ei rfl rfl rfl ?_
                      intro b174 hb174; cases b174
                      · replace hb174 := dF hb174
                        exfalso; omega
                      replace hb174 := dT hb174
                      refine ev_q rfl (q_pickT rfl (by conv=>lhs;whnf) ?_)
                      refine ea rfl (by conv=>lhs;whnf) ?_
                      refine ev_nil (hK164 _ ?_); clear hK164
                      refine good_ret ?_
                      repeat first|refine thenQ_ret ?_|refine blockQ_ret ?_
                      refine ret_tmp (st := _) rfl (by conv=>lhs;whnf) rfl ?_
                      clear hK17 hK138
                      first | rfl | (exfalso; omega)
                  · replace hb168 := neT hb168
                    refine em rfl (by conv=>lhs;whnf) ?_
                    refine ev_skip rfl ?_
                    refine ev_skip rfl ?_
                    refine ev_skip rfl ?_
                    refine ev_skip rfl ?_
                    refine ev_skip rfl ?_
                    refine ev_q rfl (q_pickT rfl (by conv=>lhs;whnf) ?_)
                    refine ev_q rfl (q_pickT rfl (by conv=>lhs;whnf) ?_)
                    refine em rfl (by conv=>lhs;whnf) ?_
                    refine em rfl (by conv=>lhs;whnf) ?_
                    refine ei rfl rfl rfl ?_
                    intro b175 hb175; cases b175
                    · replace hb175 := eqF hb175
                      exfalso; omega
                    replace hb175 := eqT hb175
                    refine ev_q rfl (q_pickT rfl (by conv=>lhs;whnf) ?_)
                    refine em rfl (by conv=>lhs;whnf) ?_
                    refine em rfl (by conv=>lhs;whnf) ?_
                    refine ei rfl rfl rfl ?_
                    intro b176 hb176; cases b176
                    · replace hb176 := eqF hb176
                      exfalso; omega
                    replace hb176 := eqT hb176
                    refine ev_q rfl (q_pickT rfl (by conv=>lhs;whnf) ?_)
                    refine em rfl (by conv=>lhs;whnf) ?_
                    refine em rfl (by conv=>lhs;whnf) ?_
                    refine em rfl (by conv=>lhs;whnf) ?_
                    refine em rfl (by conv=>lhs;whnf) ?_
                    refine ei rfl rfl rfl ?_
                    intro n177 hn177
                    replace hn177 := in64 hn177 (by omega) (by omega)
                    refine ei rfl rfl rfl ?_
                    intro b178 hb178; cases b178
                    · replace hb178 := dF hb178
                      exfalso; omega
                    replace hb178 := dT hb178
                    refine ev_q rfl (q_pickT rfl (by conv=>lhs;whnf) ?_)
                    refine ea rfl (by conv=>lhs;whnf) ?_
                    refine ev_nil (hK164 _ ?_); clear hK164
                    refine good_ret ?_
                    repeat first|refine thenQ_ret ?_|refine blockQ_ret ?_
                    refine ret_tmp (st := _) rfl (by conv=>lhs;whnf) rfl ?_
                    clear hK17 hK138
                    first | rfl | (exfalso; omega)
                · replace hb150 := neT hb150
                  refine ev_nil (hK149 _ ?_); clear hK149
                  refine good_condT rfl ?_
                  refine good_seq fun K179 hK179 => ?_
                  refine gr rfl ?_
                  refine em rfl (by conv=>lhs;whnf) ?_
                  refine ei rfl rfl rfl ?_
                  intro b180 hb180; cases b180
                  · replace hb180 := eqF hb180
                    exfalso; split at hn147 <;> omega
                  replace hb180 := eqT hb180
                  refine ea rfl (by conv=>lhs;whnf) ?_
                  refine ev_nil (hK179 _ ?_); clear hK179
                  refine good_ret ?_
                  repeat first|refine thenQ_ret ?_|refine blockQ_ret ?_
                  refine ret_tmp (st := _) rfl (by conv=>lhs;whnf) rfl ?_
                  clear hK17 hK138 hK148
                  first | rfl | (exfalso; omega)
              · replace hb141 := dT hb141
                have hmem := ixs_mem (p := fun i => 700000 < gd (prT n6 p6 n9.toNat w11 n25) i) (j := j) (prT n6 p6 n9.toNat w11 n25).length
                rw [← thL_ok hth, prT_len] at hmem
                refine ev_nil (hK139 _ ?_); clear hK139
                refine good_condT rfl ?_
                refine good_skip (hK138 _ ?_); clear hK138
                refine good_seq fun K181 hK181 => ?_
                refine good_block ?_
                refine good_seq fun K182 hK182 => ?_
                refine good_draw 9 hmix (by kernel_rfl) rfl ?_
                refine qm rfl (by conv=>lhs;whnf) ?_
                refine qm rfl (by conv=>lhs;whnf) ?_
                refine qo_q rfl (q_callB rfl rfl (rfl) (D_laws_r8Has (thL (prT n6 p6 n9.toNat w11 n25) 700000) _ (by have := (thL_len (xs := (prT n6 p6 n9.toNat w11 n25)) (lim := 700000)).1; omega)) ?_)
                intro b183 hb183; cases b183
                · first | replace hb183 := dF hb183 | skip
                  refine qm rfl (by conv=>lhs;whnf) ?_
                  refine qm rfl (by conv=>lhs;whnf) ?_
                  refine qo_q rfl (q_idx tE22 rfl rfl (by first | omega | exact Int.natCast_nonneg _) (by exact getG (t := (prT n6 p6 n9.toNat w11 n25)) (v := j) (by rw [prT_len]; omega)) rfl ?_)
                  refine qo_q rfl (q_load tA2 rfl ?_)
                  refine qo_q rfl (q_int rfl rfl ?_)
                  intro b184 hb184; cases b184
                  rotate_left
                  · replace hb184 := dT hb184
                    exfalso; exact absurd (hmem.2 ⟨by omega, by show 700000 < (prT n6 p6 n9.toNat w11 n25).getD j 0; omega⟩) (by assumption)
                  replace hb184 := dF hb184
                  refine qo_q rfl (q_bne tB4 rfl rfl ?_)
                  intro b185 hb185; replace hb185 : b185 = false := hb185; subst hb185
                  refine qo_nil ?_
                  refine ev_nil (hK182 _ ?_); clear hK182
                  refine good_condF rfl ?_
                  refine good_skip (hK181 _ ?_); clear hK181
                  refine gr rfl ?_
                  refine em rfl (by conv=>lhs;whnf) ?_
                  refine ei rfl rfl rfl ?_
                  intro n186 hn186
                  replace hn186 := in64 hn186 (by omega) (by omega)
                  refine ea rfl (by conv=>lhs;whnf) ?_
                  refine ev_nil ?_
                  clear hK17 hK33
                  refine ⟨j + 1, ?_, ?_, ?_⟩
                  · show _ ≤ _; omega
                  · first | omega | (simp only []; omega) | (dsimp only; omega)
                  · refine sub_weak ?_ ?_
                    · exact weakH_box (boxEq (rfl)) rfl (weakH_row (rowEq (rfl)) (weakH_none _))
                    · refine weakE_upd ?e31 ?r31 (weakE_upd ?e29 ?r29 (weakE_upd ?e15 ?r15 (weakE_upd ?e12 ?r12 (weakE_upd ?e10 ?r10 (weakE_upd ?e6 ?r6 (weakE_upd ?e5 ?r5 (weakE_upd ?e1 ?r1 (weakE_upd ?e0 ?r0 (weakE_junk _ _)))))))))
                      case e0 => first | rfl | exact fI (by omega) | (simp_all)
                      case r0 => intro h hh; cases hh
                      case e1 => first | rfl | exact fI (by omega) | (simp_all)
                      case r1 => intro h hh; cases hh
                      case e5 => first | rfl | exact fI (by omega) | (simp_all)
                      case r5 => intro h hh; simp [refs] at hh; subst hh; rfl
                      case e6 => first | rfl | exact fI (by omega) | (simp_all)
                      case r6 => intro h hh; cases hh
                      case e10 => first | rfl | exact fI (by omega) | (simp_all)
                      case r10 => intro h hh; simp [refs] at hh; subst hh; rfl
                      case e12 => first | rfl | exact fI (by omega) | (simp_all)
                      case r12 => intro h hh; cases hh
                      case e15 => first | rfl | exact fI (by omega) | (simp_all)
                      case r15 => intro h hh; cases hh
                      case e29 => first | rfl | exact fI (by omega) | (simp_all)
                      case r29 => intro h hh; cases hh
                      case e31 => first | rfl | exact fI (by omega) | (simp_all)
                      case r31 => intro h hh; cases hh
                · first | replace hb183 := dT hb183 | skip
                  refine qm rfl (by conv=>lhs;whnf) ?_
                  refine qm rfl (by conv=>lhs;whnf) ?_
                  refine qo_q rfl (q_idx tE22 rfl rfl (by first | omega | exact Int.natCast_nonneg _) (by exact getG (t := (prT n6 p6 n9.toNat w11 n25)) (v := j) (by rw [prT_len]; omega)) rfl ?_)
                  refine qo_q rfl (q_load tA2 rfl ?_)
                  refine qo_q rfl (q_int rfl rfl ?_)
                  intro b187 hb187; cases b187
                  · replace hb187 := dF hb187
                    exfalso; have q : 700000 < (prT n6 p6 n9.toNat w11 n25).getD j 0 := (hmem.1 (by assumption)).2; omega
                  replace hb187 := dT hb187
                  refine qo_q rfl (q_bne tB4 rfl rfl ?_)
                  intro b188 hb188; replace hb188 : b188 = false := hb188; subst hb188
                  refine qo_nil ?_
                  refine ev_nil (hK182 _ ?_); clear hK182
                  refine good_condF rfl ?_
                  refine good_skip (hK181 _ ?_); clear hK181
                  refine gr rfl ?_
                  refine em rfl (by conv=>lhs;whnf) ?_
                  refine ei rfl rfl rfl ?_
                  intro n189 hn189
                  replace hn189 := in64 hn189 (by omega) (by omega)
                  refine ea rfl (by conv=>lhs;whnf) ?_
                  refine ev_nil ?_
                  clear hK17 hK33
                  refine ⟨j + 1, ?_, ?_, ?_⟩
                  · show _ ≤ _; omega
                  · first | omega | (simp only []; omega) | (dsimp only; omega)
                  · refine sub_weak ?_ ?_
                    · exact weakH_box (boxEq (rfl)) rfl (weakH_row (rowEq (rfl)) (weakH_none _))
                    · refine weakE_upd ?e31 ?r31 (weakE_upd ?e29 ?r29 (weakE_upd ?e15 ?r15 (weakE_upd ?e12 ?r12 (weakE_upd ?e10 ?r10 (weakE_upd ?e6 ?r6 (weakE_upd ?e5 ?r5 (weakE_upd ?e1 ?r1 (weakE_upd ?e0 ?r0 (weakE_junk _ _)))))))))
                      case e0 => first | rfl | exact fI (by omega) | (simp_all)
                      case r0 => intro h hh; cases hh
                      case e1 => first | rfl | exact fI (by omega) | (simp_all)
                      case r1 => intro h hh; cases hh
                      case e5 => first | rfl | exact fI (by omega) | (simp_all)
                      case r5 => intro h hh; simp [refs] at hh; subst hh; rfl
                      case e6 => first | rfl | exact fI (by omega) | (simp_all)
                      case r6 => intro h hh; cases hh
                      case e10 => first | rfl | exact fI (by omega) | (simp_all)
                      case r10 => intro h hh; simp [refs] at hh; subst hh; rfl
                      case e12 => first | rfl | exact fI (by omega) | (simp_all)
                      case r12 => intro h hh; cases hh
                      case e15 => first | rfl | exact fI (by omega) | (simp_all)
                      case r15 => intro h hh; cases hh
                      case e29 => first | rfl | exact fI (by omega) | (simp_all)
                      case r29 => intro h hh; cases hh
                      case e31 => first | rfl | exact fI (by omega) | (simp_all)
                      case r31 => intro h hh; cases hh
          · refine good_seq fun K190 hK190 => ?_
            refine gr rfl ?_
            refine em rfl (by conv=>lhs;whnf) ?_
            refine ei rfl rfl rfl ?_
            intro b191 hb191; cases b191
            · replace hb191 := dF hb191
              exfalso; omega
            replace hb191 := dT hb191
            refine ev_nil (hK190 _ ?_); clear hK190
            refine good_condT rfl ?_
            refine good_seq fun K192 hK192 => ?_
            refine gr rfl ?_
            refine ev_q rfl (q_loadA tA31 rfl rfl rfl ?_)
            refine em rfl (by conv=>lhs;whnf) ?_
            refine em rfl (by conv=>lhs;whnf) ?_
            refine em rfl (by conv=>lhs;whnf) ?_
            refine ei rfl rfl rfl ?_
            intro n193 hn193
            replace hn193 := in64 hn193 (by omega) (by omega)
            have hl1 := hFB.l (by omega)
            rw [← hn193] at hl1
            refine ev_q rfl (q_call rfl rfl (rfl) (D_spec_PressuresOf n6 p6 n9 (flT n6 p6 n9.toNat w11) n193 hn hp hz hfl4 ok hs hflp (by omega) htr hdrp) rfl ?_)
            refine em rfl (by conv=>lhs;whnf) ?_
            refine ev_q rfl (q_extract rfl rfl ?_)
            refine ev_q rfl (q_extractI rfl rfl ?_)
            intro n194 hn194
            refine ea rfl (by conv=>lhs;whnf) ?_
            refine ea rfl (by conv=>lhs;whnf) ?_
            refine ev_nil (hK192 _ ?_); clear hK192
            refine good_seq fun K195 hK195 => ?_
            refine gr rfl ?_
            refine em rfl (by conv=>lhs;whnf) ?_
            refine em rfl (by conv=>lhs;whnf) ?_
            refine em rfl (by conv=>lhs;whnf) ?_
            refine ev_k rfl (k_callXc [(38, 900039)] (D_impl_BoilingNodes_X (prT n6 p6 n9.toNat w11 n193) u n23 (by rw [prT_len]; omega) hul4) rfl (by change some ([.lst 1 ((prT n6 p6 n9.toNat w11 n193).map ci), .lst 1 (List.take u.length (u.map ci)), .s (.int .i64 (n23))] : List AV) = some _; (simp only [takeMap]) <;> rfl) (⟨rfl, ⟨pure_ci, trivial⟩⟩) trivial ⟨⟨rfl, show (900039 : Nat) < 1000000 by decide⟩, trivial⟩ rfl rfl rfl ?_)
            refine em rfl (by conv=>lhs;whnf) ?_
            refine ev_q rfl (q_extract rfl rfl ?_)
            refine ev_q rfl (q_extractI rfl rfl ?_)
            intro n196 hn196
            replace hn196 : n196 = 0 := hn196.trans (hFB.w _ (by omega) (by omega)).1
            refine ea rfl (by conv=>lhs;whnf) ?_
            refine ea rfl (by conv=>lhs;whnf) ?_
            refine ev_nil (hK195 _ ?_); clear hK195
            refine good_seq fun K197 hK197 => ?_
            refine gr rfl ?_
            refine em rfl (by conv=>lhs;whnf) ?_
            refine ei rfl rfl rfl ?_
            intro b198 hb198; cases b198
            rotate_left
            · replace hb198 := neT hb198
              exfalso; omega
            replace hb198 := neF hb198
            refine em rfl (by conv=>lhs;whnf) ?_
            refine em rfl (by conv=>lhs;whnf) ?_
            refine ei rfl rfl rfl ?_
            intro b199 hb199; cases b199
            rotate_left
            · replace hb199 := neT hb199
              exfalso; omega
            replace hb199 := neF hb199
            refine ev_q rfl (q_pickF rfl (by conv=>lhs;whnf) ?_)
            refine em rfl (by conv=>lhs;whnf) ?_
            refine em rfl (by conv=>lhs;whnf) ?_
            refine ev_q rfl (q_len tEs22 rfl ?_)
            intro n200 hn200
            try simp only [List.length_map] at hn200
            refine ei rfl rfl rfl ?_
            intro b201 hb201; cases b201
            rotate_left
            · replace hb201 := eqT hb201
              exfalso; omega
            replace hb201 := eqF hb201
            refine ev_q rfl (q_pickF rfl (by conv=>lhs;whnf) ?_)
            refine ev_nil (hK197 _ ?_); clear hK197
            refine good_condF rfl ?_
            refine good_skip (hK131 _ ?_); clear hK131
            clear hK17 hK33
            refine sub_weak ?_ ?_
            · exact weakH_box (boxEq (rfl)) rfl (weakH_row (rowEq (rfl)) (weakH_none _))
            · refine weakE_upd ?e15 ?r15 (weakE_upd ?e12 ?r12 (weakE_upd ?e10 ?r10 (weakE_upd ?e6 ?r6 (weakE_upd ?e5 ?r5 (weakE_upd ?e1 ?r1 (weakE_upd ?e0 ?r0 (weakE_junk _ _)))))))
              case e0 => first | rfl | exact fI (by omega) | (rfl)
              case r0 => intro h hh; cases hh
              case e1 => first | rfl | exact fI (by omega) | (rfl)
              case r1 => intro h hh; cases hh
              case e5 => first | rfl | exact fI (by omega) | (rfl)
              case r5 => intro h hh; simp [refs] at hh; subst hh; rfl
              case e6 => first | rfl | exact fI (by omega) | (rfl)
              case r6 => intro h hh; cases hh
              case e10 => first | rfl | exact fI (by omega) | (rfl)
              case r10 => intro h hh; simp [refs] at hh; subst hh; rfl
              case e12 => first | rfl | exact fI (by omega) | (rfl)
              case r12 => intro h hh; cases hh
              case e15 => first | rfl | exact fI (by omega) | (rfl)
              case r15 => intro h hh; cases hh
      · replace hb20 := dT hb20
        refine ev_nil (hK18 _ ?_); clear hK18
        refine good_condT rfl ?_
        refine good_skip (hK17 _ ?_); clear hK17
        refine good_seq fun K202 hK202 => ?_
        refine good_block ?_
        refine gr rfl ?_
        refine em rfl (by conv=>lhs;whnf) ?_
        refine em rfl (by conv=>lhs;whnf) ?_
        refine em rfl (by conv=>lhs;whnf) ?_
        refine ei rfl rfl rfl ?_
        intro n203 hn203
        replace hn203 := in64 hn203 (by omega) (by omega)
        refine ei rfl rfl rfl ?_
        intro n204 hn204
        replace hn204 := in64 hn204 (by omega) (by omega)
        refine ev_q rfl (q_callI rfl rfl (rfl) (D_laws_r8Wide ds _ 9000 (by omega) hb2 (by omega) (by omega)) ?_)
        intro n205 hn205
        have hwb := r8w_bd (cs := ds) (k := n204) (n := 9000) (by omega)
        rw [← hn205] at hwb
        refine ei rfl rfl rfl ?_
        intro n206 hn206
        replace hn206 := in64 hn206 (by omega) (by omega)
        refine ev_k rfl (k_lit tE22 zA2 rfl rfl (by decide) (by decide) rfl rfl rfl ?_)
        refine ev_k rfl (k_app tApp22 rfl rfl (by simp) rfl (.inr rfl) (by first | (simp [maxLen]; omega)) (by first | (simp; omega)) ?_)
        refine ea rfl (by conv=>lhs;whnf) ?_
        refine ev_nil (hK202 _ ?_); clear hK202
        refine gr rfl ?_
        refine em rfl (by conv=>lhs;whnf) ?_
        refine ei rfl rfl rfl ?_
        intro n207 hn207
        replace hn207 := in64 hn207 (by omega) (by omega)
        refine ea rfl (by conv=>lhs;whnf) ?_
        refine ev_nil ?_
        clear hK15
        refine ⟨u ++ [n206], ?_, ?_, ?_⟩
        · exact ⟨by simp; omega, dgR_app hdu (by omega)⟩
        · first | (simp; omega) | omega
        · refine sub_weak ?_ ?_
          · exact weakH_box (boxEq (rfl)) rfl (weakH_row (rowEq (by rw [List.map_append]; rfl)) (weakH_none _))
          · refine weakE_upd ?e11 ?r11 (weakE_upd ?e10 ?r10 (weakE_upd ?e8 ?r8 (weakE_upd ?e6 ?r6 (weakE_upd ?e5 ?r5 (weakE_upd ?e1 ?r1 (weakE_upd ?e0 ?r0 (weakE_junk _ _)))))))
            case e0 => first | rfl | exact fI (by omega) | (simp_all)
            case r0 => intro h hh; cases hh
            case e1 => first | rfl | exact fI (by omega) | (simp_all)
            case r1 => intro h hh; cases hh
            case e5 => first | rfl | exact fI (by omega) | (simp_all)
            case r5 => intro h hh; simp [refs] at hh; subst hh; rfl
            case e6 => first | rfl | exact fI (by omega) | (simp_all)
            case r6 => intro h hh; cases hh
            case e8 => first | rfl | exact fI (by omega) | (simp_all)
            case r8 => intro h hh; cases hh
            case e10 => first | rfl | exact fI (by omega) | (first | rfl | exact ownEq (by simp))
            case r10 => intro h hh; simp [refs] at hh; subst hh; rfl
            case e11 => first | rfl | exact fI (by omega) | (first | rfl | exact fI (by simp; omega))
            case r11 => intro h hh; cases hh
  · first | replace hb4 := dT hb4 | skip
    refine ev_nil (hK3 _ ?_); clear hK3
    refine good_condT rfl ?_
    refine good_seq fun K208 hK208 => ?_
    refine gr rfl ?_
    refine ea rfl (by conv=>lhs;whnf) ?_
    refine ev_nil (hK208 _ ?_); clear hK208
    refine good_ret ?_
    repeat first|refine thenQ_ret ?_|refine blockQ_ret ?_
    refine ret_tmp (st := _) rfl (by conv=>lhs;whnf) rfl ?_
    clear hK2
    first | rfl | (exfalso; omega)

end Go.Proofs.YtkgnbjgnddfojaaGreat.DFnBoiling
