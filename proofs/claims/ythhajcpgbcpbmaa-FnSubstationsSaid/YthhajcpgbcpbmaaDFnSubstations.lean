/- Walks through the functions that FnSubstations reaches: what each answers. -/
import Derived.Test.YthhajcpgbcpbmaaDFnSubstationsc
set_option linter.unusedVariables false
set_option linter.unusedSimpArgs false
namespace Go.Proofs.Ythhajcpgbcpbmaa.DFnSubstations
open Go Go.RowKit Go.Proofs Go.Proofs.Ythhajcpgbcpbmaa Go.Proofs.Ythhajcpgbcpbmaa.Ev
-- laws.FnSubstations
set_option maxRecDepth 20000 in
set_option maxHeartbeats 2000000 in
theorem D_laws_FnSubstations (cs ds : List Int) (hb : byteL cs) (hb2 : byteL ds) : Den Try.prog 12 [.lst 1 (cs.map cb), .lst 1 (ds.map cb)] (.s (.bool true)) := by
  refine den_of_good Try.func12 (by decide) rfl (Nat.le_of_ble_eq_true rfl) (Nat.le_of_ble_eq_true rfl) ?_
  refine good_seq fun K1 hK1 => ?_
  refine good_region rfl ?_
  refine ev_q rfl (q_assign (by conv => lhs; whnf) ?_)
  refine ev_nil (hK1 _ ?_); clear hK1
  refine good_seq fun K2 hK2 => ?_
  refine good_seq fun K3 hK3 => ?_
  refine good_region rfl ?_
  refine ev_q rfl (q_move (by conv => lhs; whnf) ?_)
  refine ev_q rfl (q_callB rfl rfl (rfl) (D_laws_b10Long cs) ?_)
  intro b4 hb4; cases b4
  · first | replace hb4 := dF hb4 | skip
    refine ev_q rfl (q_move (by conv => lhs; whnf) ?_)
    refine ev_q rfl (q_move (by conv => lhs; whnf) ?_)
    refine ev_q rfl (q_callB rfl rfl (rfl) (D_laws_b10Long ds) ?_)
    intro b5 hb5; cases b5
    · first | replace hb5 := dF hb5 | skip
      refine ev_q rfl (q_pickF rfl (by conv => lhs; whnf) ?_)
      refine ev_nil (hK3 _ ?_); clear hK3
      refine good_condF rfl ?_
      refine good_skip (hK2 _ ?_); clear hK2
      refine good_seq fun K6 hK6 => ?_
      refine good_region rfl ?_
      refine ev_q rfl (q_move (by conv => lhs; whnf) ?_)
      refine ev_k rfl (k_callR [] (D_spec_DrawPrimaryFlow cs (by omega) hb) rfl (rfl) (rfl) trivial rfl (by rintro ⟨v7, p7, l7⟩ hx7_0; exact ⟨trivial, rfl⟩) rfl rfl ?_)
      rintro ⟨v7, p7, l7⟩ hx7_0
      have hz1 := hx7_0
      refine ev_q rfl (q_move (by conv => lhs; whnf) ?_)
      refine ev_q rfl (q_extract rfl rfl ?_)
      refine ev_q rfl (q_extractI rfl rfl ?_)
      intro n8 hn8
      refine ev_q rfl (q_extractI rfl rfl ?_)
      intro n9 hn9
      refine ev_k rfl (k_alloc zA27 rfl ?_)
      refine ev_k rfl (k_store sz27 rfl (by conv => lhs; whnf) rfl rfl rfl (Nat.le_of_ble_eq_true rfl) rfl ?_)
      refine ev_q rfl (q_assign (by conv => lhs; whnf) ?_)
      refine ev_q rfl (q_assign (by conv => lhs; whnf) ?_)
      refine ev_nil (hK6 _ ?_); clear hK6
      refine good_seq fun K10 hK10 => ?_
      refine good_region rfl ?_
      refine ev_q rfl (q_loadA tA27 rfl rfl rfl ?_)
      refine ev_q rfl (q_move (by conv => lhs; whnf) ?_)
      refine ev_q rfl (q_move (by conv => lhs; whnf) ?_)
      refine ev_q rfl (q_call rfl rfl (rfl) (D_impl_PrimaryFlow _ _ _ _ _ _ _ (show _ ≤ _ by omega)) rfl ?_)
      refine ev_q rfl (q_move (by conv => lhs; whnf) ?_)
      refine ev_q rfl (q_extractI rfl rfl ?_)
      intro n11 hn11
      refine ev_q rfl (q_extractI rfl rfl ?_)
      intro n12 hn12
      refine ev_q rfl (q_assign (by conv => lhs; whnf) ?_)
      refine ev_q rfl (q_assign (by conv => lhs; whnf) ?_)
      refine ev_nil (hK10 _ ?_); clear hK10
      refine good_join { env := upd (upd (upd ((fun _ => .junk)) 0 (.lst 1 (cs.map cb))) 1 (.lst 1 (ds.map cb))) 4 (.s (.bool false)), H := (fun _ => none) } ?_ fun K13 hK13 => ?_
      · refine good_seq fun K14 hK14 => ?_
        refine good_region rfl ?_
        refine ev_q rfl (q_move (by conv => lhs; whnf) ?_)
        refine ev_k rfl (k_callR [] (D_spec_DrawLeastTransfer ds (by omega) hb2) rfl (rfl) (rfl) trivial rfl (by rintro ⟨v15, p15, l15⟩ hx15_0; exact ⟨trivial, rfl⟩) rfl rfl ?_)
        rintro ⟨v15, p15, l15⟩ hx15_0
        have hz2 := hx15_0
        refine ev_q rfl (q_move (by conv => lhs; whnf) ?_)
        refine ev_q rfl (q_extract rfl rfl ?_)
        refine ev_q rfl (q_extractI rfl rfl ?_)
        intro n16 hn16
        refine ev_q rfl (q_extractI rfl rfl ?_)
        intro n17 hn17
        refine ev_k rfl (k_alloc zA27 rfl ?_)
        refine ev_k rfl (k_store sz27 rfl (by conv => lhs; whnf) rfl rfl rfl (Nat.le_of_ble_eq_true rfl) rfl ?_)
        refine ev_q rfl (q_assign (by conv => lhs; whnf) ?_)
        refine ev_q rfl (q_assign (by conv => lhs; whnf) ?_)
        refine ev_nil (hK14 _ ?_); clear hK14
        refine good_seq fun K18 hK18 => ?_
        refine good_region rfl ?_
        refine ev_q rfl (q_loadA tA27 rfl rfl rfl ?_)
        refine ev_q rfl (q_move (by conv => lhs; whnf) ?_)
        refine ev_q rfl (q_move (by conv => lhs; whnf) ?_)
        refine ev_q rfl (q_call rfl rfl (rfl) (D_impl_LeastTransfer _ _ _ _ _ _ _ (show _ ≤ _ by omega)) rfl ?_)
        refine ev_q rfl (q_move (by conv => lhs; whnf) ?_)
        refine ev_q rfl (q_extractI rfl rfl ?_)
        intro n19 hn19
        refine ev_q rfl (q_extractI rfl rfl ?_)
        intro n20 hn20
        refine ev_q rfl (q_assign (by conv => lhs; whnf) ?_)
        refine ev_q rfl (q_assign (by conv => lhs; whnf) ?_)
        refine ev_nil (hK18 _ ?_); clear hK18
        refine good_join { env := upd (upd ((fun _ => .junk)) 0 (.lst 1 (cs.map cb))) 4 (.s (.bool false)), H := (fun _ => none) } ?_ fun K21 hK21 => ?_
        · refine good_seq fun K22 hK22 => ?_
          refine good_region rfl ?_
          refine ev_q rfl (q_move (by conv => lhs; whnf) ?_)
          refine ev_k rfl (k_callR [] (D_spec_DrawLeastPrimary cs (by omega) hb) rfl (rfl) (rfl) trivial rfl (by rintro ⟨v23, p23, l23⟩ hx23_0; exact ⟨trivial, rfl⟩) rfl rfl ?_)
          rintro ⟨v23, p23, l23⟩ hx23_0
          have hz3 := hx23_0
          refine ev_q rfl (q_move (by conv => lhs; whnf) ?_)
          refine ev_q rfl (q_extract rfl rfl ?_)
          refine ev_q rfl (q_extractI rfl rfl ?_)
          intro n24 hn24
          refine ev_q rfl (q_extractI rfl rfl ?_)
          intro n25 hn25
          refine ev_k rfl (k_alloc zA27 rfl ?_)
          refine ev_k rfl (k_store sz27 rfl (by conv => lhs; whnf) rfl rfl rfl (Nat.le_of_ble_eq_true rfl) rfl ?_)
          refine ev_q rfl (q_assign (by conv => lhs; whnf) ?_)
          refine ev_q rfl (q_assign (by conv => lhs; whnf) ?_)
          refine ev_nil (hK22 _ ?_); clear hK22
          refine good_seq fun K26 hK26 => ?_
          refine good_region rfl ?_
          refine ev_q rfl (q_loadA tA27 rfl rfl rfl ?_)
          refine ev_q rfl (q_move (by conv => lhs; whnf) ?_)
          refine ev_q rfl (q_move (by conv => lhs; whnf) ?_)
          refine ev_q rfl (q_call rfl rfl (rfl) (D_impl_LeastPrimary _ _ _ _ _ _ _ (show _ ≤ _ by omega)) rfl ?_)
          refine ev_q rfl (q_move (by conv => lhs; whnf) ?_)
          refine ev_q rfl (q_extractI rfl rfl ?_)
          intro n27 hn27
          refine ev_q rfl (q_extractI rfl rfl ?_)
          intro n28 hn28
          refine ev_q rfl (q_assign (by conv => lhs; whnf) ?_)
          refine ev_q rfl (q_assign (by conv => lhs; whnf) ?_)
          refine ev_nil (hK26 _ ?_); clear hK26
          refine good_seq fun K29 hK29 => ?_
          refine good_seq fun K30 hK30 => ?_
          refine good_region rfl ?_
          refine ev_q rfl (q_move (by conv => lhs; whnf) ?_)
          refine ev_q rfl (q_int rfl rfl ?_)
          intro b31 hb31; cases b31
          · replace hb31 := neF hb31
            obtain ⟨hA3, hB3, hC3, hq3⟩ := if3 hn27 hn28 (by omega)
            obtain ⟨k1, k2, k3, k4⟩ := lst_spec (fun n => pwP v23.tr v23.su v23.re n n25 ≥ n24) (lo := 0) (hi := 18000) (by omega)
            replace hq3 : n27 = lst (fun n => pwP v23.tr v23.su v23.re n n25 ≥ n24) 0 18000 := hq3
            replace hC3 : lst (fun n => pwP v23.tr v23.su v23.re n n25 ≥ n24) 0 18000 ≤ 18000 := hC3
            rw [← hq3] at k1 k2 k3 k4 hC3
            refine ev_nil (hK30 _ ?_); clear hK30
            refine good_condF rfl ?_
            refine good_skip (hK29 _ ?_); clear hK29
            refine good_seq fun K32 hK32 => ?_
            refine good_region rfl ?_
            refine ev_q rfl (q_loadA tA27 rfl rfl rfl ?_)
            refine ev_q rfl (q_move (by conv => lhs; whnf) ?_)
            refine ev_q rfl (q_move (by conv => lhs; whnf) ?_)
            refine ev_q rfl (q_call rfl rfl (rfl) (D_impl_PowerAt _ _ _ _ _ _ _ (show _ ≤ _ by omega)) rfl ?_)
            refine ev_q rfl (q_move (by conv => lhs; whnf) ?_)
            refine ev_q rfl (q_extractI rfl rfl ?_)
            intro n33 hn33
            refine ev_q rfl (q_extractI rfl rfl ?_)
            intro n34 hn34
            refine ev_q rfl (q_assign (by conv => lhs; whnf) ?_)
            refine ev_q rfl (q_assign (by conv => lhs; whnf) ?_)
            refine ev_nil (hK32 _ ?_); clear hK32
            refine good_seq fun K35 hK35 => ?_
            refine good_region rfl ?_
            refine ev_q rfl (q_loadA tA27 rfl rfl rfl ?_)
            refine ev_q rfl (q_move (by conv => lhs; whnf) ?_)
            refine ev_q rfl (q_int rfl rfl ?_)
            intro n36 hn36
            replace hn36 := in64 hn36 (by omega) (by omega)
            refine ev_q rfl (q_move (by conv => lhs; whnf) ?_)
            refine ev_q rfl (q_call rfl rfl (rfl) (D_impl_PowerAt _ _ _ _ _ _ _ (show _ ≤ _ by omega)) rfl ?_)
            refine ev_q rfl (q_move (by conv => lhs; whnf) ?_)
            refine ev_q rfl (q_extractI rfl rfl ?_)
            intro n37 hn37
            refine ev_q rfl (q_extractI rfl rfl ?_)
            intro n38 hn38
            refine ev_q rfl (q_assign (by conv => lhs; whnf) ?_)
            refine ev_q rfl (q_assign (by conv => lhs; whnf) ?_)
            refine ev_nil (hK35 _ ?_); clear hK35
            refine good_seq fun K39 hK39 => ?_
            refine good_region rfl ?_
            obtain ⟨e5, e6⟩ := if2T hn33 hn34 hA3 ⟨⟨by omega, by omega⟩, hB3.2⟩
            have f6 : n33 ≥ n24 := by rw [e6]; exact k4 hC3
            have f7 : n38 = 0 → n37 < n24 := fun h => by have h2 := if2 hn37 hn38 h; have h3 := k3 n36 (by have := h2.2.1; omega) (by omega); rw [h2.2.2]; exact Int.not_le.1 h3
            clear k3 k4 hA3
            refine ev_q rfl (q_move (by conv => lhs; whnf) ?_)
            refine ev_q rfl (q_int rfl rfl ?_)
            intro b40 hb40; cases b40
            · replace hb40 := eqF hb40
              exfalso; first | omega | (have := f2 (by omega); omega)
            · replace hb40 := eqT hb40
              refine ev_q rfl (q_move (by conv => lhs; whnf) ?_)
              refine ev_q rfl (q_move (by conv => lhs; whnf) ?_)
              refine ev_q rfl (q_move (by conv => lhs; whnf) ?_)
              refine ev_q rfl (q_int rfl rfl ?_)
              intro b41 hb41; cases b41
              · replace hb41 := dF hb41
                exfalso; first | omega | (have := f2 (by omega); omega)
              · replace hb41 := dT hb41
                refine ev_q rfl (q_pickT rfl (by conv => lhs; whnf) ?_)
                refine ev_q rfl (q_move (by conv => lhs; whnf) ?_)
                refine ev_q rfl (q_move (by conv => lhs; whnf) ?_)
                refine ev_q rfl (q_int rfl rfl ?_)
                intro b42 hb42; cases b42
                · replace hb42 := neF hb42
                  refine ev_q rfl (q_move (by conv => lhs; whnf) ?_)
                  refine ev_q rfl (q_move (by conv => lhs; whnf) ?_)
                  refine ev_q rfl (q_move (by conv => lhs; whnf) ?_)
                  refine ev_q rfl (q_int rfl rfl ?_)
                  intro b43 hb43; cases b43
                  · replace hb43 := dF hb43
                    exfalso; first | omega | (have := f2 (by omega); omega)
                  · replace hb43 := dT hb43
                    refine ev_q rfl (q_pickF rfl (by conv => lhs; whnf) ?_)
                    refine ev_q rfl (q_pickT rfl (by conv => lhs; whnf) ?_)
                    refine ev_q rfl (q_assign (by conv => lhs; whnf) ?_)
                    refine ev_nil (hK39 _ ?_); clear hK39
                    refine good_ret ?_
                    repeat (first | refine thenQ_ret ?_ | refine blockQ_ret ?_)
                    refine ret_tmp (st := _) rfl (by conv => lhs; whnf) rfl ?_
                    first | rfl | (exfalso; first | omega | (have := f2 (by omega); omega))
                · replace hb42 := neT hb42
                  refine ev_q rfl (q_move (by conv => lhs; whnf) ?_)
                  refine ev_skip rfl ?_
                  refine ev_skip rfl ?_
                  refine ev_skip rfl ?_
                  refine ev_q rfl (q_pickT rfl (by conv => lhs; whnf) ?_)
                  refine ev_q rfl (q_pickT rfl (by conv => lhs; whnf) ?_)
                  refine ev_q rfl (q_assign (by conv => lhs; whnf) ?_)
                  refine ev_nil (hK39 _ ?_); clear hK39
                  refine good_ret ?_
                  repeat (first | refine thenQ_ret ?_ | refine blockQ_ret ?_)
                  refine ret_tmp (st := _) rfl (by conv => lhs; whnf) rfl ?_
                  first | rfl | (exfalso; first | omega | (have := f2 (by omega); omega))
          · replace hb31 := neT hb31
            refine ev_nil (hK30 _ ?_); clear hK30
            refine good_condT rfl ?_
            refine good_seq fun K44 hK44 => ?_
            refine good_region rfl ?_
            refine ev_q rfl (q_move (by conv => lhs; whnf) ?_)
            have hz0 := if3n hn27 hn28 (by omega)
            refine ev_q rfl (q_int rfl rfl ?_)
            intro b45 hb45; cases b45
            · replace hb45 := eqF hb45
              refine ev_q rfl (q_assign (by conv => lhs; whnf) ?_)
              refine ev_nil (hK44 _ ?_); clear hK44
              refine good_ret ?_
              repeat (first | refine thenQ_ret ?_ | refine blockQ_ret ?_)
              refine ret_tmp (st := _) rfl (by conv => lhs; whnf) rfl ?_
              clear hK29
              first | rfl | (exfalso; first | omega | (have := f2 (by omega); omega))
            · replace hb45 := eqT hb45
              refine ev_q rfl (q_assign (by conv => lhs; whnf) ?_)
              refine ev_nil (hK44 _ ?_); clear hK44
              refine good_ret ?_
              repeat (first | refine thenQ_ret ?_ | refine blockQ_ret ?_)
              refine ret_tmp (st := _) rfl (by conv => lhs; whnf) rfl ?_
              clear hK29
              first | rfl | (exfalso; first | omega | (have := f2 (by omega); omega))
        · refine good_seq fun K46 hK46 => ?_
          refine good_region rfl ?_
          refine ev_q rfl (q_move (by conv => lhs; whnf) ?_)
          refine ev_q rfl (q_int rfl rfl ?_)
          intro b47 hb47; cases b47
          · replace hb47 := eqF hb47
            refine ev_nil (hK46 _ ?_); clear hK46
            refine good_condF rfl ?_
            refine good_skip (hK21 _ ?_); clear hK21
            refine sub_weak ?_ ?_
            · exact weakH_none _
            · refine weakE_upd ?e4 ?r4 (weakE_upd ?e0 ?r0 (weakE_junk _ _))
              case e0 => first | rfl | exact fI (by omega) | (rfl)
              case r0 => intro h hh; cases hh
              case e4 => first | rfl | exact fI (by omega) | (rfl)
              case r4 => intro h hh; cases hh
          · replace hb47 := eqT hb47
            obtain ⟨hA2, hB2, hC2, hq2⟩ := if3 hn19 hn20 (by omega)
            obtain ⟨j1, j2, j3, j4⟩ := lst_spec (fun n => pwP n v15.su v15.re n16 100000 ≥ n17) (lo := 1) (hi := 100000) (by omega)
            replace hq2 : n19 = lst (fun n => pwP n v15.su v15.re n16 100000 ≥ n17) 1 100000 := hq2
            replace hC2 : lst (fun n => pwP n v15.su v15.re n16 100000 ≥ n17) 1 100000 ≤ 100000 := hC2
            rw [← hq2] at j1 j2 j3 j4 hC2
            obtain ⟨i1, i2, i3, i4, i5⟩ := hA2
            refine ev_nil (hK46 _ ?_); clear hK46
            refine good_condT rfl ?_
            refine good_seq fun K48 hK48 => ?_
            refine good_region rfl ?_
            refine ev_q rfl (q_loadA tA27 rfl rfl rfl ?_)
            refine ev_k rfl (k_alloc zA27 rfl ?_)
            refine ev_k rfl (k_store sz27 rfl (by conv => lhs; whnf) rfl rfl rfl (Nat.le_of_ble_eq_true rfl) rfl ?_)
            refine ev_nil (hK48 _ ?_); clear hK48
            refine good_seq fun K49 hK49 => ?_
            refine good_region rfl ?_
            refine ev_q rfl (q_move (by conv => lhs; whnf) ?_)
            refine ev_q rfl (q_fieldAddrP fO27_2 rfl rfl ?_)
            refine ev_k rfl (k_store sz2 rfl (by conv => lhs; whnf) rfl rfl rfl (Nat.le_of_ble_eq_true rfl) rfl ?_)
            refine ev_nil (hK49 _ ?_); clear hK49
            refine good_seq fun K50 hK50 => ?_
            refine good_region rfl ?_
            refine ev_q rfl (q_loadA tA27 rfl rfl rfl ?_)
            refine ev_q rfl (q_move (by conv => lhs; whnf) ?_)
            refine ev_q rfl (q_call rfl rfl (rfl) (D_impl_PowerAt _ _ _ _ _ _ _ (show _ ≤ _ by omega)) rfl ?_)
            refine ev_q rfl (q_move (by conv => lhs; whnf) ?_)
            refine ev_q rfl (q_extractI rfl rfl ?_)
            intro n51 hn51
            refine ev_q rfl (q_extractI rfl rfl ?_)
            intro n52 hn52
            refine ev_q rfl (q_assign (by conv => lhs; whnf) ?_)
            refine ev_q rfl (q_assign (by conv => lhs; whnf) ?_)
            refine ev_nil (hK50 _ ?_); clear hK50
            refine good_seq fun K53 hK53 => ?_
            refine good_region rfl ?_
            refine ev_q rfl (q_move (by conv => lhs; whnf) ?_)
            refine ev_q rfl (q_int rfl rfl ?_)
            intro n54 hn54
            replace hn54 := in64 hn54 (by omega) (by omega)
            refine ev_q rfl (q_fieldAddrP fO27_2 rfl rfl ?_)
            refine ev_k rfl (k_store sz2 rfl (by conv => lhs; whnf) rfl rfl rfl (Nat.le_of_ble_eq_true rfl) rfl ?_)
            refine ev_nil (hK53 _ ?_); clear hK53
            refine good_seq fun K55 hK55 => ?_
            refine good_region rfl ?_
            refine ev_q rfl (q_loadA tA27 rfl rfl rfl ?_)
            refine ev_q rfl (q_move (by conv => lhs; whnf) ?_)
            refine ev_q rfl (q_call rfl rfl (rfl) (D_impl_PowerAt _ _ _ _ _ _ _ (show _ ≤ _ by omega)) rfl ?_)
            refine ev_q rfl (q_move (by conv => lhs; whnf) ?_)
            refine ev_q rfl (q_extractI rfl rfl ?_)
            intro n56 hn56
            refine ev_q rfl (q_extractI rfl rfl ?_)
            intro n57 hn57
            refine ev_q rfl (q_assign (by conv => lhs; whnf) ?_)
            refine ev_q rfl (q_assign (by conv => lhs; whnf) ?_)
            refine ev_nil (hK55 _ ?_); clear hK55
            refine good_seq fun K58 hK58 => ?_
            refine good_region rfl ?_
            obtain ⟨e3, e4⟩ := if2T hn51 hn52 ⟨i1, i2, by omega, i4, i5⟩ ⟨hB2.1, by omega, by omega⟩
            have f4 : n51 ≥ n17 := by rw [e4]; exact j4 hC2
            have f5 : n57 = 0 → n56 < n17 := fun h => by have h2 := if2 hn56 hn57 h; have h3 := j3 n54 h2.1.2.2.1.1 (by omega); rw [h2.2.2]; exact Int.not_le.1 h3
            clear j3 j4 i1
            refine ev_q rfl (q_move (by conv => lhs; whnf) ?_)
            refine ev_q rfl (q_int rfl rfl ?_)
            intro b59 hb59; cases b59
            · replace hb59 := neF hb59
              refine ev_q rfl (q_move (by conv => lhs; whnf) ?_)
              refine ev_q rfl (q_move (by conv => lhs; whnf) ?_)
              refine ev_q rfl (q_move (by conv => lhs; whnf) ?_)
              refine ev_q rfl (q_int rfl rfl ?_)
              intro b60 hb60; cases b60
              · replace hb60 := dF hb60
                refine ev_q rfl (q_pickF rfl (by conv => lhs; whnf) ?_)
                refine ev_q rfl (q_move (by conv => lhs; whnf) ?_)
                refine ev_q rfl (q_move (by conv => lhs; whnf) ?_)
                refine ev_q rfl (q_int rfl rfl ?_)
                intro b61 hb61; cases b61
                · replace hb61 := eqF hb61
                  refine ev_q rfl (q_move (by conv => lhs; whnf) ?_)
                  refine ev_skip rfl ?_
                  refine ev_skip rfl ?_
                  refine ev_skip rfl ?_
                  refine ev_q rfl (q_pickF rfl (by conv => lhs; whnf) ?_)
                  refine ev_q rfl (q_pickF rfl (by conv => lhs; whnf) ?_)
                  refine ev_nil (hK58 _ ?_); clear hK58
                  refine good_condF rfl ?_
                  refine good_skip (hK21 _ ?_); clear hK21
                  refine sub_weak ?_ ?_
                  · exact weakH_none _
                  · refine weakE_upd ?e4 ?r4 (weakE_upd ?e0 ?r0 (weakE_junk _ _))
                    case e0 => first | rfl | exact fI (by omega) | (rfl)
                    case r0 => intro h hh; cases hh
                    case e4 => first | rfl | exact fI (by omega) | (rfl)
                    case r4 => intro h hh; cases hh
                · replace hb61 := eqT hb61
                  refine ev_q rfl (q_move (by conv => lhs; whnf) ?_)
                  refine ev_q rfl (q_move (by conv => lhs; whnf) ?_)
                  refine ev_q rfl (q_move (by conv => lhs; whnf) ?_)
                  refine ev_q rfl (q_int rfl rfl ?_)
                  intro b62 hb62; cases b62
                  · replace hb62 := dF hb62
                    refine ev_q rfl (q_pickT rfl (by conv => lhs; whnf) ?_)
                    refine ev_q rfl (q_pickF rfl (by conv => lhs; whnf) ?_)
                    refine ev_nil (hK58 _ ?_); clear hK58
                    refine good_condF rfl ?_
                    refine good_skip (hK21 _ ?_); clear hK21
                    refine sub_weak ?_ ?_
                    · exact weakH_none _
                    · refine weakE_upd ?e4 ?r4 (weakE_upd ?e0 ?r0 (weakE_junk _ _))
                      case e0 => first | rfl | exact fI (by omega) | (rfl)
                      case r0 => intro h hh; cases hh
                      case e4 => first | rfl | exact fI (by omega) | (rfl)
                      case r4 => intro h hh; cases hh
                  · replace hb62 := dT hb62
                    exfalso; first | omega | (have := f2 (by omega); omega)
              · replace hb60 := dT hb60
                exfalso; first | omega | (have := f2 (by omega); omega)
            · replace hb59 := neT hb59
              exfalso; first | omega | (have := f2 (by omega); omega)
      · refine good_seq fun K63 hK63 => ?_
        refine good_region rfl ?_
        refine ev_q rfl (q_move (by conv => lhs; whnf) ?_)
        refine ev_q rfl (q_int rfl rfl ?_)
        intro b64 hb64; cases b64
        · replace hb64 := eqF hb64
          refine ev_nil (hK63 _ ?_); clear hK63
          refine good_condF rfl ?_
          refine good_skip (hK13 _ ?_); clear hK13
          refine sub_weak ?_ ?_
          · exact weakH_none _
          · refine weakE_upd ?e4 ?r4 (weakE_upd ?e1 ?r1 (weakE_upd ?e0 ?r0 (weakE_junk _ _)))
            case e0 => first | rfl | exact fI (by omega) | (rfl)
            case r0 => intro h hh; cases hh
            case e1 => first | rfl | exact fI (by omega) | (rfl)
            case r1 => intro h hh; cases hh
            case e4 => first | rfl | exact fI (by omega) | (rfl)
            case r4 => intro h hh; cases hh
        · replace hb64 := eqT hb64
          obtain ⟨hA, hB, hC, hq⟩ := if3 hn11 hn12 (by omega)
          obtain ⟨g1, g2, g3, g4⟩ := lst_spec (fun n => pwP v7.tr v7.su v7.re n8 n ≥ n9) (lo := 0) (hi := 100000) (by omega)
          replace hq : n11 = lst (fun n => pwP v7.tr v7.su v7.re n8 n ≥ n9) 0 100000 := hq
          replace hC : lst (fun n => pwP v7.tr v7.su v7.re n8 n ≥ n9) 0 100000 ≤ 100000 := hC
          rw [← hq] at g1 g2 g3 g4 hC
          refine ev_nil (hK63 _ ?_); clear hK63
          refine good_condT rfl ?_
          refine good_seq fun K65 hK65 => ?_
          refine good_region rfl ?_
          refine ev_q rfl (q_loadA tA27 rfl rfl rfl ?_)
          refine ev_q rfl (q_move (by conv => lhs; whnf) ?_)
          refine ev_q rfl (q_move (by conv => lhs; whnf) ?_)
          refine ev_q rfl (q_call rfl rfl (rfl) (D_impl_PowerAt _ _ _ _ _ _ _ (show _ ≤ _ by omega)) rfl ?_)
          refine ev_q rfl (q_move (by conv => lhs; whnf) ?_)
          refine ev_q rfl (q_extractI rfl rfl ?_)
          intro n66 hn66
          refine ev_q rfl (q_extractI rfl rfl ?_)
          intro n67 hn67
          refine ev_q rfl (q_assign (by conv => lhs; whnf) ?_)
          refine ev_q rfl (q_assign (by conv => lhs; whnf) ?_)
          refine ev_nil (hK65 _ ?_); clear hK65
          refine good_seq fun K68 hK68 => ?_
          refine good_region rfl ?_
          refine ev_q rfl (q_loadA tA27 rfl rfl rfl ?_)
          refine ev_q rfl (q_move (by conv => lhs; whnf) ?_)
          refine ev_q rfl (q_move (by conv => lhs; whnf) ?_)
          refine ev_q rfl (q_int rfl rfl ?_)
          intro n69 hn69
          replace hn69 := in64 hn69 (by omega) (by omega)
          refine ev_q rfl (q_call rfl rfl (rfl) (D_impl_PowerAt _ _ _ _ _ _ _ (show _ ≤ _ by omega)) rfl ?_)
          refine ev_q rfl (q_move (by conv => lhs; whnf) ?_)
          refine ev_q rfl (q_extractI rfl rfl ?_)
          intro n70 hn70
          refine ev_q rfl (q_extractI rfl rfl ?_)
          intro n71 hn71
          refine ev_q rfl (q_assign (by conv => lhs; whnf) ?_)
          refine ev_q rfl (q_assign (by conv => lhs; whnf) ?_)
          refine ev_nil (hK68 _ ?_); clear hK68
          refine good_seq fun K72 hK72 => ?_
          refine good_region rfl ?_
          refine ev_q rfl (q_loadA tA27 rfl rfl rfl ?_)
          refine ev_q rfl (q_move (by conv => lhs; whnf) ?_)
          refine ev_q rfl (q_move (by conv => lhs; whnf) ?_)
          refine ev_q rfl (q_int rfl rfl ?_)
          intro n73 hn73
          replace hn73 := in64 hn73 (by omega) (by omega)
          refine ev_q rfl (q_call rfl rfl (rfl) (D_impl_PowerAt _ _ _ _ _ _ _ (show _ ≤ _ by omega)) rfl ?_)
          refine ev_q rfl (q_move (by conv => lhs; whnf) ?_)
          refine ev_q rfl (q_extractI rfl rfl ?_)
          intro n74 hn74
          refine ev_q rfl (q_extractI rfl rfl ?_)
          intro n75 hn75
          refine ev_q rfl (q_assign (by conv => lhs; whnf) ?_)
          refine ev_q rfl (q_assign (by conv => lhs; whnf) ?_)
          refine ev_nil (hK72 _ ?_); clear hK72
          refine good_seq fun K76 hK76 => ?_
          refine good_region rfl ?_
          obtain ⟨e1, e2⟩ := if2T hn66 hn67 hA ⟨hB.1, by omega, by omega⟩
          have f1 : n66 ≥ n9 := by rw [e2]; exact g4 hC
          have f2 : 0 < n11 → n71 = 0 ∧ n70 < n9 := fun h => by have h2 := if2T hn70 hn71 hA ⟨hB.1, by omega, by omega⟩; refine ⟨h2.1, ?_⟩; have h3 := g3 n69 (by omega) (by omega); rw [h2.2]; exact Int.not_le.1 h3
          have f3 : n75 = 0 → n74 ≥ n66 := fun h => by have h2 := if2 hn74 hn75 h; rw [h2.2.2, e2]; exact pw_q (by omega)
          clear g3 g4 hA
          refine ev_q rfl (q_move (by conv => lhs; whnf) ?_)
          refine ev_q rfl (q_int rfl rfl ?_)
          intro b77 hb77; cases b77
          · replace hb77 := neF hb77
            refine ev_q rfl (q_move (by conv => lhs; whnf) ?_)
            refine ev_q rfl (q_move (by conv => lhs; whnf) ?_)
            refine ev_q rfl (q_move (by conv => lhs; whnf) ?_)
            refine ev_q rfl (q_int rfl rfl ?_)
            intro b78 hb78; cases b78
            · replace hb78 := dF hb78
              refine ev_q rfl (q_pickF rfl (by conv => lhs; whnf) ?_)
              refine ev_q rfl (q_move (by conv => lhs; whnf) ?_)
              refine ev_q rfl (q_move (by conv => lhs; whnf) ?_)
              refine ev_q rfl (q_int rfl rfl ?_)
              intro b79 hb79; cases b79
              · replace hb79 := dF hb79
                refine ev_q rfl (q_move (by conv => lhs; whnf) ?_)
                refine ev_skip rfl ?_
                refine ev_skip rfl ?_
                refine ev_skip rfl ?_
                refine ev_skip rfl ?_
                refine ev_skip rfl ?_
                refine ev_skip rfl ?_
                refine ev_skip rfl ?_
                refine ev_q rfl (q_pickF rfl (by conv => lhs; whnf) ?_)
                refine ev_q rfl (q_pickF rfl (by conv => lhs; whnf) ?_)
                refine ev_q rfl (q_move (by conv => lhs; whnf) ?_)
                refine ev_q rfl (q_move (by conv => lhs; whnf) ?_)
                refine ev_q rfl (q_int rfl rfl ?_)
                intro b80 hb80; cases b80
                · replace hb80 := eqF hb80
                  refine ev_q rfl (q_move (by conv => lhs; whnf) ?_)
                  refine ev_skip rfl ?_
                  refine ev_skip rfl ?_
                  refine ev_skip rfl ?_
                  refine ev_q rfl (q_pickF rfl (by conv => lhs; whnf) ?_)
                  refine ev_q rfl (q_pickF rfl (by conv => lhs; whnf) ?_)
                  refine ev_nil (hK76 _ ?_); clear hK76
                  refine good_condF rfl ?_
                  refine good_skip (hK13 _ ?_); clear hK13
                  refine sub_weak ?_ ?_
                  · exact weakH_none _
                  · refine weakE_upd ?e4 ?r4 (weakE_upd ?e1 ?r1 (weakE_upd ?e0 ?r0 (weakE_junk _ _)))
                    case e0 => first | rfl | exact fI (by omega) | (rfl)
                    case r0 => intro h hh; cases hh
                    case e1 => first | rfl | exact fI (by omega) | (rfl)
                    case r1 => intro h hh; cases hh
                    case e4 => first | rfl | exact fI (by omega) | (rfl)
                    case r4 => intro h hh; cases hh
                · replace hb80 := eqT hb80
                  refine ev_q rfl (q_move (by conv => lhs; whnf) ?_)
                  refine ev_q rfl (q_move (by conv => lhs; whnf) ?_)
                  refine ev_q rfl (q_move (by conv => lhs; whnf) ?_)
                  refine ev_q rfl (q_int rfl rfl ?_)
                  intro b81 hb81; cases b81
                  · replace hb81 := dF hb81
                    refine ev_q rfl (q_pickT rfl (by conv => lhs; whnf) ?_)
                    refine ev_q rfl (q_pickF rfl (by conv => lhs; whnf) ?_)
                    refine ev_nil (hK76 _ ?_); clear hK76
                    refine good_condF rfl ?_
                    refine good_skip (hK13 _ ?_); clear hK13
                    refine sub_weak ?_ ?_
                    · exact weakH_none _
                    · refine weakE_upd ?e4 ?r4 (weakE_upd ?e1 ?r1 (weakE_upd ?e0 ?r0 (weakE_junk _ _)))
                      case e0 => first | rfl | exact fI (by omega) | (rfl)
                      case r0 => intro h hh; cases hh
                      case e1 => first | rfl | exact fI (by omega) | (rfl)
                      case r1 => intro h hh; cases hh
                      case e4 => first | rfl | exact fI (by omega) | (rfl)
                      case r4 => intro h hh; cases hh
                  · replace hb81 := dT hb81
                    exfalso; first | omega | (have := f2 (by omega); omega)
              · replace hb79 := dT hb79
                refine ev_q rfl (q_move (by conv => lhs; whnf) ?_)
                refine ev_q rfl (q_move (by conv => lhs; whnf) ?_)
                refine ev_q rfl (q_int rfl rfl ?_)
                intro b82 hb82; cases b82
                · replace hb82 := neF hb82
                  refine ev_q rfl (q_move (by conv => lhs; whnf) ?_)
                  refine ev_q rfl (q_move (by conv => lhs; whnf) ?_)
                  refine ev_q rfl (q_move (by conv => lhs; whnf) ?_)
                  refine ev_q rfl (q_int rfl rfl ?_)
                  intro b83 hb83; cases b83
                  · replace hb83 := dF hb83
                    refine ev_q rfl (q_pickF rfl (by conv => lhs; whnf) ?_)
                    refine ev_q rfl (q_pickT rfl (by conv => lhs; whnf) ?_)
                    refine ev_q rfl (q_pickF rfl (by conv => lhs; whnf) ?_)
                    refine ev_q rfl (q_move (by conv => lhs; whnf) ?_)
                    refine ev_q rfl (q_move (by conv => lhs; whnf) ?_)
                    refine ev_q rfl (q_int rfl rfl ?_)
                    intro b84 hb84; cases b84
                    · replace hb84 := eqF hb84
                      refine ev_q rfl (q_move (by conv => lhs; whnf) ?_)
                      refine ev_skip rfl ?_
                      refine ev_skip rfl ?_
                      refine ev_skip rfl ?_
                      refine ev_q rfl (q_pickF rfl (by conv => lhs; whnf) ?_)
                      refine ev_q rfl (q_pickF rfl (by conv => lhs; whnf) ?_)
                      refine ev_nil (hK76 _ ?_); clear hK76
                      refine good_condF rfl ?_
                      refine good_skip (hK13 _ ?_); clear hK13
                      refine sub_weak ?_ ?_
                      · exact weakH_none _
                      · refine weakE_upd ?e4 ?r4 (weakE_upd ?e1 ?r1 (weakE_upd ?e0 ?r0 (weakE_junk _ _)))
                        case e0 => first | rfl | exact fI (by omega) | (rfl)
                        case r0 => intro h hh; cases hh
                        case e1 => first | rfl | exact fI (by omega) | (rfl)
                        case r1 => intro h hh; cases hh
                        case e4 => first | rfl | exact fI (by omega) | (rfl)
                        case r4 => intro h hh; cases hh
                    · replace hb84 := eqT hb84
                      refine ev_q rfl (q_move (by conv => lhs; whnf) ?_)
                      refine ev_q rfl (q_move (by conv => lhs; whnf) ?_)
                      refine ev_q rfl (q_move (by conv => lhs; whnf) ?_)
                      refine ev_q rfl (q_int rfl rfl ?_)
                      intro b85 hb85; cases b85
                      · replace hb85 := dF hb85
                        refine ev_q rfl (q_pickT rfl (by conv => lhs; whnf) ?_)
                        refine ev_q rfl (q_pickF rfl (by conv => lhs; whnf) ?_)
                        refine ev_nil (hK76 _ ?_); clear hK76
                        refine good_condF rfl ?_
                        refine good_skip (hK13 _ ?_); clear hK13
                        refine sub_weak ?_ ?_
                        · exact weakH_none _
                        · refine weakE_upd ?e4 ?r4 (weakE_upd ?e1 ?r1 (weakE_upd ?e0 ?r0 (weakE_junk _ _)))
                          case e0 => first | rfl | exact fI (by omega) | (rfl)
                          case r0 => intro h hh; cases hh
                          case e1 => first | rfl | exact fI (by omega) | (rfl)
                          case r1 => intro h hh; cases hh
                          case e4 => first | rfl | exact fI (by omega) | (rfl)
                          case r4 => intro h hh; cases hh
                      · replace hb85 := dT hb85
                        exfalso; first | omega | (have := f2 (by omega); omega)
                  · replace hb83 := dT hb83
                    exfalso; first | omega | (have := f2 (by omega); omega)
                · replace hb82 := neT hb82
                  exfalso; first | omega | (have := f2 (by omega); omega)
            · replace hb78 := dT hb78
              exfalso; first | omega | (have := f2 (by omega); omega)
          · replace hb77 := neT hb77
            exfalso; first | omega | (have := f2 (by omega); omega)
    · first | replace hb5 := dT hb5 | skip
      refine ev_q rfl (q_pickF rfl (by conv => lhs; whnf) ?_)
      refine ev_nil (hK3 _ ?_); clear hK3
      refine good_condT rfl ?_
      refine good_seq fun K86 hK86 => ?_
      refine good_region rfl ?_
      refine ev_q rfl (q_assign (by conv => lhs; whnf) ?_)
      refine ev_nil (hK86 _ ?_); clear hK86
      refine good_ret ?_
      repeat (first | refine thenQ_ret ?_ | refine blockQ_ret ?_)
      refine ret_tmp (st := _) rfl (by conv => lhs; whnf) rfl ?_
      clear hK2
      first | rfl | (exfalso; first | omega | (have := f2 (by omega); omega))
  · first | replace hb4 := dT hb4 | skip
    refine ev_q rfl (q_move (by conv => lhs; whnf) ?_)
    refine ev_skip rfl ?_
    refine ev_skip rfl ?_
    refine ev_q rfl (q_pickT rfl (by conv => lhs; whnf) ?_)
    refine ev_nil (hK3 _ ?_); clear hK3
    refine good_condT rfl ?_
    refine good_seq fun K87 hK87 => ?_
    refine good_region rfl ?_
    refine ev_q rfl (q_assign (by conv => lhs; whnf) ?_)
    refine ev_nil (hK87 _ ?_); clear hK87
    refine good_ret ?_
    repeat (first | refine thenQ_ret ?_ | refine blockQ_ret ?_)
    refine ret_tmp (st := _) rfl (by conv => lhs; whnf) rfl ?_
    clear hK2
    first | rfl | (exfalso; first | omega | (have := f2 (by omega); omega))

end Go.Proofs.Ythhajcpgbcpbmaa.DFnSubstations
