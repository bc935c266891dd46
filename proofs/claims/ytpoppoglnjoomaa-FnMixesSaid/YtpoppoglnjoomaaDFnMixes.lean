/- Walks through the functions that FnMixes reaches: what each answers. -/
import Derived.Test.YtpoppoglnjoomaaDFnMixesa
set_option linter.unusedVariables false
set_option linter.unusedSimpArgs false
namespace Go.Proofs.Ytpoppoglnjoomaa.DFnMixes
open Go Go.RowKit Go.Proofs Go.Proofs.Ytpoppoglnjoomaa Go.Proofs.Ytpoppoglnjoomaa.Ev
-- laws.FnMixes
set_option maxRecDepth 20000 in
set_option maxHeartbeats 2000000 in
theorem D_laws_FnMixes (cs ds : List Int) (hb : byteL cs) (hb2 : byteL ds) : Den Try.prog 11 [.lst 1 (cs.map cb), .lst 1 (ds.map cb)] (.s (.bool true)) := by
  refine den_of_good Try.func11 (by decide) rfl (Nat.le_of_ble_eq_true rfl) (Nat.le_of_ble_eq_true rfl) ?_
  refine good_seq fun K1 hK1 => ?_
  refine good_region rfl ?_
  refine ev_q rfl (q_assign (by conv => lhs; whnf) ?_)
  refine ev_nil (hK1 _ ?_); clear hK1
  refine good_seq fun K2 hK2 => ?_
  refine good_seq fun K3 hK3 => ?_
  refine good_region rfl ?_
  refine ev_q rfl (q_move (by conv => lhs; whnf) ?_)
  refine ev_q rfl (q_callB rfl rfl (rfl) (D_laws_b10Long cs) ?_)
  intro b4 hb4; cases b4
  · first | replace hb4 := dF hb4 | skip
    refine ev_q rfl (q_move (by conv => lhs; whnf) ?_)
    refine ev_q rfl (q_move (by conv => lhs; whnf) ?_)
    refine ev_q rfl (q_callB rfl rfl (rfl) (D_laws_b10Long ds) ?_)
    intro b5 hb5; cases b5
    · first | replace hb5 := dF hb5 | skip
      refine ev_q rfl (q_pickF rfl (by conv => lhs; whnf) ?_)
      refine ev_nil (hK3 _ ?_); clear hK3
      refine good_condF rfl ?_
      refine good_skip (hK2 _ ?_); clear hK2
      refine good_seq fun K6 hK6 => ?_
      refine good_region rfl ?_
      refine ev_q rfl (q_move (by conv => lhs; whnf) ?_)
      refine ev_k rfl (k_callR [] (D_spec_DrawMixWater cs (by omega) hb) rfl (rfl) (rfl) trivial rfl (by rintro ⟨f7, t7⟩ hx7_0; exact ⟨trivial, rfl⟩) rfl rfl ?_)
      rintro ⟨f7, t7⟩ hx7_0
      refine ev_q rfl (q_move (by conv => lhs; whnf) ?_)
      refine ev_q rfl (q_extract rfl rfl ?_)
      refine ev_q rfl (q_extract rfl rfl ?_)
      refine ev_q rfl (q_assign (by conv => lhs; whnf) ?_)
      refine ev_q rfl (q_assign (by conv => lhs; whnf) ?_)
      refine ev_nil (hK6 _ ?_); clear hK6
      refine good_seq fun K8 hK8 => ?_
      refine good_region rfl ?_
      refine ev_q rfl (q_move (by conv => lhs; whnf) ?_)
      refine ev_q rfl (q_move (by conv => lhs; whnf) ?_)
      refine ev_q rfl (q_call rfl rfl (rfl) (D_impl_MixWater _ _ (by omega) (by omega)) rfl ?_)
      refine ev_q rfl (q_move (by conv => lhs; whnf) ?_)
      refine ev_q rfl (q_extractI rfl rfl ?_)
      intro n9 hn9
      refine ev_q rfl (q_extractI rfl rfl ?_)
      intro n10 hn10
      refine ev_q rfl (q_assign (by conv => lhs; whnf) ?_)
      refine ev_q rfl (q_assign (by conv => lhs; whnf) ?_)
      refine ev_nil (hK8 _ ?_); clear hK8
      refine good_join { env := upd (upd ((fun _ => .junk)) 0 (.lst 1 (cs.map cb))) 1 (.lst 1 (ds.map cb)), H := (fun _ => none) } ?_ fun K11 hK11 => ?_
      · refine good_seq fun K12 hK12 => ?_
        refine good_region rfl ?_
        refine ev_q rfl (q_move (by conv => lhs; whnf) ?_)
        refine ev_k rfl (k_callR [] (D_spec_DrawExpandedVolume ds (by omega) hb2) rfl (rfl) (rfl) trivial rfl (by rintro ⟨l13, f13, t13⟩ ⟨hx13_0, hx13_1, hx13_2⟩; exact ⟨trivial, rfl⟩) rfl rfl ?_)
        rintro ⟨l13, f13, t13⟩ ⟨hx13_0, hx13_1, hx13_2⟩
        refine ev_q rfl (q_move (by conv => lhs; whnf) ?_)
        refine ev_q rfl (q_extractI rfl rfl ?_)
        intro n14 hn14
        refine ev_q rfl (q_extractI rfl rfl ?_)
        intro n15 hn15
        refine ev_q rfl (q_extractI rfl rfl ?_)
        intro n16 hn16
        refine ev_q rfl (q_assign (by conv => lhs; whnf) ?_)
        refine ev_q rfl (q_assign (by conv => lhs; whnf) ?_)
        refine ev_q rfl (q_assign (by conv => lhs; whnf) ?_)
        refine ev_nil (hK12 _ ?_); clear hK12
        refine good_seq fun K17 hK17 => ?_
        refine good_region rfl ?_
        refine ev_q rfl (q_move (by conv => lhs; whnf) ?_)
        refine ev_q rfl (q_move (by conv => lhs; whnf) ?_)
        refine ev_q rfl (q_move (by conv => lhs; whnf) ?_)
        refine ev_q rfl (q_call rfl rfl (rfl) (D_impl_ExpandedVolume _ _ _) rfl ?_)
        refine ev_q rfl (q_move (by conv => lhs; whnf) ?_)
        refine ev_q rfl (q_extractI rfl rfl ?_)
        intro n18 hn18
        refine ev_q rfl (q_extractI rfl rfl ?_)
        intro n19 hn19
        refine ev_q rfl (q_assign (by conv => lhs; whnf) ?_)
        refine ev_q rfl (q_assign (by conv => lhs; whnf) ?_)
        refine ev_nil (hK17 _ ?_); clear hK17
        refine good_seq fun K20 hK20 => ?_
        refine good_region rfl ?_
        refine ev_q rfl (q_move (by conv => lhs; whnf) ?_)
        refine ev_q rfl (q_move (by conv => lhs; whnf) ?_)
        refine ev_q rfl (q_move (by conv => lhs; whnf) ?_)
        refine ev_q rfl (q_call rfl rfl (rfl) (D_impl_ExpandedVolume _ _ _) rfl ?_)
        refine ev_q rfl (q_move (by conv => lhs; whnf) ?_)
        refine ev_q rfl (q_extractI rfl rfl ?_)
        intro n21 hn21
        refine ev_q rfl (q_extractI rfl rfl ?_)
        intro n22 hn22
        refine ev_q rfl (q_assign (by conv => lhs; whnf) ?_)
        refine ev_q rfl (q_assign (by conv => lhs; whnf) ?_)
        refine ev_nil (hK20 _ ?_); clear hK20
        refine good_join { env := upd (upd ((fun _ => .junk)) 0 (.lst 1 (cs.map cb))) 1 (.lst 1 (ds.map cb)), H := (fun _ => none) } ?_ fun K23 hK23 => ?_
        · refine good_seq fun K24 hK24 => ?_
          refine good_region rfl ?_
          refine ev_q rfl (q_move (by conv => lhs; whnf) ?_)
          refine ev_k rfl (k_callR [] (D_spec_DrawHeadPressure cs (by omega) hb) rfl (rfl) (rfl) trivial rfl (by rintro ⟨h25, t25⟩ ⟨hx25_0, hx25_1⟩; exact ⟨trivial, rfl⟩) rfl rfl ?_)
          rintro ⟨h25, t25⟩ ⟨hx25_0, hx25_1⟩
          refine ev_q rfl (q_move (by conv => lhs; whnf) ?_)
          refine ev_q rfl (q_extractI rfl rfl ?_)
          intro n26 hn26
          refine ev_q rfl (q_extractI rfl rfl ?_)
          intro n27 hn27
          refine ev_q rfl (q_assign (by conv => lhs; whnf) ?_)
          refine ev_q rfl (q_assign (by conv => lhs; whnf) ?_)
          refine ev_nil (hK24 _ ?_); clear hK24
          refine good_seq fun K28 hK28 => ?_
          refine good_region rfl ?_
          refine ev_q rfl (q_move (by conv => lhs; whnf) ?_)
          refine ev_q rfl (q_move (by conv => lhs; whnf) ?_)
          refine ev_q rfl (q_call rfl rfl (rfl) (D_impl_HeadPressure _ _) rfl ?_)
          refine ev_q rfl (q_move (by conv => lhs; whnf) ?_)
          refine ev_q rfl (q_extractI rfl rfl ?_)
          intro n29 hn29
          refine ev_q rfl (q_extractI rfl rfl ?_)
          intro n30 hn30
          refine ev_q rfl (q_assign (by conv => lhs; whnf) ?_)
          refine ev_q rfl (q_assign (by conv => lhs; whnf) ?_)
          refine ev_nil (hK28 _ ?_); clear hK28
          refine good_seq fun K31 hK31 => ?_
          refine good_region rfl ?_
          refine ev_q rfl (q_move (by conv => lhs; whnf) ?_)
          refine ev_q rfl (q_neg rfl ?_)
          intro n32 hn32
          replace hn32 := neg64 hn32 (by omega) (by omega)
          refine ev_q rfl (q_move (by conv => lhs; whnf) ?_)
          refine ev_q rfl (q_call rfl rfl (rfl) (D_impl_HeadPressure _ _) rfl ?_)
          refine ev_q rfl (q_move (by conv => lhs; whnf) ?_)
          refine ev_q rfl (q_extractI rfl rfl ?_)
          intro n33 hn33
          refine ev_q rfl (q_extractI rfl rfl ?_)
          intro n34 hn34
          refine ev_q rfl (q_assign (by conv => lhs; whnf) ?_)
          refine ev_q rfl (q_assign (by conv => lhs; whnf) ?_)
          refine ev_nil (hK31 _ ?_); clear hK31
          refine good_join { env := upd (upd ((fun _ => .junk)) 0 (.lst 1 (cs.map cb))) 1 (.lst 1 (ds.map cb)), H := (fun _ => none) } ?_ fun K35 hK35 => ?_
          · refine good_seq fun K36 hK36 => ?_
            refine good_region rfl ?_
            refine ev_q rfl (q_move (by conv => lhs; whnf) ?_)
            refine ev_k rfl (k_callR [] (D_spec_DrawEnergyOf ds (by omega) hb2) rfl (rfl) (rfl) trivial rfl (by rintro ⟨h37, t37⟩ ⟨hx37_0, hx37_1⟩; exact ⟨trivial, rfl⟩) rfl rfl ?_)
            rintro ⟨h37, t37⟩ ⟨hx37_0, hx37_1⟩
            refine ev_q rfl (q_move (by conv => lhs; whnf) ?_)
            refine ev_q rfl (q_extractI rfl rfl ?_)
            intro n38 hn38
            refine ev_q rfl (q_extractI rfl rfl ?_)
            intro n39 hn39
            refine ev_q rfl (q_assign (by conv => lhs; whnf) ?_)
            refine ev_q rfl (q_assign (by conv => lhs; whnf) ?_)
            refine ev_nil (hK36 _ ?_); clear hK36
            refine good_seq fun K40 hK40 => ?_
            refine good_region rfl ?_
            refine ev_q rfl (q_move (by conv => lhs; whnf) ?_)
            refine ev_q rfl (q_move (by conv => lhs; whnf) ?_)
            refine ev_q rfl (q_call rfl rfl (rfl) (D_impl_EnergyOf _ _) rfl ?_)
            refine ev_q rfl (q_move (by conv => lhs; whnf) ?_)
            refine ev_q rfl (q_extractI rfl rfl ?_)
            intro n41 hn41
            refine ev_q rfl (q_extractI rfl rfl ?_)
            intro n42 hn42
            refine ev_q rfl (q_assign (by conv => lhs; whnf) ?_)
            refine ev_q rfl (q_assign (by conv => lhs; whnf) ?_)
            refine ev_nil (hK40 _ ?_); clear hK40
            refine good_seq fun K43 hK43 => ?_
            refine good_region rfl ?_
            refine ev_q rfl (q_move (by conv => lhs; whnf) ?_)
            refine ev_q rfl (q_move (by conv => lhs; whnf) ?_)
            refine ev_q rfl (q_int rfl rfl ⟨by omega, ?_⟩)
            intro n44 hn44
            first | replace hn44 := quoE hn44 (by omega) (by omega) | replace hn44 := quoT hn44 (by omega) (by omega)
            refine ev_q rfl (q_call rfl rfl (rfl) (D_impl_EnergyOf _ _) rfl ?_)
            refine ev_q rfl (q_move (by conv => lhs; whnf) ?_)
            refine ev_q rfl (q_extractI rfl rfl ?_)
            intro n45 hn45
            refine ev_q rfl (q_extractI rfl rfl ?_)
            intro n46 hn46
            refine ev_q rfl (q_assign (by conv => lhs; whnf) ?_)
            refine ev_q rfl (q_assign (by conv => lhs; whnf) ?_)
            refine ev_nil (hK43 _ ?_); clear hK43
            refine good_seq fun K47 hK47 => ?_
            refine good_region rfl ?_
            refine ev_q rfl (q_move (by conv => lhs; whnf) ?_)
            refine ev_q rfl (q_move (by conv => lhs; whnf) ?_)
            refine ev_q rfl (q_move (by conv => lhs; whnf) ?_)
            refine ev_q rfl (q_int rfl rfl ⟨by omega, ?_⟩)
            intro n48 hn48
            first | replace hn48 := quoE hn48 (by omega) (by omega) | replace hn48 := quoT hn48 (by omega) (by omega)
            have hqd := tdiv2 (m := n39)
            rw [← hn48] at hqd
            refine ev_q rfl (q_int rfl rfl ?_)
            intro n49 hn49
            replace hn49 := in64 hn49 (by omega) (by omega)
            refine ev_q rfl (q_call rfl rfl (rfl) (D_impl_EnergyOf _ _) rfl ?_)
            refine ev_q rfl (q_move (by conv => lhs; whnf) ?_)
            refine ev_q rfl (q_extractI rfl rfl ?_)
            intro n50 hn50
            refine ev_q rfl (q_extractI rfl rfl ?_)
            intro n51 hn51
            refine ev_q rfl (q_assign (by conv => lhs; whnf) ?_)
            refine ev_q rfl (q_assign (by conv => lhs; whnf) ?_)
            refine ev_nil (hK47 _ ?_); clear hK47
            refine good_seq fun K52 hK52 => ?_
            refine good_region rfl ?_
            refine ev_q rfl (q_move (by conv => lhs; whnf) ?_)
            have ek : n49 = n39 - n44 := by rw [hn49, hn48, hn44]
            rw [ek] at hn50 hn51
            have q1 := enV_bd (p := n38) (m := n39)
            rw [← hn41] at q1
            have q2 := enV_bd (p := n38) (m := n44)
            rw [← hn45] at q2
            have q3 := enV_bd (p := n38) (m := n39 - n44)
            rw [← hn50] at q3
            have hen := en_law hn41 hn42 hn45 hn46 hn50 hn51 (fun h0 => by have e4 : n44 = n48 := hn44.trans hn48.symm; omega)
            clear hn41 hn42 hn45 hn46 hn50 hn51
            refine ev_q rfl (q_int rfl rfl ?_)
            intro b53 hb53; cases b53
            · replace hb53 := neF hb53
              refine ev_q rfl (q_move (by conv => lhs; whnf) ?_)
              refine ev_skip rfl ?_
              refine ev_skip rfl ?_
              refine ev_q rfl (q_pickF rfl (by conv => lhs; whnf) ?_)
              refine ev_q rfl (q_move (by conv => lhs; whnf) ?_)
              refine ev_q rfl (q_move (by conv => lhs; whnf) ?_)
              refine ev_q rfl (q_int rfl rfl ?_)
              intro b54 hb54; cases b54
              · replace hb54 := eqF hb54
                refine ev_q rfl (q_move (by conv => lhs; whnf) ?_)
                refine ev_skip rfl ?_
                refine ev_skip rfl ?_
                refine ev_q rfl (q_pickF rfl (by conv => lhs; whnf) ?_)
                refine ev_q rfl (q_move (by conv => lhs; whnf) ?_)
                refine ev_skip rfl ?_
                refine ev_skip rfl ?_
                refine ev_q rfl (q_pickF rfl (by conv => lhs; whnf) ?_)
                refine ev_q rfl (q_move (by conv => lhs; whnf) ?_)
                refine ev_skip rfl ?_
                refine ev_skip rfl ?_
                refine ev_skip rfl ?_
                refine ev_skip rfl ?_
                refine ev_skip rfl ?_
                refine ev_skip rfl ?_
                refine ev_skip rfl ?_
                refine ev_q rfl (q_pickF rfl (by conv => lhs; whnf) ?_)
                refine ev_q rfl (q_pickF rfl (by conv => lhs; whnf) ?_)
                refine ev_q rfl (q_assign (by conv => lhs; whnf) ?_)
                refine ev_nil (hK52 _ ?_); clear hK52
                refine good_ret ?_
                repeat (first | refine thenQ_ret ?_ | refine blockQ_ret ?_)
                refine ret_tmp (st := _) rfl (by conv => lhs; whnf) rfl ?_
                first | rfl | (exfalso; omega)
              · replace hb54 := eqT hb54
                refine ev_q rfl (q_move (by conv => lhs; whnf) ?_)
                refine ev_q rfl (q_move (by conv => lhs; whnf) ?_)
                refine ev_q rfl (q_int rfl rfl ?_)
                intro b55 hb55; cases b55
                · replace hb55 := eqF hb55
                  refine ev_q rfl (q_pickT rfl (by conv => lhs; whnf) ?_)
                  refine ev_q rfl (q_move (by conv => lhs; whnf) ?_)
                  refine ev_skip rfl ?_
                  refine ev_skip rfl ?_
                  refine ev_q rfl (q_pickF rfl (by conv => lhs; whnf) ?_)
                  refine ev_q rfl (q_move (by conv => lhs; whnf) ?_)
                  refine ev_skip rfl ?_
                  refine ev_skip rfl ?_
                  refine ev_skip rfl ?_
                  refine ev_skip rfl ?_
                  refine ev_skip rfl ?_
                  refine ev_skip rfl ?_
                  refine ev_skip rfl ?_
                  refine ev_q rfl (q_pickF rfl (by conv => lhs; whnf) ?_)
                  refine ev_q rfl (q_pickF rfl (by conv => lhs; whnf) ?_)
                  refine ev_q rfl (q_assign (by conv => lhs; whnf) ?_)
                  refine ev_nil (hK52 _ ?_); clear hK52
                  refine good_ret ?_
                  repeat (first | refine thenQ_ret ?_ | refine blockQ_ret ?_)
                  refine ret_tmp (st := _) rfl (by conv => lhs; whnf) rfl ?_
                  first | rfl | (exfalso; omega)
                · replace hb55 := eqT hb55
                  refine ev_q rfl (q_pickT rfl (by conv => lhs; whnf) ?_)
                  refine ev_q rfl (q_move (by conv => lhs; whnf) ?_)
                  refine ev_q rfl (q_move (by conv => lhs; whnf) ?_)
                  refine ev_q rfl (q_int rfl rfl ?_)
                  intro b56 hb56; cases b56
                  · replace hb56 := eqF hb56
                    refine ev_q rfl (q_pickT rfl (by conv => lhs; whnf) ?_)
                    refine ev_q rfl (q_move (by conv => lhs; whnf) ?_)
                    refine ev_skip rfl ?_
                    refine ev_skip rfl ?_
                    refine ev_skip rfl ?_
                    refine ev_skip rfl ?_
                    refine ev_skip rfl ?_
                    refine ev_skip rfl ?_
                    refine ev_skip rfl ?_
                    refine ev_q rfl (q_pickF rfl (by conv => lhs; whnf) ?_)
                    refine ev_q rfl (q_pickF rfl (by conv => lhs; whnf) ?_)
                    refine ev_q rfl (q_assign (by conv => lhs; whnf) ?_)
                    refine ev_nil (hK52 _ ?_); clear hK52
                    refine good_ret ?_
                    repeat (first | refine thenQ_ret ?_ | refine blockQ_ret ?_)
                    refine ret_tmp (st := _) rfl (by conv => lhs; whnf) rfl ?_
                    first | rfl | (exfalso; omega)
                  · replace hb56 := eqT hb56
                    refine ev_q rfl (q_pickT rfl (by conv => lhs; whnf) ?_)
                    refine ev_q rfl (q_move (by conv => lhs; whnf) ?_)
                    refine ev_q rfl (q_move (by conv => lhs; whnf) ?_)
                    refine ev_q rfl (q_move (by conv => lhs; whnf) ?_)
                    refine ev_q rfl (q_int rfl rfl ?_)
                    intro n57 hn57
                    replace hn57 := in64 hn57 (by omega) (by omega)
                    refine ev_q rfl (q_move (by conv => lhs; whnf) ?_)
                    refine ev_q rfl (q_int rfl rfl ?_)
                    intro n58 hn58
                    replace hn58 := in64 hn58 (by omega) (by omega)
                    refine ev_q rfl (q_callI rfl rfl (rfl) (D_laws_b10Abs _ (by omega)) ?_)
                    intro n59 hn59
                    refine ev_q rfl (q_int rfl rfl ?_)
                    intro b60 hb60; cases b60
                    · replace hb60 := dF hb60
                      refine ev_q rfl (q_pickT rfl (by conv => lhs; whnf) ?_)
                      refine ev_q rfl (q_pickF rfl (by conv => lhs; whnf) ?_)
                      refine ev_q rfl (q_assign (by conv => lhs; whnf) ?_)
                      refine ev_nil (hK52 _ ?_); clear hK52
                      refine good_ret ?_
                      repeat (first | refine thenQ_ret ?_ | refine blockQ_ret ?_)
                      refine ret_tmp (st := _) rfl (by conv => lhs; whnf) rfl ?_
                      first | rfl | (exfalso; omega)
                    · replace hb60 := dT hb60
                      refine ev_q rfl (q_pickT rfl (by conv => lhs; whnf) ?_)
                      refine ev_q rfl (q_pickF rfl (by conv => lhs; whnf) ?_)
                      refine ev_q rfl (q_assign (by conv => lhs; whnf) ?_)
                      refine ev_nil (hK52 _ ?_); clear hK52
                      refine good_ret ?_
                      repeat (first | refine thenQ_ret ?_ | refine blockQ_ret ?_)
                      refine ret_tmp (st := _) rfl (by conv => lhs; whnf) rfl ?_
                      first | rfl | (exfalso; omega)
            · replace hb53 := neT hb53
              refine ev_q rfl (q_move (by conv => lhs; whnf) ?_)
              refine ev_q rfl (q_move (by conv => lhs; whnf) ?_)
              refine ev_q rfl (q_int rfl rfl ?_)
              intro b61 hb61; cases b61
              · replace hb61 := eqF hb61
                refine ev_q rfl (q_pickT rfl (by conv => lhs; whnf) ?_)
                refine ev_q rfl (q_move (by conv => lhs; whnf) ?_)
                refine ev_q rfl (q_move (by conv => lhs; whnf) ?_)
                refine ev_q rfl (q_int rfl rfl ?_)
                intro b62 hb62; cases b62
                · replace hb62 := eqF hb62
                  refine ev_q rfl (q_move (by conv => lhs; whnf) ?_)
                  refine ev_skip rfl ?_
                  refine ev_skip rfl ?_
                  refine ev_q rfl (q_pickF rfl (by conv => lhs; whnf) ?_)
                  refine ev_q rfl (q_move (by conv => lhs; whnf) ?_)
                  refine ev_skip rfl ?_
                  refine ev_skip rfl ?_
                  refine ev_q rfl (q_pickF rfl (by conv => lhs; whnf) ?_)
                  refine ev_q rfl (q_move (by conv => lhs; whnf) ?_)
                  refine ev_skip rfl ?_
                  refine ev_skip rfl ?_
                  refine ev_skip rfl ?_
                  refine ev_skip rfl ?_
                  refine ev_skip rfl ?_
                  refine ev_skip rfl ?_
                  refine ev_skip rfl ?_
                  refine ev_q rfl (q_pickF rfl (by conv => lhs; whnf) ?_)
                  refine ev_q rfl (q_pickF rfl (by conv => lhs; whnf) ?_)
                  refine ev_q rfl (q_assign (by conv => lhs; whnf) ?_)
                  refine ev_nil (hK52 _ ?_); clear hK52
                  refine good_ret ?_
                  repeat (first | refine thenQ_ret ?_ | refine blockQ_ret ?_)
                  refine ret_tmp (st := _) rfl (by conv => lhs; whnf) rfl ?_
                  first | rfl | (exfalso; omega)
                · replace hb62 := eqT hb62
                  refine ev_q rfl (q_move (by conv => lhs; whnf) ?_)
                  refine ev_q rfl (q_move (by conv => lhs; whnf) ?_)
                  refine ev_q rfl (q_int rfl rfl ?_)
                  intro b63 hb63; cases b63
                  · replace hb63 := eqF hb63
                    refine ev_q rfl (q_pickT rfl (by conv => lhs; whnf) ?_)
                    refine ev_q rfl (q_move (by conv => lhs; whnf) ?_)
                    refine ev_skip rfl ?_
                    refine ev_skip rfl ?_
                    refine ev_q rfl (q_pickF rfl (by conv => lhs; whnf) ?_)
                    refine ev_q rfl (q_move (by conv => lhs; whnf) ?_)
                    refine ev_skip rfl ?_
                    refine ev_skip rfl ?_
                    refine ev_skip rfl ?_
                    refine ev_skip rfl ?_
                    refine ev_skip rfl ?_
                    refine ev_skip rfl ?_
                    refine ev_skip rfl ?_
                    refine ev_q rfl (q_pickF rfl (by conv => lhs; whnf) ?_)
                    refine ev_q rfl (q_pickF rfl (by conv => lhs; whnf) ?_)
                    refine ev_q rfl (q_assign (by conv => lhs; whnf) ?_)
                    refine ev_nil (hK52 _ ?_); clear hK52
                    refine good_ret ?_
                    repeat (first | refine thenQ_ret ?_ | refine blockQ_ret ?_)
                    refine ret_tmp (st := _) rfl (by conv => lhs; whnf) rfl ?_
                    first | rfl | (exfalso; omega)
                  · replace hb63 := eqT hb63
                    refine ev_q rfl (q_pickT rfl (by conv => lhs; whnf) ?_)
                    refine ev_q rfl (q_move (by conv => lhs; whnf) ?_)
                    refine ev_q rfl (q_move (by conv => lhs; whnf) ?_)
                    refine ev_q rfl (q_int rfl rfl ?_)
                    intro b64 hb64; cases b64
                    · replace hb64 := eqF hb64
                      refine ev_q rfl (q_pickT rfl (by conv => lhs; whnf) ?_)
                      refine ev_q rfl (q_move (by conv => lhs; whnf) ?_)
                      refine ev_skip rfl ?_
                      refine ev_skip rfl ?_
                      refine ev_skip rfl ?_
                      refine ev_skip rfl ?_
                      refine ev_skip rfl ?_
                      refine ev_skip rfl ?_
                      refine ev_skip rfl ?_
                      refine ev_q rfl (q_pickF rfl (by conv => lhs; whnf) ?_)
                      refine ev_q rfl (q_pickF rfl (by conv => lhs; whnf) ?_)
                      refine ev_q rfl (q_assign (by conv => lhs; whnf) ?_)
                      refine ev_nil (hK52 _ ?_); clear hK52
                      refine good_ret ?_
                      repeat (first | refine thenQ_ret ?_ | refine blockQ_ret ?_)
                      refine ret_tmp (st := _) rfl (by conv => lhs; whnf) rfl ?_
                      first | rfl | (exfalso; omega)
                    · replace hb64 := eqT hb64
                      refine ev_q rfl (q_pickT rfl (by conv => lhs; whnf) ?_)
                      refine ev_q rfl (q_move (by conv => lhs; whnf) ?_)
                      refine ev_q rfl (q_move (by conv => lhs; whnf) ?_)
                      refine ev_q rfl (q_move (by conv => lhs; whnf) ?_)
                      refine ev_q rfl (q_int rfl rfl ?_)
                      intro n65 hn65
                      replace hn65 := in64 hn65 (by omega) (by omega)
                      refine ev_q rfl (q_move (by conv => lhs; whnf) ?_)
                      refine ev_q rfl (q_int rfl rfl ?_)
                      intro n66 hn66
                      replace hn66 := in64 hn66 (by omega) (by omega)
                      refine ev_q rfl (q_callI rfl rfl (rfl) (D_laws_b10Abs _ (by omega)) ?_)
                      intro n67 hn67
                      refine ev_q rfl (q_int rfl rfl ?_)
                      intro b68 hb68; cases b68
                      · replace hb68 := dF hb68
                        refine ev_q rfl (q_pickT rfl (by conv => lhs; whnf) ?_)
                        refine ev_q rfl (q_pickF rfl (by conv => lhs; whnf) ?_)
                        refine ev_q rfl (q_assign (by conv => lhs; whnf) ?_)
                        refine ev_nil (hK52 _ ?_); clear hK52
                        refine good_ret ?_
                        repeat (first | refine thenQ_ret ?_ | refine blockQ_ret ?_)
                        refine ret_tmp (st := _) rfl (by conv => lhs; whnf) rfl ?_
                        first | rfl | (exfalso; omega)
                      · replace hb68 := dT hb68
                        refine ev_q rfl (q_pickT rfl (by conv => lhs; whnf) ?_)
                        refine ev_q rfl (q_pickF rfl (by conv => lhs; whnf) ?_)
                        refine ev_q rfl (q_assign (by conv => lhs; whnf) ?_)
                        refine ev_nil (hK52 _ ?_); clear hK52
                        refine good_ret ?_
                        repeat (first | refine thenQ_ret ?_ | refine blockQ_ret ?_)
                        refine ret_tmp (st := _) rfl (by conv => lhs; whnf) rfl ?_
                        first | rfl | (exfalso; omega)
              · replace hb61 := eqT hb61
                refine ev_q rfl (q_pickT rfl (by conv => lhs; whnf) ?_)
                refine ev_q rfl (q_move (by conv => lhs; whnf) ?_)
                refine ev_skip rfl ?_
                refine ev_skip rfl ?_
                refine ev_skip rfl ?_
                refine ev_skip rfl ?_
                refine ev_skip rfl ?_
                refine ev_skip rfl ?_
                refine ev_skip rfl ?_
                refine ev_skip rfl ?_
                refine ev_skip rfl ?_
                refine ev_skip rfl ?_
                refine ev_skip rfl ?_
                refine ev_skip rfl ?_
                refine ev_skip rfl ?_
                refine ev_skip rfl ?_
                refine ev_skip rfl ?_
                refine ev_skip rfl ?_
                refine ev_skip rfl ?_
                refine ev_skip rfl ?_
                refine ev_skip rfl ?_
                refine ev_q rfl (q_pickT rfl (by conv => lhs; whnf) ?_)
                refine ev_q rfl (q_assign (by conv => lhs; whnf) ?_)
                refine ev_nil (hK52 _ ?_); clear hK52
                refine good_ret ?_
                repeat (first | refine thenQ_ret ?_ | refine blockQ_ret ?_)
                refine ret_tmp (st := _) rfl (by conv => lhs; whnf) rfl ?_
                first | rfl | (exfalso; omega)
          · refine good_seq fun K69 hK69 => ?_
            refine good_region rfl ?_
            refine ev_q rfl (q_move (by conv => lhs; whnf) ?_)
            refine ev_q rfl (q_move (by conv => lhs; whnf) ?_)
            rw [hn32] at hn33 hn34
            obtain ⟨w1, w2, w3, w4⟩ := hp_law hn29 hn30 hn33 hn34
            clear hn29 hn30 hn33 hn34
            refine ev_q rfl (q_int rfl rfl ?_)
            intro b70 hb70; cases b70
            · replace hb70 := neF hb70
              refine ev_q rfl (q_move (by conv => lhs; whnf) ?_)
              refine ev_q rfl (q_move (by conv => lhs; whnf) ?_)
              refine ev_q rfl (q_int rfl rfl ?_)
              intro b71 hb71; cases b71
              · replace hb71 := eqF hb71
                refine ev_q rfl (q_move (by conv => lhs; whnf) ?_)
                refine ev_skip rfl ?_
                refine ev_skip rfl ?_
                refine ev_skip rfl ?_
                refine ev_skip rfl ?_
                refine ev_q rfl (q_pickF rfl (by conv => lhs; whnf) ?_)
                refine ev_q rfl (q_pickF rfl (by conv => lhs; whnf) ?_)
                refine ev_nil (hK69 _ ?_); clear hK69
                refine good_condF rfl ?_
                refine good_skip (hK35 _ ?_); clear hK35
                refine sub_weak ?_ ?_
                · exact weakH_none _
                · refine weakE_upd ?e1 ?r1 (weakE_upd ?e0 ?r0 (weakE_junk _ _))
                  case e0 => first | rfl | exact fI (by omega) | (rfl)
                  case r0 => intro h hh; cases hh
                  case e1 => first | rfl | exact fI (by omega) | (rfl)
                  case r1 => intro h hh; cases hh
              · replace hb71 := eqT hb71
                refine ev_q rfl (q_move (by conv => lhs; whnf) ?_)
                refine ev_q rfl (q_move (by conv => lhs; whnf) ?_)
                refine ev_q rfl (q_move (by conv => lhs; whnf) ?_)
                refine ev_q rfl (q_neg rfl ?_)
                intro n72 hn72
                replace hn72 := neg64 hn72 (by omega) (by omega)
                refine ev_q rfl (q_int rfl rfl ?_)
                intro b73 hb73; cases b73
                · replace hb73 := neF hb73
                  refine ev_q rfl (q_pickT rfl (by conv => lhs; whnf) ?_)
                  refine ev_q rfl (q_pickF rfl (by conv => lhs; whnf) ?_)
                  refine ev_nil (hK69 _ ?_); clear hK69
                  refine good_condF rfl ?_
                  refine good_skip (hK35 _ ?_); clear hK35
                  refine sub_weak ?_ ?_
                  · exact weakH_none _
                  · refine weakE_upd ?e1 ?r1 (weakE_upd ?e0 ?r0 (weakE_junk _ _))
                    case e0 => first | rfl | exact fI (by omega) | (rfl)
                    case r0 => intro h hh; cases hh
                    case e1 => first | rfl | exact fI (by omega) | (rfl)
                    case r1 => intro h hh; cases hh
                · replace hb73 := neT hb73
                  refine ev_q rfl (q_pickT rfl (by conv => lhs; whnf) ?_)
                  refine ev_q rfl (q_pickF rfl (by conv => lhs; whnf) ?_)
                  refine ev_nil (hK69 _ ?_); clear hK69
                  refine good_condT rfl ?_
                  refine good_seq fun K74 hK74 => ?_
                  refine good_region rfl ?_
                  refine ev_q rfl (q_assign (by conv => lhs; whnf) ?_)
                  refine ev_nil (hK74 _ ?_); clear hK74
                  refine good_ret ?_
                  repeat (first | refine thenQ_ret ?_ | refine blockQ_ret ?_)
                  refine ret_tmp (st := _) rfl (by conv => lhs; whnf) rfl ?_
                  clear hK35
                  first | rfl | (exfalso; omega)
            · replace hb70 := neT hb70
              refine ev_q rfl (q_move (by conv => lhs; whnf) ?_)
              refine ev_skip rfl ?_
              refine ev_skip rfl ?_
              refine ev_skip rfl ?_
              refine ev_skip rfl ?_
              refine ev_skip rfl ?_
              refine ev_skip rfl ?_
              refine ev_skip rfl ?_
              refine ev_skip rfl ?_
              refine ev_q rfl (q_pickT rfl (by conv => lhs; whnf) ?_)
              refine ev_nil (hK69 _ ?_); clear hK69
              refine good_condT rfl ?_
              refine good_seq fun K75 hK75 => ?_
              refine good_region rfl ?_
              refine ev_q rfl (q_assign (by conv => lhs; whnf) ?_)
              refine ev_nil (hK75 _ ?_); clear hK75
              refine good_ret ?_
              repeat (first | refine thenQ_ret ?_ | refine blockQ_ret ?_)
              refine ret_tmp (st := _) rfl (by conv => lhs; whnf) rfl ?_
              clear hK35
              first | rfl | (exfalso; omega)
        · refine good_seq fun K76 hK76 => ?_
          refine good_region rfl ?_
          refine ev_q rfl (q_move (by conv => lhs; whnf) ?_)
          have hev := ev_law hn18 hn19 hn21 hn22
          clear hn18 hn19 hn21 hn22
          refine ev_q rfl (q_int rfl rfl ?_)
          intro b77 hb77; cases b77
          · replace hb77 := eqF hb77
            refine ev_q rfl (q_move (by conv => lhs; whnf) ?_)
            refine ev_skip rfl ?_
            refine ev_skip rfl ?_
            refine ev_skip rfl ?_
            refine ev_skip rfl ?_
            refine ev_skip rfl ?_
            refine ev_skip rfl ?_
            refine ev_skip rfl ?_
            refine ev_skip rfl ?_
            refine ev_skip rfl ?_
            refine ev_skip rfl ?_
            refine ev_skip rfl ?_
            refine ev_skip rfl ?_
            refine ev_skip rfl ?_
            refine ev_skip rfl ?_
            refine ev_skip rfl ?_
            refine ev_skip rfl ?_
            refine ev_skip rfl ?_
            refine ev_skip rfl ?_
            refine ev_skip rfl ?_
            refine ev_skip rfl ?_
            refine ev_skip rfl ?_
            refine ev_skip rfl ?_
            refine ev_skip rfl ?_
            refine ev_skip rfl ?_
            refine ev_skip rfl ?_
            refine ev_skip rfl ?_
            refine ev_skip rfl ?_
            refine ev_q rfl (q_pickF rfl (by conv => lhs; whnf) ?_)
            refine ev_nil (hK76 _ ?_); clear hK76
            refine good_condF rfl ?_
            refine good_skip (hK23 _ ?_); clear hK23
            refine sub_weak ?_ ?_
            · exact weakH_none _
            · refine weakE_upd ?e1 ?r1 (weakE_upd ?e0 ?r0 (weakE_junk _ _))
              case e0 => first | rfl | exact fI (by omega) | (rfl)
              case r0 => intro h hh; cases hh
              case e1 => first | rfl | exact fI (by omega) | (rfl)
              case r1 => intro h hh; cases hh
          · replace hb77 := eqT hb77
            refine ev_q rfl (q_move (by conv => lhs; whnf) ?_)
            refine ev_q rfl (q_move (by conv => lhs; whnf) ?_)
            refine ev_q rfl (q_int rfl rfl ?_)
            intro b78 hb78; cases b78
            · replace hb78 := neF hb78
              refine ev_q rfl (q_move (by conv => lhs; whnf) ?_)
              refine ev_q rfl (q_move (by conv => lhs; whnf) ?_)
              refine ev_q rfl (q_move (by conv => lhs; whnf) ?_)
              refine ev_q rfl (q_int rfl rfl ?_)
              intro b79 hb79; cases b79
              · replace hb79 := neF hb79
                refine ev_q rfl (q_pickF rfl (by conv => lhs; whnf) ?_)
                refine ev_q rfl (q_move (by conv => lhs; whnf) ?_)
                refine ev_q rfl (q_move (by conv => lhs; whnf) ?_)
                refine ev_q rfl (q_move (by conv => lhs; whnf) ?_)
                refine ev_q rfl (q_int rfl rfl ?_)
                intro b80 hb80; cases b80
                · replace hb80 := dF hb80
                  refine ev_q rfl (q_move (by conv => lhs; whnf) ?_)
                  refine ev_skip rfl ?_
                  refine ev_skip rfl ?_
                  refine ev_skip rfl ?_
                  refine ev_q rfl (q_pickF rfl (by conv => lhs; whnf) ?_)
                  refine ev_q rfl (q_pickF rfl (by conv => lhs; whnf) ?_)
                  refine ev_q rfl (q_move (by conv => lhs; whnf) ?_)
                  refine ev_q rfl (q_move (by conv => lhs; whnf) ?_)
                  refine ev_q rfl (q_move (by conv => lhs; whnf) ?_)
                  refine ev_q rfl (q_int rfl rfl ?_)
                  intro b81 hb81; cases b81
                  · replace hb81 := dF hb81
                    refine ev_q rfl (q_move (by conv => lhs; whnf) ?_)
                    refine ev_skip rfl ?_
                    refine ev_skip rfl ?_
                    refine ev_skip rfl ?_
                    refine ev_q rfl (q_pickF rfl (by conv => lhs; whnf) ?_)
                    refine ev_q rfl (q_pickF rfl (by conv => lhs; whnf) ?_)
                    refine ev_q rfl (q_pickT rfl (by conv => lhs; whnf) ?_)
                    refine ev_nil (hK76 _ ?_); clear hK76
                    refine good_condF rfl ?_
                    refine good_skip (hK23 _ ?_); clear hK23
                    refine sub_weak ?_ ?_
                    · exact weakH_none _
                    · refine weakE_upd ?e1 ?r1 (weakE_upd ?e0 ?r0 (weakE_junk _ _))
                      case e0 => first | rfl | exact fI (by omega) | (rfl)
                      case r0 => intro h hh; cases hh
                      case e1 => first | rfl | exact fI (by omega) | (rfl)
                      case r1 => intro h hh; cases hh
                  · replace hb81 := dT hb81
                    refine ev_q rfl (q_move (by conv => lhs; whnf) ?_)
                    refine ev_q rfl (q_move (by conv => lhs; whnf) ?_)
                    refine ev_q rfl (q_move (by conv => lhs; whnf) ?_)
                    refine ev_q rfl (q_int rfl rfl ?_)
                    intro b82 hb82; cases b82
                    · replace hb82 := dF hb82
                      refine ev_q rfl (q_pickT rfl (by conv => lhs; whnf) ?_)
                      refine ev_q rfl (q_pickF rfl (by conv => lhs; whnf) ?_)
                      refine ev_q rfl (q_pickT rfl (by conv => lhs; whnf) ?_)
                      refine ev_nil (hK76 _ ?_); clear hK76
                      refine good_condF rfl ?_
                      refine good_skip (hK23 _ ?_); clear hK23
                      refine sub_weak ?_ ?_
                      · exact weakH_none _
                      · refine weakE_upd ?e1 ?r1 (weakE_upd ?e0 ?r0 (weakE_junk _ _))
                        case e0 => first | rfl | exact fI (by omega) | (rfl)
                        case r0 => intro h hh; cases hh
                        case e1 => first | rfl | exact fI (by omega) | (rfl)
                        case r1 => intro h hh; cases hh
                    · replace hb82 := dT hb82
                      refine ev_q rfl (q_pickT rfl (by conv => lhs; whnf) ?_)
                      refine ev_q rfl (q_pickF rfl (by conv => lhs; whnf) ?_)
                      refine ev_q rfl (q_pickT rfl (by conv => lhs; whnf) ?_)
                      refine ev_nil (hK76 _ ?_); clear hK76
                      refine good_condT rfl ?_
                      refine good_seq fun K83 hK83 => ?_
                      refine good_region rfl ?_
                      refine ev_q rfl (q_assign (by conv => lhs; whnf) ?_)
                      refine ev_nil (hK83 _ ?_); clear hK83
                      refine good_ret ?_
                      repeat (first | refine thenQ_ret ?_ | refine blockQ_ret ?_)
                      refine ret_tmp (st := _) rfl (by conv => lhs; whnf) rfl ?_
                      clear hK23
                      first | rfl | (exfalso; omega)
                · replace hb80 := dT hb80
                  refine ev_q rfl (q_move (by conv => lhs; whnf) ?_)
                  refine ev_q rfl (q_move (by conv => lhs; whnf) ?_)
                  refine ev_q rfl (q_move (by conv => lhs; whnf) ?_)
                  refine ev_q rfl (q_int rfl rfl ?_)
                  intro b84 hb84; cases b84
                  · replace hb84 := dF hb84
                    refine ev_q rfl (q_pickT rfl (by conv => lhs; whnf) ?_)
                    refine ev_q rfl (q_pickF rfl (by conv => lhs; whnf) ?_)
                    refine ev_q rfl (q_move (by conv => lhs; whnf) ?_)
                    refine ev_q rfl (q_move (by conv => lhs; whnf) ?_)
                    refine ev_q rfl (q_move (by conv => lhs; whnf) ?_)
                    refine ev_q rfl (q_int rfl rfl ?_)
                    intro b85 hb85; cases b85
                    · replace hb85 := dF hb85
                      refine ev_q rfl (q_move (by conv => lhs; whnf) ?_)
                      refine ev_skip rfl ?_
                      refine ev_skip rfl ?_
                      refine ev_skip rfl ?_
                      refine ev_q rfl (q_pickF rfl (by conv => lhs; whnf) ?_)
                      refine ev_q rfl (q_pickF rfl (by conv => lhs; whnf) ?_)
                      refine ev_q rfl (q_pickT rfl (by conv => lhs; whnf) ?_)
                      refine ev_nil (hK76 _ ?_); clear hK76
                      refine good_condF rfl ?_
                      refine good_skip (hK23 _ ?_); clear hK23
                      refine sub_weak ?_ ?_
                      · exact weakH_none _
                      · refine weakE_upd ?e1 ?r1 (weakE_upd ?e0 ?r0 (weakE_junk _ _))
                        case e0 => first | rfl | exact fI (by omega) | (rfl)
                        case r0 => intro h hh; cases hh
                        case e1 => first | rfl | exact fI (by omega) | (rfl)
                        case r1 => intro h hh; cases hh
                    · replace hb85 := dT hb85
                      refine ev_q rfl (q_move (by conv => lhs; whnf) ?_)
                      refine ev_q rfl (q_move (by conv => lhs; whnf) ?_)
                      refine ev_q rfl (q_move (by conv => lhs; whnf) ?_)
                      refine ev_q rfl (q_int rfl rfl ?_)
                      intro b86 hb86; cases b86
                      · replace hb86 := dF hb86
                        refine ev_q rfl (q_pickT rfl (by conv => lhs; whnf) ?_)
                        refine ev_q rfl (q_pickF rfl (by conv => lhs; whnf) ?_)
                        refine ev_q rfl (q_pickT rfl (by conv => lhs; whnf) ?_)
                        refine ev_nil (hK76 _ ?_); clear hK76
                        refine good_condF rfl ?_
                        refine good_skip (hK23 _ ?_); clear hK23
                        refine sub_weak ?_ ?_
                        · exact weakH_none _
                        · refine weakE_upd ?e1 ?r1 (weakE_upd ?e0 ?r0 (weakE_junk _ _))
                          case e0 => first | rfl | exact fI (by omega) | (rfl)
                          case r0 => intro h hh; cases hh
                          case e1 => first | rfl | exact fI (by omega) | (rfl)
                          case r1 => intro h hh; cases hh
                      · replace hb86 := dT hb86
                        refine ev_q rfl (q_pickT rfl (by conv => lhs; whnf) ?_)
                        refine ev_q rfl (q_pickF rfl (by conv => lhs; whnf) ?_)
                        refine ev_q rfl (q_pickT rfl (by conv => lhs; whnf) ?_)
                        refine ev_nil (hK76 _ ?_); clear hK76
                        refine good_condT rfl ?_
                        refine good_seq fun K87 hK87 => ?_
                        refine good_region rfl ?_
                        refine ev_q rfl (q_assign (by conv => lhs; whnf) ?_)
                        refine ev_nil (hK87 _ ?_); clear hK87
                        refine good_ret ?_
                        repeat (first | refine thenQ_ret ?_ | refine blockQ_ret ?_)
                        refine ret_tmp (st := _) rfl (by conv => lhs; whnf) rfl ?_
                        clear hK23
                        first | rfl | (exfalso; omega)
                  · replace hb84 := dT hb84
                    refine ev_q rfl (q_pickT rfl (by conv => lhs; whnf) ?_)
                    refine ev_q rfl (q_pickF rfl (by conv => lhs; whnf) ?_)
                    refine ev_q rfl (q_move (by conv => lhs; whnf) ?_)
                    refine ev_skip rfl ?_
                    refine ev_skip rfl ?_
                    refine ev_skip rfl ?_
                    refine ev_skip rfl ?_
                    refine ev_skip rfl ?_
                    refine ev_skip rfl ?_
                    refine ev_skip rfl ?_
                    refine ev_skip rfl ?_
                    refine ev_q rfl (q_pickT rfl (by conv => lhs; whnf) ?_)
                    refine ev_q rfl (q_pickT rfl (by conv => lhs; whnf) ?_)
                    refine ev_nil (hK76 _ ?_); clear hK76
                    refine good_condT rfl ?_
                    refine good_seq fun K88 hK88 => ?_
                    refine good_region rfl ?_
                    refine ev_q rfl (q_assign (by conv => lhs; whnf) ?_)
                    refine ev_nil (hK88 _ ?_); clear hK88
                    refine good_ret ?_
                    repeat (first | refine thenQ_ret ?_ | refine blockQ_ret ?_)
                    refine ret_tmp (st := _) rfl (by conv => lhs; whnf) rfl ?_
                    clear hK23
                    first | rfl | (exfalso; omega)
              · replace hb79 := neT hb79
                refine ev_q rfl (q_pickF rfl (by conv => lhs; whnf) ?_)
                refine ev_q rfl (q_move (by conv => lhs; whnf) ?_)
                refine ev_skip rfl ?_
                refine ev_skip rfl ?_
                refine ev_skip rfl ?_
                refine ev_skip rfl ?_
                refine ev_skip rfl ?_
                refine ev_skip rfl ?_
                refine ev_skip rfl ?_
                refine ev_skip rfl ?_
                refine ev_q rfl (q_pickT rfl (by conv => lhs; whnf) ?_)
                refine ev_q rfl (q_move (by conv => lhs; whnf) ?_)
                refine ev_skip rfl ?_
                refine ev_skip rfl ?_
                refine ev_skip rfl ?_
                refine ev_skip rfl ?_
                refine ev_skip rfl ?_
                refine ev_skip rfl ?_
                refine ev_skip rfl ?_
                refine ev_skip rfl ?_
                refine ev_q rfl (q_pickT rfl (by conv => lhs; whnf) ?_)
                refine ev_q rfl (q_pickT rfl (by conv => lhs; whnf) ?_)
                refine ev_nil (hK76 _ ?_); clear hK76
                refine good_condT rfl ?_
                refine good_seq fun K89 hK89 => ?_
                refine good_region rfl ?_
                refine ev_q rfl (q_assign (by conv => lhs; whnf) ?_)
                refine ev_nil (hK89 _ ?_); clear hK89
                refine good_ret ?_
                repeat (first | refine thenQ_ret ?_ | refine blockQ_ret ?_)
                refine ret_tmp (st := _) rfl (by conv => lhs; whnf) rfl ?_
                clear hK23
                first | rfl | (exfalso; omega)
            · replace hb78 := neT hb78
              refine ev_q rfl (q_move (by conv => lhs; whnf) ?_)
              refine ev_skip rfl ?_
              refine ev_skip rfl ?_
              refine ev_skip rfl ?_
              refine ev_q rfl (q_pickT rfl (by conv => lhs; whnf) ?_)
              refine ev_q rfl (q_move (by conv => lhs; whnf) ?_)
              refine ev_skip rfl ?_
              refine ev_skip rfl ?_
              refine ev_skip rfl ?_
              refine ev_skip rfl ?_
              refine ev_skip rfl ?_
              refine ev_skip rfl ?_
              refine ev_skip rfl ?_
              refine ev_skip rfl ?_
              refine ev_q rfl (q_pickT rfl (by conv => lhs; whnf) ?_)
              refine ev_q rfl (q_move (by conv => lhs; whnf) ?_)
              refine ev_skip rfl ?_
              refine ev_skip rfl ?_
              refine ev_skip rfl ?_
              refine ev_skip rfl ?_
              refine ev_skip rfl ?_
              refine ev_skip rfl ?_
              refine ev_skip rfl ?_
              refine ev_skip rfl ?_
              refine ev_q rfl (q_pickT rfl (by conv => lhs; whnf) ?_)
              refine ev_q rfl (q_pickT rfl (by conv => lhs; whnf) ?_)
              refine ev_nil (hK76 _ ?_); clear hK76
              refine good_condT rfl ?_
              refine good_seq fun K90 hK90 => ?_
              refine good_region rfl ?_
              refine ev_q rfl (q_assign (by conv => lhs; whnf) ?_)
              refine ev_nil (hK90 _ ?_); clear hK90
              refine good_ret ?_
              repeat (first | refine thenQ_ret ?_ | refine blockQ_ret ?_)
              refine ret_tmp (st := _) rfl (by conv => lhs; whnf) rfl ?_
              clear hK23
              first | rfl | (exfalso; omega)
      · refine good_seq fun K91 hK91 => ?_
        refine good_region rfl ?_
        refine ev_q rfl (q_move (by conv => lhs; whnf) ?_)
        refine ev_q rfl (q_int rfl rfl ?_)
        intro b92 hb92; cases b92
        · replace hb92 := eqF hb92
          refine ev_nil (hK91 _ ?_); clear hK91
          refine good_condF rfl ?_
          refine good_skip (hK11 _ ?_); clear hK11
          refine sub_weak ?_ ?_
          · exact weakH_none _
          · refine weakE_upd ?e1 ?r1 (weakE_upd ?e0 ?r0 (weakE_junk _ _))
            case e0 => first | rfl | exact fI (by omega) | (rfl)
            case r0 => intro h hh; cases hh
            case e1 => first | rfl | exact fI (by omega) | (rfl)
            case r1 => intro h hh; cases hh
        · replace hb92 := eqT hb92
          refine ev_nil (hK91 _ ?_); clear hK91
          refine good_condT rfl ?_
          refine good_seq fun K93 hK93 => ?_
          refine good_region rfl ?_
          refine ev_q rfl (q_assign (by conv => lhs; whnf) ?_)
          refine ev_nil (hK93 _ ?_); clear hK93
          refine good_seq fun K94 hK94 => ?_
          refine good_region rfl ?_
          refine ev_q rfl (q_assign (by conv => lhs; whnf) ?_)
          refine ev_nil (hK94 _ ?_); clear hK94
          refine good_seq fun K95 hK95 => ?_
          refine good_seq fun K96 hK96 => ?_
          refine good_region rfl ?_
          refine ev_q rfl (q_assign (by conv => lhs; whnf) ?_)
          refine ev_nil (hK96 _ ?_); clear hK96
          refine good_block ?_
          refine good_loop (α := Int × Int × Nat) (fun (lo, hi, i) => { env := upd (upd (upd (upd (upd (upd (upd ((fun _ => .junk)) 0 (.lst 1 (cs.map cb))) 1 (.lst 1 (ds.map cb))) 6 (.lst 1 (t7.map ci))) 7 (.s (.int .i64 (n9)))) 9 (.s (.int .i64 lo))) 10 (.s (.int .i64 hi))) 11 (.s (.int .i64 i)), H := fun _ => none }) (fun (lo, hi, i) => i ≤ t7.length ∧ ∀ (j : Nat) (q : Int), j < i → t7[j]? = some q → lo ≤ q ∧ q ≤ hi) (fun (lo, hi, i) => t7.length - i) (18000, 0, 0) ?_ ?_ ?_
          · exact ⟨Nat.zero_le _, fun j u hj => by omega⟩
          · refine sub_weak ?_ ?_
            · exact weakH_none _
            · refine weakE_upd ?e11 ?r11 (weakE_upd ?e10 ?r10 (weakE_upd ?e9 ?r9 (weakE_upd ?e7 ?r7 (weakE_upd ?e6 ?r6 (weakE_upd ?e1 ?r1 (weakE_upd ?e0 ?r0 (weakE_junk _ _)))))))
              case e0 => first | rfl | exact fI (by omega) | (simp_all)
              case r0 => intro h hh; cases hh
              case e1 => first | rfl | exact fI (by omega) | (simp_all)
              case r1 => intro h hh; cases hh
              case e6 => first | rfl | exact fI (by omega) | (simp_all)
              case r6 => intro h hh; cases hh
              case e7 => first | rfl | exact fI (by omega) | (simp_all)
              case r7 => intro h hh; cases hh
              case e9 => first | rfl | exact fI (by omega) | (simp_all)
              case r9 => intro h hh; cases hh
              case e10 => first | rfl | exact fI (by omega) | (simp_all)
              case r10 => intro h hh; cases hh
              case e11 => first | rfl | exact fI (by omega) | (simp_all)
              case r11 => intro h hh; cases hh
          · rintro ⟨lo, hi, i⟩ ⟨hI, hJ⟩
            refine good_seq fun K97 hK97 => ?_
            refine good_seq fun K98 hK98 => ?_
            refine good_region rfl ?_
            refine ev_q rfl (q_move (by conv => lhs; whnf) ?_)
            refine ev_q rfl (q_move (by conv => lhs; whnf) ?_)
            refine ev_q rfl (q_len tEs22 rfl ?_)
            intro n99 hn99
            try simp only [List.length_map] at hn99
            refine ev_q rfl (q_int rfl rfl ?_)
            intro b100 hb100; cases b100
            · replace hb100 := dF hb100
              refine ev_nil (hK98 _ ?_); clear hK98
              refine good_condF rfl ?_
              refine good_exit ?_
              repeat (first | refine thenQ_exit ?_ | refine blockQ_pass rfl ?_)
              refine blockQ_exit (hK95 _ ?_); clear hK95
              refine good_seq fun K101 hK101 => ?_
              refine good_region rfl ?_
              refine ev_q rfl (q_move (by conv => lhs; whnf) ?_)
              refine ev_q rfl (q_move (by conv => lhs; whnf) ?_)
              have hmw := mw_law (fs := f7) (ts := t7) (lo := lo) (hi := hi) (by omega) (mmF hJ (by omega))
              rw [← hn9] at hmw
              refine ev_q rfl (q_int rfl rfl ?_)
              intro b102 hb102; cases b102
              · replace hb102 := dF hb102
                refine ev_q rfl (q_move (by conv => lhs; whnf) ?_)
                refine ev_q rfl (q_move (by conv => lhs; whnf) ?_)
                refine ev_q rfl (q_move (by conv => lhs; whnf) ?_)
                refine ev_q rfl (q_int rfl rfl ?_)
                intro b103 hb103; cases b103
                · replace hb103 := dF hb103
                  refine ev_q rfl (q_pickF rfl (by conv => lhs; whnf) ?_)
                  refine ev_nil (hK101 _ ?_); clear hK101
                  refine good_condF rfl ?_
                  refine good_skip (hK11 _ ?_); clear hK11
                  clear hK97
                  refine sub_weak ?_ ?_
                  · exact weakH_none _
                  · refine weakE_upd ?e1 ?r1 (weakE_upd ?e0 ?r0 (weakE_junk _ _))
                    case e0 => first | rfl | exact fI (by omega) | (rfl)
                    case r0 => intro h hh; cases hh
                    case e1 => first | rfl | exact fI (by omega) | (rfl)
                    case r1 => intro h hh; cases hh
                · replace hb103 := dT hb103
                  refine ev_q rfl (q_pickF rfl (by conv => lhs; whnf) ?_)
                  refine ev_nil (hK101 _ ?_); clear hK101
                  refine good_condT rfl ?_
                  refine good_seq fun K104 hK104 => ?_
                  refine good_region rfl ?_
                  refine ev_q rfl (q_assign (by conv => lhs; whnf) ?_)
                  refine ev_nil (hK104 _ ?_); clear hK104
                  refine good_ret ?_
                  repeat (first | refine thenQ_ret ?_ | refine blockQ_ret ?_)
                  refine ret_tmp (st := _) rfl (by conv => lhs; whnf) rfl ?_
                  clear hK11 hK97
                  first | rfl | (exfalso; omega)
              · replace hb102 := dT hb102
                refine ev_q rfl (q_move (by conv => lhs; whnf) ?_)
                refine ev_skip rfl ?_
                refine ev_skip rfl ?_
                refine ev_skip rfl ?_
                refine ev_q rfl (q_pickT rfl (by conv => lhs; whnf) ?_)
                refine ev_nil (hK101 _ ?_); clear hK101
                refine good_condT rfl ?_
                refine good_seq fun K105 hK105 => ?_
                refine good_region rfl ?_
                refine ev_q rfl (q_assign (by conv => lhs; whnf) ?_)
                refine ev_nil (hK105 _ ?_); clear hK105
                refine good_ret ?_
                repeat (first | refine thenQ_ret ?_ | refine blockQ_ret ?_)
                refine ret_tmp (st := _) rfl (by conv => lhs; whnf) rfl ?_
                clear hK11 hK97
                first | rfl | (exfalso; omega)
            · replace hb100 := dT hb100
              obtain ⟨p, hp⟩ := getL (xs := t7) (n := (i : Int)) (by omega) (by omega)
              replace hp : t7[i]? = some p := hp
              refine ev_nil (hK98 _ ?_); clear hK98
              refine good_condT rfl ?_
              refine good_skip (hK97 _ ?_); clear hK97
              refine good_seq fun K106 hK106 => ?_
              refine good_block ?_
              refine good_seq fun K107 hK107 => ?_
              refine good_region rfl ?_
              refine ev_q rfl (q_move (by conv => lhs; whnf) ?_)
              refine ev_q rfl (q_move (by conv => lhs; whnf) ?_)
              refine ev_q rfl (q_move (by conv => lhs; whnf) ?_)
              refine ev_q rfl (q_idx tE22 rfl rfl (by exact Int.natCast_nonneg _) (by exact map_get hp) rfl ?_)
              refine ev_q rfl (q_load tA2 rfl ?_)
              refine ev_q rfl (q_min rfl rfl ?_)
              intro n108 hn108; simp only [mxI, mnI] at hn108
              refine ev_q rfl (q_assign (by conv => lhs; whnf) ?_)
              refine ev_nil (hK107 _ ?_); clear hK107
              refine good_region rfl ?_
              refine ev_q rfl (q_move (by conv => lhs; whnf) ?_)
              refine ev_q rfl (q_move (by conv => lhs; whnf) ?_)
              refine ev_q rfl (q_move (by conv => lhs; whnf) ?_)
              refine ev_q rfl (q_idx tE22 rfl rfl (by exact Int.natCast_nonneg _) (by exact map_get hp) rfl ?_)
              refine ev_q rfl (q_load tA2 rfl ?_)
              refine ev_q rfl (q_max rfl rfl ?_)
              intro n109 hn109; simp only [mxI, mnI] at hn109
              refine ev_q rfl (q_assign (by conv => lhs; whnf) ?_)
              refine ev_nil (hK106 _ ?_); clear hK106
              refine good_region rfl ?_
              refine ev_q rfl (q_move (by conv => lhs; whnf) ?_)
              refine ev_q rfl (q_int rfl rfl ?_)
              intro n110 hn110
              replace hn110 := in64 hn110 (by omega) (by omega)
              refine ev_q rfl (q_assign (by conv => lhs; whnf) ?_)
              refine ev_nil ?_
              clear hK11 hK95
              refine ⟨(n108, n109, i + 1), ?_, ?_, ?_⟩
              · exact ⟨by first | omega | (dsimp only; omega), mmJ hJ hp (by omega) (by omega)⟩
              · first | omega | (dsimp only; omega)
              · refine sub_weak ?_ ?_
                · exact weakH_none _
                · refine weakE_upd ?e11 ?r11 (weakE_upd ?e10 ?r10 (weakE_upd ?e9 ?r9 (weakE_upd ?e7 ?r7 (weakE_upd ?e6 ?r6 (weakE_upd ?e1 ?r1 (weakE_upd ?e0 ?r0 (weakE_junk _ _)))))))
                  case e0 => first | rfl | exact fI (by omega) | (simp_all)
                  case r0 => intro h hh; cases hh
                  case e1 => first | rfl | exact fI (by omega) | (simp_all)
                  case r1 => intro h hh; cases hh
                  case e6 => first | rfl | exact fI (by omega) | (simp_all)
                  case r6 => intro h hh; cases hh
                  case e7 => first | rfl | exact fI (by omega) | (simp_all)
                  case r7 => intro h hh; cases hh
                  case e9 => first | rfl | exact fI (by omega) | (simp_all)
                  case r9 => intro h hh; cases hh
                  case e10 => first | rfl | exact fI (by omega) | (simp_all)
                  case r10 => intro h hh; cases hh
                  case e11 => first | rfl | exact fI (by omega) | (simp_all)
                  case r11 => intro h hh; cases hh
    · first | replace hb5 := dT hb5 | skip
      refine ev_q rfl (q_pickF rfl (by conv => lhs; whnf) ?_)
      refine ev_nil (hK3 _ ?_); clear hK3
      refine good_condT rfl ?_
      refine good_seq fun K111 hK111 => ?_
      refine good_region rfl ?_
      refine ev_q rfl (q_assign (by conv => lhs; whnf) ?_)
      refine ev_nil (hK111 _ ?_); clear hK111
      refine good_ret ?_
      repeat (first | refine thenQ_ret ?_ | refine blockQ_ret ?_)
      refine ret_tmp (st := _) rfl (by conv => lhs; whnf) rfl ?_
      clear hK2
      first | rfl | (exfalso; omega)
  · first | replace hb4 := dT hb4 | skip
    refine ev_q rfl (q_move (by conv => lhs; whnf) ?_)
    refine ev_skip rfl ?_
    refine ev_skip rfl ?_
    refine ev_q rfl (q_pickT rfl (by conv => lhs; whnf) ?_)
    refine ev_nil (hK3 _ ?_); clear hK3
    refine good_condT rfl ?_
    refine good_seq fun K112 hK112 => ?_
    refine good_region rfl ?_
    refine ev_q rfl (q_assign (by conv => lhs; whnf) ?_)
    refine ev_nil (hK112 _ ?_); clear hK112
    refine good_ret ?_
    repeat (first | refine thenQ_ret ?_ | refine blockQ_ret ?_)
    refine ret_tmp (st := _) rfl (by conv => lhs; whnf) rfl ?_
    clear hK2
    first | rfl | (exfalso; omega)

end Go.Proofs.Ytpoppoglnjoomaa.DFnMixes
