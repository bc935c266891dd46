/- Walks through the functions that FnWaves reaches: what each answers. -/
import Derived.Test.YtodghlkodiidaaaGreatDoorDFnWavesc
set_option linter.unusedVariables false
set_option linter.unusedSimpArgs false
namespace Go.Proofs.YtodghlkodiidaaaGreatDoor.DFnWaves
open Go Go.RowKit Go.Proofs Go.Proofs.YtodghlkodiidaaaGreatDoor Go.Proofs.YtodghlkodiidaaaGreatDoor.Ev
-- laws.FnWaves
set_option maxRecDepth 20000 in
set_option maxHeartbeats 2000000 in
theorem D_laws_FnWaves (cs ds : List Int) (hb : byteL cs) (hb2 : byteL ds) : Den Tryz.prog 4 [.lst 1 (cs.map cb), .lst 1 (ds.map cb)] (.s (.bool true)) := by
  refine den_of_good Tryz.func4 (by decide) rfl (Nat.le_of_ble_eq_true rfl) (Nat.le_of_ble_eq_true rfl) ?_
  refine good_seq fun K1 hK1 => ?_
  refine good_region rfl ?_
  refine ev_q rfl (q_assign (by conv => lhs; whnf) ?_)
  refine ev_nil (hK1 _ ?_); clear hK1
  refine good_seq fun K2 hK2 => ?_
  refine good_seq fun K3 hK3 => ?_
  refine good_region rfl ?_
  refine ev_q rfl (q_move (by conv => lhs; whnf) ?_)
  refine ev_q rfl (q_move (by conv => lhs; whnf) ?_)
  refine ev_q rfl (q_callB rfl rfl (rfl) (D_laws_r8Long cs ds) ?_)
  intro b4 hb4; cases b4
  · first | replace hb4 := dF hb4 | skip
    refine ev_nil (hK3 _ ?_); clear hK3
    refine good_condF rfl ?_
    refine good_skip (hK2 _ ?_); clear hK2
    refine good_seq fun K5 hK5 => ?_
    refine good_region rfl ?_
    refine ev_q rfl (q_move (by conv => lhs; whnf) ?_)
    refine ev_k rfl (k_callR [] (D_spec_R8Wave cs (by omega) hb) rfl (rfl) (rfl) trivial rfl (by rintro w6 hx6_0; exact ⟨trivial, rfl⟩) rfl rfl ?_)
    rintro w6 hx6_0
    obtain ⟨hok, h8⟩ := hx6_0
    have hwl := hok.1
    refine ev_q rfl (q_assign (by conv => lhs; whnf) ?_)
    refine ev_nil (hK5 _ ?_); clear hK5
    refine good_seq fun K7 hK7 => ?_
    refine good_region rfl ?_
    refine ev_q rfl (q_move (by conv => lhs; whnf) ?_)
    refine ev_q rfl (q_callI rfl rfl (rfl) (D_laws_r8Wide ds 0 2000 (by omega) hb2 (by omega) (by omega)) ?_)
    intro n8 hn8
    have hw0 := r8w_bd (cs := ds) (k := 0) (n := 2000) (by omega)
    rw [← hn8] at hw0
    refine ev_q rfl (q_assign (by conv => lhs; whnf) ?_)
    refine ev_nil (hK7 _ ?_); clear hK7
    refine good_seq fun K9 hK9 => ?_
    refine good_region rfl ?_
    refine ev_q rfl (q_move (by conv => lhs; whnf) ?_)
    refine ev_q rfl (q_callI rfl rfl (rfl) (D_laws_r8Wide ds 2 9000 (by omega) hb2 (by omega) (by omega)) ?_)
    intro n10 hn10
    have hw2 := r8w_bd (cs := ds) (k := 2) (n := 9000) (by omega)
    rw [← hn10] at hw2
    refine ev_q rfl (q_assign (by conv => lhs; whnf) ?_)
    refine ev_nil (hK9 _ ?_); clear hK9
    refine good_seq fun K11 hK11 => ?_
    refine good_region rfl ?_
    refine ev_q rfl (q_move (by conv => lhs; whnf) ?_)
    refine ev_q rfl (q_callI rfl rfl (rfl) (D_laws_r8Wide ds 4 6000 (by omega) hb2 (by omega) (by omega)) ?_)
    intro n12 hn12
    have hw4 := r8w_bd (cs := ds) (k := 4) (n := 6000) (by omega)
    rw [← hn12] at hw4
    refine ev_q rfl (q_assign (by conv => lhs; whnf) ?_)
    refine ev_nil (hK11 _ ?_); clear hK11
    refine good_seq fun K13 hK13 => ?_
    refine good_region rfl ?_
    refine ev_q rfl (q_move (by conv => lhs; whnf) ?_)
    refine ev_q rfl (q_move (by conv => lhs; whnf) ?_)
    refine ev_q rfl (q_move (by conv => lhs; whnf) ?_)
    refine ev_q rfl (q_call rfl rfl (rfl) (W_late hok h8 (by omega) (by omega)) rfl ?_)
    refine ev_q rfl (q_move (by conv => lhs; whnf) ?_)
    refine ev_q rfl (q_extract rfl rfl ?_)
    refine ev_q rfl (q_extractI rfl rfl ?_)
    intro n14 hn14
    have hlo := lw8_ok hok h8 (d := n8) (b := n10) (by omega) (by omega)
    refine ev_q rfl (q_assign (by conv => lhs; whnf) ?_)
    refine ev_q rfl (q_assign (by conv => lhs; whnf) ?_)
    refine ev_nil (hK13 _ ?_); clear hK13
    refine good_seq fun K15 hK15 => ?_
    refine good_region rfl ?_
    refine ev_q rfl (q_move (by conv => lhs; whnf) ?_)
    refine ev_q rfl (q_call rfl rfl (rfl) (W_trim hok) rfl ?_)
    refine ev_q rfl (q_move (by conv => lhs; whnf) ?_)
    refine ev_q rfl (q_extract rfl rfl ?_)
    refine ev_q rfl (q_extractI rfl rfl ?_)
    intro n16 hn16
    have htl := trG_len (xs := w6) (w6).length
    refine ev_q rfl (q_assign (by conv => lhs; whnf) ?_)
    refine ev_q rfl (q_assign (by conv => lhs; whnf) ?_)
    refine ev_nil (hK15 _ ?_); clear hK15
    refine good_seq fun K17 hK17 => ?_
    refine good_region rfl ?_
    refine ev_q rfl (q_move (by conv => lhs; whnf) ?_)
    refine ev_q rfl (q_move (by conv => lhs; whnf) ?_)
    refine ev_q rfl (q_call rfl rfl (rfl) (W_at hok (by omega)) rfl ?_)
    refine ev_q rfl (q_move (by conv => lhs; whnf) ?_)
    refine ev_q rfl (q_extractI rfl rfl ?_)
    intro n18 hn18
    refine ev_q rfl (q_extractI rfl rfl ?_)
    intro n19 hn19
    refine ev_q rfl (q_assign (by conv => lhs; whnf) ?_)
    refine ev_q rfl (q_assign (by conv => lhs; whnf) ?_)
    refine ev_nil (hK17 _ ?_); clear hK17
    refine good_seq fun K20 hK20 => ?_
    refine good_region rfl ?_
    refine ev_q rfl (q_move (by conv => lhs; whnf) ?_)
    refine ev_q rfl (q_move (by conv => lhs; whnf) ?_)
    refine ev_q rfl (q_move (by conv => lhs; whnf) ?_)
    refine ev_q rfl (q_int rfl rfl ?_)
    intro n21 hn21
    replace hn21 := in64 hn21 (by omega) (by omega)
    refine ev_q rfl (q_call rfl rfl (rfl) (W_at hlo (by omega)) rfl ?_)
    refine ev_q rfl (q_move (by conv => lhs; whnf) ?_)
    refine ev_q rfl (q_extractI rfl rfl ?_)
    intro n22 hn22
    rw [hn21, lw8_at hok h8 (by omega) (by omega) (by omega)] at hn22
    refine ev_q rfl (q_extractI rfl rfl ?_)
    intro n23 hn23
    refine ev_q rfl (q_assign (by conv => lhs; whnf) ?_)
    refine ev_q rfl (q_assign (by conv => lhs; whnf) ?_)
    refine ev_nil (hK20 _ ?_); clear hK20
    refine good_seq fun K24 hK24 => ?_
    refine good_region rfl ?_
    refine ev_q rfl (q_move (by conv => lhs; whnf) ?_)
    refine ev_q rfl (q_move (by conv => lhs; whnf) ?_)
    refine ev_q rfl (q_call rfl rfl (rfl) (W_at (wv_trim hok) (by omega)) rfl ?_)
    refine ev_q rfl (q_move (by conv => lhs; whnf) ?_)
    refine ev_q rfl (q_extractI rfl rfl ?_)
    intro n25 hn25
    rw [waveAt_trim hok] at hn25
    refine ev_q rfl (q_extractI rfl rfl ?_)
    intro n26 hn26
    refine ev_q rfl (q_assign (by conv => lhs; whnf) ?_)
    refine ev_q rfl (q_assign (by conv => lhs; whnf) ?_)
    refine ev_nil (hK24 _ ?_); clear hK24
    refine good_seq fun K27 hK27 => ?_
    refine good_region rfl ?_
    refine ev_q rfl (q_move (by conv => lhs; whnf) ?_)
    refine ev_q rfl (q_call rfl rfl (rfl) (D_impl_WaveText w6 (by omega)) rfl ?_)
    refine ev_q rfl (q_call rfl rfl (rfl) (W_read hok) rfl ?_)
    refine ev_q rfl (q_move (by conv => lhs; whnf) ?_)
    refine ev_q rfl (q_extract rfl rfl ?_)
    refine ev_q rfl (q_extractB rfl rfl ?_)
    intro b28 hb28; cases b28
    · first | replace hb28 := dF hb28 | skip
      refine ev_q rfl (q_assign (by conv => lhs; whnf) ?_)
      refine ev_q rfl (q_assign (by conv => lhs; whnf) ?_)
      refine ev_nil (hK27 _ ?_); clear hK27
      refine good_seq fun K29 hK29 => ?_
      refine good_seq fun K30 hK30 => ?_
      refine good_region rfl ?_
      refine ev_q rfl (q_move (by conv => lhs; whnf) ?_)
      refine ev_q rfl (q_int rfl rfl ?_)
      intro b31 hb31; cases b31
      · replace hb31 := neF hb31
        refine ev_q rfl (q_move (by conv => lhs; whnf) ?_)
        refine ev_q rfl (q_move (by conv => lhs; whnf) ?_)
        refine ev_q rfl (q_int rfl rfl ?_)
        intro b32 hb32; cases b32
        · replace hb32 := neF hb32
          refine ev_q rfl (q_pickF rfl (by conv => lhs; whnf) ?_)
          refine ev_q rfl (q_move (by conv => lhs; whnf) ?_)
          refine ev_q rfl (q_move (by conv => lhs; whnf) ?_)
          refine ev_q rfl (q_int rfl rfl ?_)
          intro b33 hb33; cases b33
          · replace hb33 := neF hb33
            refine ev_q rfl (q_pickF rfl (by conv => lhs; whnf) ?_)
            refine ev_q rfl (q_move (by conv => lhs; whnf) ?_)
            refine ev_q rfl (q_move (by conv => lhs; whnf) ?_)
            refine ev_q rfl (q_int rfl rfl ?_)
            intro b34 hb34; cases b34
            · replace hb34 := neF hb34
              refine ev_q rfl (q_pickF rfl (by conv => lhs; whnf) ?_)
              refine ev_q rfl (q_move (by conv => lhs; whnf) ?_)
              refine ev_q rfl (q_move (by conv => lhs; whnf) ?_)
              refine ev_q rfl (q_int rfl rfl ?_)
              intro b35 hb35; cases b35
              · replace hb35 := neF hb35
                refine ev_q rfl (q_pickF rfl (by conv => lhs; whnf) ?_)
                refine ev_q rfl (q_move (by conv => lhs; whnf) ?_)
                refine ev_q rfl (q_move (by conv => lhs; whnf) ?_)
                refine ev_q rfl (q_move (by conv => lhs; whnf) ?_)
                refine ev_q rfl (q_int rfl rfl ?_)
                intro b36 hb36; cases b36
                · replace hb36 := neF hb36
                  refine ev_q rfl (q_pickF rfl (by conv => lhs; whnf) ?_)
                  refine ev_q rfl (q_move (by conv => lhs; whnf) ?_)
                  refine ev_q rfl (q_move (by conv => lhs; whnf) ?_)
                  refine ev_q rfl (q_move (by conv => lhs; whnf) ?_)
                  refine ev_q rfl (q_int rfl rfl ?_)
                  intro b37 hb37; cases b37
                  · replace hb37 := neF hb37
                    refine ev_q rfl (q_pickF rfl (by conv => lhs; whnf) ?_)
                    refine ev_q rfl (q_move (by conv => lhs; whnf) ?_)
                    refine ev_q rfl (q_move (by conv => lhs; whnf) ?_)
                    refine ev_q rfl (q_len tEs44 rfl ?_)
                    intro n38 hn38
                    try simp only [List.length_map] at hn38
                    refine ev_q rfl (q_move (by conv => lhs; whnf) ?_)
                    refine ev_q rfl (q_len tEs44 rfl ?_)
                    intro n39 hn39
                    try simp only [List.length_map] at hn39
                    refine ev_q rfl (q_int rfl rfl ?_)
                    intro b40 hb40; cases b40
                    · replace hb40 := dF hb40
                      refine ev_q rfl (q_pickF rfl (by conv => lhs; whnf) ?_)
                      refine ev_q rfl (q_move (by conv => lhs; whnf) ?_)
                      refine ev_q rfl (q_move (by conv => lhs; whnf) ?_)
                      refine ev_q rfl (q_not rfl rfl ?_)
                      refine ev_q rfl (q_pickF rfl (by conv => lhs; whnf) ?_)
                      refine ev_q rfl (q_move (by conv => lhs; whnf) ?_)
                      refine ev_skip rfl ?_
                      refine ev_skip rfl ?_
                      refine ev_skip rfl ?_
                      refine ev_skip rfl ?_
                      refine ev_q rfl (q_pickT rfl (by conv => lhs; whnf) ?_)
                      refine ev_q rfl (q_move (by conv => lhs; whnf) ?_)
                      refine ev_skip rfl ?_
                      refine ev_skip rfl ?_
                      refine ev_skip rfl ?_
                      refine ev_q rfl (q_pickT rfl (by conv => lhs; whnf) ?_)
                      refine ev_nil (hK30 _ ?_); clear hK30
                      refine good_condT rfl ?_
                      refine good_seq fun K41 hK41 => ?_
                      refine good_region rfl ?_
                      refine ev_q rfl (q_assign (by conv => lhs; whnf) ?_)
                      refine ev_nil (hK41 _ ?_); clear hK41
                      refine good_ret ?_
                      repeat (first | refine thenQ_ret ?_ | refine blockQ_ret ?_)
                      refine ret_tmp (st := _) rfl (by conv => lhs; whnf) rfl ?_
                      clear hK29
                      first | rfl | (exfalso; first | omega | (exact absurd rfl (by assumption)) | (exact absurd hlo (by assumption)) | contradiction)
                    · replace hb40 := dT hb40
                      refine ev_q rfl (q_pickF rfl (by conv => lhs; whnf) ?_)
                      refine ev_q rfl (q_move (by conv => lhs; whnf) ?_)
                      refine ev_skip rfl ?_
                      refine ev_skip rfl ?_
                      refine ev_q rfl (q_pickT rfl (by conv => lhs; whnf) ?_)
                      refine ev_q rfl (q_move (by conv => lhs; whnf) ?_)
                      refine ev_skip rfl ?_
                      refine ev_skip rfl ?_
                      refine ev_skip rfl ?_
                      refine ev_skip rfl ?_
                      refine ev_q rfl (q_pickT rfl (by conv => lhs; whnf) ?_)
                      refine ev_q rfl (q_move (by conv => lhs; whnf) ?_)
                      refine ev_skip rfl ?_
                      refine ev_skip rfl ?_
                      refine ev_skip rfl ?_
                      refine ev_q rfl (q_pickT rfl (by conv => lhs; whnf) ?_)
                      refine ev_nil (hK30 _ ?_); clear hK30
                      refine good_condT rfl ?_
                      refine good_seq fun K42 hK42 => ?_
                      refine good_region rfl ?_
                      refine ev_q rfl (q_assign (by conv => lhs; whnf) ?_)
                      refine ev_nil (hK42 _ ?_); clear hK42
                      refine good_ret ?_
                      repeat (first | refine thenQ_ret ?_ | refine blockQ_ret ?_)
                      refine ret_tmp (st := _) rfl (by conv => lhs; whnf) rfl ?_
                      clear hK29
                      first | rfl | (exfalso; first | omega | (exact absurd rfl (by assumption)) | (exact absurd hlo (by assumption)) | contradiction)
                  · replace hb37 := neT hb37
                    refine ev_q rfl (q_pickF rfl (by conv => lhs; whnf) ?_)
                    refine ev_q rfl (q_move (by conv => lhs; whnf) ?_)
                    refine ev_skip rfl ?_
                    refine ev_skip rfl ?_
                    refine ev_skip rfl ?_
                    refine ev_skip rfl ?_
                    refine ev_skip rfl ?_
                    refine ev_q rfl (q_pickT rfl (by conv => lhs; whnf) ?_)
                    refine ev_q rfl (q_move (by conv => lhs; whnf) ?_)
                    refine ev_skip rfl ?_
                    refine ev_skip rfl ?_
                    refine ev_q rfl (q_pickT rfl (by conv => lhs; whnf) ?_)
                    refine ev_q rfl (q_move (by conv => lhs; whnf) ?_)
                    refine ev_skip rfl ?_
                    refine ev_skip rfl ?_
                    refine ev_skip rfl ?_
                    refine ev_skip rfl ?_
                    refine ev_q rfl (q_pickT rfl (by conv => lhs; whnf) ?_)
                    refine ev_q rfl (q_move (by conv => lhs; whnf) ?_)
                    refine ev_skip rfl ?_
                    refine ev_skip rfl ?_
                    refine ev_skip rfl ?_
                    refine ev_q rfl (q_pickT rfl (by conv => lhs; whnf) ?_)
                    refine ev_nil (hK30 _ ?_); clear hK30
                    refine good_condT rfl ?_
                    refine good_seq fun K43 hK43 => ?_
                    refine good_region rfl ?_
                    refine ev_q rfl (q_assign (by conv => lhs; whnf) ?_)
                    refine ev_nil (hK43 _ ?_); clear hK43
                    refine good_ret ?_
                    repeat (first | refine thenQ_ret ?_ | refine blockQ_ret ?_)
                    refine ret_tmp (st := _) rfl (by conv => lhs; whnf) rfl ?_
                    clear hK29
                    first | rfl | (exfalso; first | omega | (exact absurd rfl (by assumption)) | (exact absurd hlo (by assumption)) | contradiction)
                · replace hb36 := neT hb36
                  refine ev_q rfl (q_pickF rfl (by conv => lhs; whnf) ?_)
                  refine ev_q rfl (q_move (by conv => lhs; whnf) ?_)
                  refine ev_skip rfl ?_
                  refine ev_skip rfl ?_
                  refine ev_skip rfl ?_
                  refine ev_q rfl (q_pickT rfl (by conv => lhs; whnf) ?_)
                  refine ev_q rfl (q_move (by conv => lhs; whnf) ?_)
                  refine ev_skip rfl ?_
                  refine ev_skip rfl ?_
                  refine ev_skip rfl ?_
                  refine ev_skip rfl ?_
                  refine ev_skip rfl ?_
                  refine ev_q rfl (q_pickT rfl (by conv => lhs; whnf) ?_)
                  refine ev_q rfl (q_move (by conv => lhs; whnf) ?_)
                  refine ev_skip rfl ?_
                  refine ev_skip rfl ?_
                  refine ev_q rfl (q_pickT rfl (by conv => lhs; whnf) ?_)
                  refine ev_q rfl (q_move (by conv => lhs; whnf) ?_)
                  refine ev_skip rfl ?_
                  refine ev_skip rfl ?_
                  refine ev_skip rfl ?_
                  refine ev_skip rfl ?_
                  refine ev_q rfl (q_pickT rfl (by conv => lhs; whnf) ?_)
                  refine ev_q rfl (q_move (by conv => lhs; whnf) ?_)
                  refine ev_skip rfl ?_
                  refine ev_skip rfl ?_
                  refine ev_skip rfl ?_
                  refine ev_q rfl (q_pickT rfl (by conv => lhs; whnf) ?_)
                  refine ev_nil (hK30 _ ?_); clear hK30
                  refine good_condT rfl ?_
                  refine good_seq fun K44 hK44 => ?_
                  refine good_region rfl ?_
                  refine ev_q rfl (q_assign (by conv => lhs; whnf) ?_)
                  refine ev_nil (hK44 _ ?_); clear hK44
                  refine good_ret ?_
                  repeat (first | refine thenQ_ret ?_ | refine blockQ_ret ?_)
                  refine ret_tmp (st := _) rfl (by conv => lhs; whnf) rfl ?_
                  clear hK29
                  first | rfl | (exfalso; first | omega | (exact absurd rfl (by assumption)) | (exact absurd hlo (by assumption)) | contradiction)
              · replace hb35 := neT hb35
                refine ev_q rfl (q_pickF rfl (by conv => lhs; whnf) ?_)
                refine ev_q rfl (q_move (by conv => lhs; whnf) ?_)
                refine ev_skip rfl ?_
                refine ev_skip rfl ?_
                refine ev_skip rfl ?_
                refine ev_q rfl (q_pickT rfl (by conv => lhs; whnf) ?_)
                refine ev_q rfl (q_move (by conv => lhs; whnf) ?_)
                refine ev_skip rfl ?_
                refine ev_skip rfl ?_
                refine ev_skip rfl ?_
                refine ev_q rfl (q_pickT rfl (by conv => lhs; whnf) ?_)
                refine ev_q rfl (q_move (by conv => lhs; whnf) ?_)
                refine ev_skip rfl ?_
                refine ev_skip rfl ?_
                refine ev_skip rfl ?_
                refine ev_skip rfl ?_
                refine ev_skip rfl ?_
                refine ev_q rfl (q_pickT rfl (by conv => lhs; whnf) ?_)
                refine ev_q rfl (q_move (by conv => lhs; whnf) ?_)
                refine ev_skip rfl ?_
                refine ev_skip rfl ?_
                refine ev_q rfl (q_pickT rfl (by conv => lhs; whnf) ?_)
                refine ev_q rfl (q_move (by conv => lhs; whnf) ?_)
                refine ev_skip rfl ?_
                refine ev_skip rfl ?_
                refine ev_skip rfl ?_
                refine ev_skip rfl ?_
                refine ev_q rfl (q_pickT rfl (by conv => lhs; whnf) ?_)
                refine ev_q rfl (q_move (by conv => lhs; whnf) ?_)
                refine ev_skip rfl ?_
                refine ev_skip rfl ?_
                refine ev_skip rfl ?_
                refine ev_q rfl (q_pickT rfl (by conv => lhs; whnf) ?_)
                refine ev_nil (hK30 _ ?_); clear hK30
                refine good_condT rfl ?_
                refine good_seq fun K45 hK45 => ?_
                refine good_region rfl ?_
                refine ev_q rfl (q_assign (by conv => lhs; whnf) ?_)
                refine ev_nil (hK45 _ ?_); clear hK45
                refine good_ret ?_
                repeat (first | refine thenQ_ret ?_ | refine blockQ_ret ?_)
                refine ret_tmp (st := _) rfl (by conv => lhs; whnf) rfl ?_
                clear hK29
                first | rfl | (exfalso; first | omega | (exact absurd rfl (by assumption)) | (exact absurd hlo (by assumption)) | contradiction)
            · replace hb34 := neT hb34
              refine ev_q rfl (q_pickF rfl (by conv => lhs; whnf) ?_)
              refine ev_q rfl (q_move (by conv => lhs; whnf) ?_)
              refine ev_skip rfl ?_
              refine ev_skip rfl ?_
              refine ev_q rfl (q_pickT rfl (by conv => lhs; whnf) ?_)
              refine ev_q rfl (q_move (by conv => lhs; whnf) ?_)
              refine ev_skip rfl ?_
              refine ev_skip rfl ?_
              refine ev_skip rfl ?_
              refine ev_q rfl (q_pickT rfl (by conv => lhs; whnf) ?_)
              refine ev_q rfl (q_move (by conv => lhs; whnf) ?_)
              refine ev_skip rfl ?_
              refine ev_skip rfl ?_
              refine ev_skip rfl ?_
              refine ev_q rfl (q_pickT rfl (by conv => lhs; whnf) ?_)
              refine ev_q rfl (q_move (by conv => lhs; whnf) ?_)
              refine ev_skip rfl ?_
              refine ev_skip rfl ?_
              refine ev_skip rfl ?_
              refine ev_skip rfl ?_
              refine ev_skip rfl ?_
              refine ev_q rfl (q_pickT rfl (by conv => lhs; whnf) ?_)
              refine ev_q rfl (q_move (by conv => lhs; whnf) ?_)
              refine ev_skip rfl ?_
              refine ev_skip rfl ?_
              refine ev_q rfl (q_pickT rfl (by conv => lhs; whnf) ?_)
              refine ev_q rfl (q_move (by conv => lhs; whnf) ?_)
              refine ev_skip rfl ?_
              refine ev_skip rfl ?_
              refine ev_skip rfl ?_
              refine ev_skip rfl ?_
              refine ev_q rfl (q_pickT rfl (by conv => lhs; whnf) ?_)
              refine ev_q rfl (q_move (by conv => lhs; whnf) ?_)
              refine ev_skip rfl ?_
              refine ev_skip rfl ?_
              refine ev_skip rfl ?_
              refine ev_q rfl (q_pickT rfl (by conv => lhs; whnf) ?_)
              refine ev_nil (hK30 _ ?_); clear hK30
              refine good_condT rfl ?_
              refine good_seq fun K46 hK46 => ?_
              refine good_region rfl ?_
              refine ev_q rfl (q_assign (by conv => lhs; whnf) ?_)
              refine ev_nil (hK46 _ ?_); clear hK46
              refine good_ret ?_
              repeat (first | refine thenQ_ret ?_ | refine blockQ_ret ?_)
              refine ret_tmp (st := _) rfl (by conv => lhs; whnf) rfl ?_
              clear hK29
              first | rfl | (exfalso; first | omega | (exact absurd rfl (by assumption)) | (exact absurd hlo (by assumption)) | contradiction)
          · replace hb33 := neT hb33
            refine ev_q rfl (q_pickF rfl (by conv => lhs; whnf) ?_)
            refine ev_q rfl (q_move (by conv => lhs; whnf) ?_)
            refine ev_skip rfl ?_
            refine ev_skip rfl ?_
            refine ev_q rfl (q_pickT rfl (by conv => lhs; whnf) ?_)
            refine ev_q rfl (q_move (by conv => lhs; whnf) ?_)
            refine ev_skip rfl ?_
            refine ev_skip rfl ?_
            refine ev_q rfl (q_pickT rfl (by conv => lhs; whnf) ?_)
            refine ev_q rfl (q_move (by conv => lhs; whnf) ?_)
            refine ev_skip rfl ?_
            refine ev_skip rfl ?_
            refine ev_skip rfl ?_
            refine ev_q rfl (q_pickT rfl (by conv => lhs; whnf) ?_)
            refine ev_q rfl (q_move (by conv => lhs; whnf) ?_)
            refine ev_skip rfl ?_
            refine ev_skip rfl ?_
            refine ev_skip rfl ?_
            refine ev_q rfl (q_pickT rfl (by conv => lhs; whnf) ?_)
            refine ev_q rfl (q_move (by conv => lhs; whnf) ?_)
            refine ev_skip rfl ?_
            refine ev_skip rfl ?_
            refine ev_skip rfl ?_
            refine ev_skip rfl ?_
            refine ev_skip rfl ?_
            refine ev_q rfl (q_pickT rfl (by conv => lhs; whnf) ?_)
            refine ev_q rfl (q_move (by conv => lhs; whnf) ?_)
            refine ev_skip rfl ?_
            refine ev_skip rfl ?_
            refine ev_q rfl (q_pickT rfl (by conv => lhs; whnf) ?_)
            refine ev_q rfl (q_move (by conv => lhs; whnf) ?_)
            refine ev_skip rfl ?_
            refine ev_skip rfl ?_
            refine ev_skip rfl ?_
            refine ev_skip rfl ?_
            refine ev_q rfl (q_pickT rfl (by conv => lhs; whnf) ?_)
            refine ev_q rfl (q_move (by conv => lhs; whnf) ?_)
            refine ev_skip rfl ?_
            refine ev_skip rfl ?_
            refine ev_skip rfl ?_
            refine ev_q rfl (q_pickT rfl (by conv => lhs; whnf) ?_)
            refine ev_nil (hK30 _ ?_); clear hK30
            refine good_condT rfl ?_
            refine good_seq fun K47 hK47 => ?_
            refine good_region rfl ?_
            refine ev_q rfl (q_assign (by conv => lhs; whnf) ?_)
            refine ev_nil (hK47 _ ?_); clear hK47
            refine good_ret ?_
            repeat (first | refine thenQ_ret ?_ | refine blockQ_ret ?_)
            refine ret_tmp (st := _) rfl (by conv => lhs; whnf) rfl ?_
            clear hK29
            first | rfl | (exfalso; first | omega | (exact absurd rfl (by assumption)) | (exact absurd hlo (by assumption)) | contradiction)
        · replace hb32 := neT hb32
          refine ev_q rfl (q_pickF rfl (by conv => lhs; whnf) ?_)
          refine ev_q rfl (q_move (by conv => lhs; whnf) ?_)
          refine ev_skip rfl ?_
          refine ev_skip rfl ?_
          refine ev_q rfl (q_pickT rfl (by conv => lhs; whnf) ?_)
          refine ev_q rfl (q_move (by conv => lhs; whnf) ?_)
          refine ev_skip rfl ?_
          refine ev_skip rfl ?_
          refine ev_q rfl (q_pickT rfl (by conv => lhs; whnf) ?_)
          refine ev_q rfl (q_move (by conv => lhs; whnf) ?_)
          refine ev_skip rfl ?_
          refine ev_skip rfl ?_
          refine ev_q rfl (q_pickT rfl (by conv => lhs; whnf) ?_)
          refine ev_q rfl (q_move (by conv => lhs; whnf) ?_)
          refine ev_skip rfl ?_
          refine ev_skip rfl ?_
          refine ev_skip rfl ?_
          refine ev_q rfl (q_pickT rfl (by conv => lhs; whnf) ?_)
          refine ev_q rfl (q_move (by conv => lhs; whnf) ?_)
          refine ev_skip rfl ?_
          refine ev_skip rfl ?_
          refine ev_skip rfl ?_
          refine ev_q rfl (q_pickT rfl (by conv => lhs; whnf) ?_)
          refine ev_q rfl (q_move (by conv => lhs; whnf) ?_)
          refine ev_skip rfl ?_
          refine ev_skip rfl ?_
          refine ev_skip rfl ?_
          refine ev_skip rfl ?_
          refine ev_skip rfl ?_
          refine ev_q rfl (q_pickT rfl (by conv => lhs; whnf) ?_)
          refine ev_q rfl (q_move (by conv => lhs; whnf) ?_)
          refine ev_skip rfl ?_
          refine ev_skip rfl ?_
          refine ev_q rfl (q_pickT rfl (by conv => lhs; whnf) ?_)
          refine ev_q rfl (q_move (by conv => lhs; whnf) ?_)
          refine ev_skip rfl ?_
          refine ev_skip rfl ?_
          refine ev_skip rfl ?_
          refine ev_skip rfl ?_
          refine ev_q rfl (q_pickT rfl (by conv => lhs; whnf) ?_)
          refine ev_q rfl (q_move (by conv => lhs; whnf) ?_)
          refine ev_skip rfl ?_
          refine ev_skip rfl ?_
          refine ev_skip rfl ?_
          refine ev_q rfl (q_pickT rfl (by conv => lhs; whnf) ?_)
          refine ev_nil (hK30 _ ?_); clear hK30
          refine good_condT rfl ?_
          refine good_seq fun K48 hK48 => ?_
          refine good_region rfl ?_
          refine ev_q rfl (q_assign (by conv => lhs; whnf) ?_)
          refine ev_nil (hK48 _ ?_); clear hK48
          refine good_ret ?_
          repeat (first | refine thenQ_ret ?_ | refine blockQ_ret ?_)
          refine ret_tmp (st := _) rfl (by conv => lhs; whnf) rfl ?_
          clear hK29
          first | rfl | (exfalso; first | omega | (exact absurd rfl (by assumption)) | (exact absurd hlo (by assumption)) | contradiction)
      · replace hb31 := neT hb31
        refine ev_q rfl (q_move (by conv => lhs; whnf) ?_)
        refine ev_skip rfl ?_
        refine ev_skip rfl ?_
        refine ev_q rfl (q_pickT rfl (by conv => lhs; whnf) ?_)
        refine ev_q rfl (q_move (by conv => lhs; whnf) ?_)
        refine ev_skip rfl ?_
        refine ev_skip rfl ?_
        refine ev_q rfl (q_pickT rfl (by conv => lhs; whnf) ?_)
        refine ev_q rfl (q_move (by conv => lhs; whnf) ?_)
        refine ev_skip rfl ?_
        refine ev_skip rfl ?_
        refine ev_q rfl (q_pickT rfl (by conv => lhs; whnf) ?_)
        refine ev_q rfl (q_move (by conv => lhs; whnf) ?_)
        refine ev_skip rfl ?_
        refine ev_skip rfl ?_
        refine ev_q rfl (q_pickT rfl (by conv => lhs; whnf) ?_)
        refine ev_q rfl (q_move (by conv => lhs; whnf) ?_)
        refine ev_skip rfl ?_
        refine ev_skip rfl ?_
        refine ev_skip rfl ?_
        refine ev_q rfl (q_pickT rfl (by conv => lhs; whnf) ?_)
        refine ev_q rfl (q_move (by conv => lhs; whnf) ?_)
        refine ev_skip rfl ?_
        refine ev_skip rfl ?_
        refine ev_skip rfl ?_
        refine ev_q rfl (q_pickT rfl (by conv => lhs; whnf) ?_)
        refine ev_q rfl (q_move (by conv => lhs; whnf) ?_)
        refine ev_skip rfl ?_
        refine ev_skip rfl ?_
        refine ev_skip rfl ?_
        refine ev_skip rfl ?_
        refine ev_skip rfl ?_
        refine ev_q rfl (q_pickT rfl (by conv => lhs; whnf) ?_)
        refine ev_q rfl (q_move (by conv => lhs; whnf) ?_)
        refine ev_skip rfl ?_
        refine ev_skip rfl ?_
        refine ev_q rfl (q_pickT rfl (by conv => lhs; whnf) ?_)
        refine ev_q rfl (q_move (by conv => lhs; whnf) ?_)
        refine ev_skip rfl ?_
        refine ev_skip rfl ?_
        refine ev_skip rfl ?_
        refine ev_skip rfl ?_
        refine ev_q rfl (q_pickT rfl (by conv => lhs; whnf) ?_)
        refine ev_q rfl (q_move (by conv => lhs; whnf) ?_)
        refine ev_skip rfl ?_
        refine ev_skip rfl ?_
        refine ev_skip rfl ?_
        refine ev_q rfl (q_pickT rfl (by conv => lhs; whnf) ?_)
        refine ev_nil (hK30 _ ?_); clear hK30
        refine good_condT rfl ?_
        refine good_seq fun K49 hK49 => ?_
        refine good_region rfl ?_
        refine ev_q rfl (q_assign (by conv => lhs; whnf) ?_)
        refine ev_nil (hK49 _ ?_); clear hK49
        refine good_ret ?_
        repeat (first | refine thenQ_ret ?_ | refine blockQ_ret ?_)
        refine ret_tmp (st := _) rfl (by conv => lhs; whnf) rfl ?_
        clear hK29
        first | rfl | (exfalso; first | omega | (exact absurd rfl (by assumption)) | (exact absurd hlo (by assumption)) | contradiction)
    · first | replace hb28 := dT hb28 | skip
      refine ev_q rfl (q_assign (by conv => lhs; whnf) ?_)
      refine ev_q rfl (q_assign (by conv => lhs; whnf) ?_)
      refine ev_nil (hK27 _ ?_); clear hK27
      refine good_seq fun K50 hK50 => ?_
      refine good_seq fun K51 hK51 => ?_
      refine good_region rfl ?_
      refine ev_q rfl (q_move (by conv => lhs; whnf) ?_)
      refine ev_q rfl (q_int rfl rfl ?_)
      intro b52 hb52; cases b52
      · replace hb52 := neF hb52
        refine ev_q rfl (q_move (by conv => lhs; whnf) ?_)
        refine ev_q rfl (q_move (by conv => lhs; whnf) ?_)
        refine ev_q rfl (q_int rfl rfl ?_)
        intro b53 hb53; cases b53
        · replace hb53 := neF hb53
          refine ev_q rfl (q_pickF rfl (by conv => lhs; whnf) ?_)
          refine ev_q rfl (q_move (by conv => lhs; whnf) ?_)
          refine ev_q rfl (q_move (by conv => lhs; whnf) ?_)
          refine ev_q rfl (q_int rfl rfl ?_)
          intro b54 hb54; cases b54
          · replace hb54 := neF hb54
            refine ev_q rfl (q_pickF rfl (by conv => lhs; whnf) ?_)
            refine ev_q rfl (q_move (by conv => lhs; whnf) ?_)
            refine ev_q rfl (q_move (by conv => lhs; whnf) ?_)
            refine ev_q rfl (q_int rfl rfl ?_)
            intro b55 hb55; cases b55
            · replace hb55 := neF hb55
              refine ev_q rfl (q_pickF rfl (by conv => lhs; whnf) ?_)
              refine ev_q rfl (q_move (by conv => lhs; whnf) ?_)
              refine ev_q rfl (q_move (by conv => lhs; whnf) ?_)
              refine ev_q rfl (q_int rfl rfl ?_)
              intro b56 hb56; cases b56
              · replace hb56 := neF hb56
                refine ev_q rfl (q_pickF rfl (by conv => lhs; whnf) ?_)
                refine ev_q rfl (q_move (by conv => lhs; whnf) ?_)
                refine ev_q rfl (q_move (by conv => lhs; whnf) ?_)
                refine ev_q rfl (q_move (by conv => lhs; whnf) ?_)
                refine ev_q rfl (q_int rfl rfl ?_)
                intro b57 hb57; cases b57
                · replace hb57 := neF hb57
                  refine ev_q rfl (q_pickF rfl (by conv => lhs; whnf) ?_)
                  refine ev_q rfl (q_move (by conv => lhs; whnf) ?_)
                  refine ev_q rfl (q_move (by conv => lhs; whnf) ?_)
                  refine ev_q rfl (q_move (by conv => lhs; whnf) ?_)
                  refine ev_q rfl (q_int rfl rfl ?_)
                  intro b58 hb58; cases b58
                  · replace hb58 := neF hb58
                    refine ev_q rfl (q_pickF rfl (by conv => lhs; whnf) ?_)
                    refine ev_q rfl (q_move (by conv => lhs; whnf) ?_)
                    refine ev_q rfl (q_move (by conv => lhs; whnf) ?_)
                    refine ev_q rfl (q_len tEs44 rfl ?_)
                    intro n59 hn59
                    try simp only [List.length_map] at hn59
                    refine ev_q rfl (q_move (by conv => lhs; whnf) ?_)
                    refine ev_q rfl (q_len tEs44 rfl ?_)
                    intro n60 hn60
                    try simp only [List.length_map] at hn60
                    refine ev_q rfl (q_int rfl rfl ?_)
                    intro b61 hb61; cases b61
                    · replace hb61 := dF hb61
                      refine ev_q rfl (q_pickF rfl (by conv => lhs; whnf) ?_)
                      refine ev_q rfl (q_move (by conv => lhs; whnf) ?_)
                      refine ev_q rfl (q_move (by conv => lhs; whnf) ?_)
                      refine ev_q rfl (q_not rfl rfl ?_)
                      refine ev_q rfl (q_pickF rfl (by conv => lhs; whnf) ?_)
                      refine ev_q rfl (q_move (by conv => lhs; whnf) ?_)
                      refine ev_q rfl (q_move (by conv => lhs; whnf) ?_)
                      refine ev_q rfl (q_move (by conv => lhs; whnf) ?_)
                      refine ev_q rfl (q_callB rfl rfl (rfl) (D_spec_SameWave w6 w6 (by omega) (by omega)) ?_)
                      intro b62 hb62; cases b62
                      · first | replace hb62 := dF hb62 | skip
                        refine ev_q rfl (q_not rfl rfl ?_)
                        refine ev_q rfl (q_pickF rfl (by conv => lhs; whnf) ?_)
                        refine ev_q rfl (q_move (by conv => lhs; whnf) ?_)
                        refine ev_skip rfl ?_
                        refine ev_skip rfl ?_
                        refine ev_skip rfl ?_
                        refine ev_q rfl (q_pickT rfl (by conv => lhs; whnf) ?_)
                        refine ev_nil (hK51 _ ?_); clear hK51
                        refine good_condT rfl ?_
                        refine good_seq fun K63 hK63 => ?_
                        refine good_region rfl ?_
                        refine ev_q rfl (q_assign (by conv => lhs; whnf) ?_)
                        refine ev_nil (hK63 _ ?_); clear hK63
                        refine good_ret ?_
                        repeat (first | refine thenQ_ret ?_ | refine blockQ_ret ?_)
                        refine ret_tmp (st := _) rfl (by conv => lhs; whnf) rfl ?_
                        clear hK50
                        first | rfl | (exfalso; first | omega | (exact absurd rfl (by assumption)) | (exact absurd hlo (by assumption)) | contradiction)
                      · first | replace hb62 := dT hb62 | skip
                        refine ev_q rfl (q_not rfl rfl ?_)
                        refine ev_q rfl (q_pickF rfl (by conv => lhs; whnf) ?_)
                        refine ev_q rfl (q_move (by conv => lhs; whnf) ?_)
                        refine ev_q rfl (q_move (by conv => lhs; whnf) ?_)
                        refine ev_q rfl (q_callB rfl rfl (rfl) (D_spec_ValidWave (lw8 w6 n8 n10) (by have := hlo.1; omega)) ?_)
                        intro b64 hb64; cases b64
                        · first | replace hb64 := dF hb64 | skip
                          refine ev_q rfl (q_not rfl rfl ?_)
                          refine ev_q rfl (q_pickF rfl (by conv => lhs; whnf) ?_)
                          refine ev_nil (hK51 _ ?_); clear hK51
                          refine good_condT rfl ?_
                          refine good_seq fun K65 hK65 => ?_
                          refine good_region rfl ?_
                          refine ev_q rfl (q_assign (by conv => lhs; whnf) ?_)
                          refine ev_nil (hK65 _ ?_); clear hK65
                          refine good_ret ?_
                          repeat (first | refine thenQ_ret ?_ | refine blockQ_ret ?_)
                          refine ret_tmp (st := _) rfl (by conv => lhs; whnf) rfl ?_
                          clear hK50
                          first | rfl | (exfalso; first | omega | (exact absurd rfl (by assumption)) | (exact absurd hlo (by assumption)) | contradiction)
                        · first | replace hb64 := dT hb64 | skip
                          refine ev_q rfl (q_not rfl rfl ?_)
                          refine ev_q rfl (q_pickF rfl (by conv => lhs; whnf) ?_)
                          refine ev_nil (hK51 _ ?_); clear hK51
                          refine good_condF rfl ?_
                          refine good_skip (hK50 _ ?_); clear hK50
                          refine good_seq fun K66 hK66 => ?_
                          refine good_seq fun K67 hK67 => ?_
                          refine good_region rfl ?_
                          refine ev_q rfl (q_move (by conv => lhs; whnf) ?_)
                          refine ev_q rfl (q_int rfl rfl ?_)
                          intro b68 hb68; cases b68
                          · replace hb68 := dF hb68
                            refine ev_nil (hK67 _ ?_); clear hK67
                            refine good_condF rfl ?_
                            refine good_skip (hK66 _ ?_); clear hK66
                            refine good_seq fun K69 hK69 => ?_
                            refine good_region rfl ?_
                            refine ev_q rfl (q_move (by conv => lhs; whnf) ?_)
                            refine ev_q rfl (q_call rfl rfl (rfl) (W_rg hok) rfl ?_)
                            refine ev_q rfl (q_move (by conv => lhs; whnf) ?_)
                            refine ev_q rfl (q_extractI rfl rfl ?_)
                            intro n70 hn70
                            refine ev_q rfl (q_extractI rfl rfl ?_)
                            intro n71 hn71
                            have hrg := at_rg hok (t := n12) (by omega)
                            have hh8 := hi8 hok h8
                            refine ev_q rfl (q_extractI rfl rfl ?_)
                            intro n72 hn72
                            refine ev_q rfl (q_assign (by conv => lhs; whnf) ?_)
                            refine ev_q rfl (q_assign (by conv => lhs; whnf) ?_)
                            refine ev_q rfl (q_assign (by conv => lhs; whnf) ?_)
                            refine ev_nil (hK69 _ ?_); clear hK69
                            refine good_seq fun K73 hK73 => ?_
                            refine good_region rfl ?_
                            refine ev_q rfl (q_move (by conv => lhs; whnf) ?_)
                            refine ev_q rfl (q_move (by conv => lhs; whnf) ?_)
                            refine ev_q rfl (q_move (by conv => lhs; whnf) ?_)
                            refine ev_q rfl (q_int rfl rfl ?_)
                            intro n74 hn74
                            replace hn74 := in64 hn74 (by omega) (by omega)
                            refine ev_q rfl (q_call rfl rfl (rfl) (W_mo hok (by omega)) rfl ?_)
                            refine ev_q rfl (q_move (by conv => lhs; whnf) ?_)
                            refine ev_q rfl (q_extractI rfl rfl ?_)
                            intro n75 hn75
                            rw [hn74, mean_one hok (by omega)] at hn75
                            refine ev_q rfl (q_extractI rfl rfl ?_)
                            intro n76 hn76
                            refine ev_q rfl (q_assign (by conv => lhs; whnf) ?_)
                            refine ev_q rfl (q_assign (by conv => lhs; whnf) ?_)
                            refine ev_nil (hK73 _ ?_); clear hK73
                            refine good_seq fun K77 hK77 => ?_
                            refine good_region rfl ?_
                            refine ev_q rfl (q_move (by conv => lhs; whnf) ?_)
                            refine ev_q rfl (q_move (by conv => lhs; whnf) ?_)
                            refine ev_q rfl (q_int rfl rfl ?_)
                            intro n78 hn78
                            replace hn78 := in64 hn78 (by omega) (by omega)
                            refine ev_q rfl (q_call rfl rfl (rfl) (W_mo hok (by omega)) rfl ?_)
                            refine ev_q rfl (q_move (by conv => lhs; whnf) ?_)
                            refine ev_q rfl (q_extractI rfl rfl ?_)
                            intro n79 hn79
                            have hwm := mean_all hok (u := n78) (by omega)
                            rw [← hn79] at hwm
                            refine ev_q rfl (q_extractI rfl rfl ?_)
                            intro n80 hn80
                            refine ev_q rfl (q_assign (by conv => lhs; whnf) ?_)
                            refine ev_q rfl (q_assign (by conv => lhs; whnf) ?_)
                            refine ev_nil (hK77 _ ?_); clear hK77
                            refine good_seq fun K81 hK81 => ?_
                            refine good_region rfl ?_
                            refine ev_q rfl (q_move (by conv => lhs; whnf) ?_)
                            refine ev_q rfl (q_move (by conv => lhs; whnf) ?_)
                            refine ev_q rfl (q_call rfl rfl (rfl) (W_fw hok (by omega)) rfl ?_)
                            refine ev_q rfl (q_move (by conv => lhs; whnf) ?_)
                            refine ev_q rfl (q_extractI rfl rfl ?_)
                            intro n82 hn82
                            rw [hn71] at hn82
                            have hww := warm_hi hok
                            refine ev_q rfl (q_extractI rfl rfl ?_)
                            intro n83 hn83
                            rw [hn71] at hn83
                            refine ev_q rfl (q_assign (by conv => lhs; whnf) ?_)
                            refine ev_q rfl (q_assign (by conv => lhs; whnf) ?_)
                            refine ev_nil (hK81 _ ?_); clear hK81
                            refine good_seq fun K84 hK84 => ?_
                            refine good_seq fun K85 hK85 => ?_
                            refine good_region rfl ?_
                            refine ev_q rfl (q_move (by conv => lhs; whnf) ?_)
                            refine ev_q rfl (q_int rfl rfl ?_)
                            intro b86 hb86; cases b86
                            · replace hb86 := neF hb86
                              refine ev_q rfl (q_move (by conv => lhs; whnf) ?_)
                              refine ev_q rfl (q_move (by conv => lhs; whnf) ?_)
                              refine ev_q rfl (q_move (by conv => lhs; whnf) ?_)
                              refine ev_q rfl (q_int rfl rfl ?_)
                              intro b87 hb87; cases b87
                              · replace hb87 := dF hb87
                                refine ev_q rfl (q_pickF rfl (by conv => lhs; whnf) ?_)
                                refine ev_q rfl (q_move (by conv => lhs; whnf) ?_)
                                refine ev_q rfl (q_move (by conv => lhs; whnf) ?_)
                                refine ev_q rfl (q_move (by conv => lhs; whnf) ?_)
                                refine ev_q rfl (q_int rfl rfl ?_)
                                intro b88 hb88; cases b88
                                · replace hb88 := dF hb88
                                  refine ev_q rfl (q_pickF rfl (by conv => lhs; whnf) ?_)
                                  refine ev_q rfl (q_move (by conv => lhs; whnf) ?_)
                                  refine ev_q rfl (q_move (by conv => lhs; whnf) ?_)
                                  refine ev_q rfl (q_int rfl rfl ?_)
                                  intro b89 hb89; cases b89
                                  · replace hb89 := neF hb89
                                    refine ev_q rfl (q_pickF rfl (by conv => lhs; whnf) ?_)
                                    refine ev_q rfl (q_move (by conv => lhs; whnf) ?_)
                                    refine ev_q rfl (q_move (by conv => lhs; whnf) ?_)
                                    refine ev_q rfl (q_move (by conv => lhs; whnf) ?_)
                                    refine ev_q rfl (q_int rfl rfl ?_)
                                    intro b90 hb90; cases b90
                                    · replace hb90 := neF hb90
                                      refine ev_q rfl (q_pickF rfl (by conv => lhs; whnf) ?_)
                                      refine ev_q rfl (q_move (by conv => lhs; whnf) ?_)
                                      refine ev_q rfl (q_move (by conv => lhs; whnf) ?_)
                                      refine ev_q rfl (q_int rfl rfl ?_)
                                      intro b91 hb91; cases b91
                                      · replace hb91 := neF hb91
                                        refine ev_q rfl (q_pickF rfl (by conv => lhs; whnf) ?_)
                                        refine ev_q rfl (q_move (by conv => lhs; whnf) ?_)
                                        refine ev_q rfl (q_move (by conv => lhs; whnf) ?_)
                                        refine ev_q rfl (q_move (by conv => lhs; whnf) ?_)
                                        refine ev_q rfl (q_int rfl rfl ?_)
                                        intro b92 hb92; cases b92
                                        · replace hb92 := dF hb92
                                          refine ev_q rfl (q_pickF rfl (by conv => lhs; whnf) ?_)
                                          refine ev_q rfl (q_move (by conv => lhs; whnf) ?_)
                                          refine ev_q rfl (q_move (by conv => lhs; whnf) ?_)
                                          refine ev_q rfl (q_move (by conv => lhs; whnf) ?_)
                                          refine ev_q rfl (q_int rfl rfl ?_)
                                          intro b93 hb93; cases b93
                                          · replace hb93 := dF hb93
                                            refine ev_q rfl (q_pickF rfl (by conv => lhs; whnf) ?_)
                                            refine ev_q rfl (q_move (by conv => lhs; whnf) ?_)
                                            refine ev_q rfl (q_move (by conv => lhs; whnf) ?_)
                                            refine ev_q rfl (q_int rfl rfl ?_)
                                            intro b94 hb94; cases b94
                                            · replace hb94 := neF hb94
                                              refine ev_q rfl (q_pickF rfl (by conv => lhs; whnf) ?_)
                                              refine ev_nil (hK85 _ ?_); clear hK85
                                              refine good_condF rfl ?_
                                              refine good_skip (hK84 _ ?_); clear hK84
                                              refine good_seq fun K95 hK95 => ?_
                                              refine good_region rfl ?_
                                              refine ev_q rfl (q_move (by conv => lhs; whnf) ?_)
                                              refine ev_q rfl (q_move (by conv => lhs; whnf) ?_)
                                              refine ev_q rfl (q_call rfl rfl (rfl) (W_at2 hok (by omega)) rfl ?_)
                                              refine ev_q rfl (q_move (by conv => lhs; whnf) ?_)
                                              refine ev_q rfl (q_extractI rfl rfl ?_)
                                              intro n96 hn96
                                              rw [hn82, hww.2.2] at hn96
                                              refine ev_q rfl (q_extractI rfl rfl ?_)
                                              intro n97 hn97
                                              refine ev_q rfl (q_assign (by conv => lhs; whnf) ?_)
                                              refine ev_q rfl (q_assign (by conv => lhs; whnf) ?_)
                                              refine ev_nil (hK95 _ ?_); clear hK95
                                              refine good_seq fun K98 hK98 => ?_
                                              refine good_region rfl ?_
                                              refine ev_q rfl (q_move (by conv => lhs; whnf) ?_)
                                              refine ev_q rfl (q_move (by conv => lhs; whnf) ?_)
                                              refine ev_q rfl (q_int rfl rfl ?_)
                                              intro n99 hn99
                                              replace hn99 := in64 hn99 (by omega) (by omega)
                                              refine ev_q rfl (q_call rfl rfl (rfl) (W_fw hok (by omega)) rfl ?_)
                                              refine ev_q rfl (q_move (by conv => lhs; whnf) ?_)
                                              refine ev_q rfl (q_extractI rfl rfl ?_)
                                              intro n100 hn100
                                              refine ev_q rfl (q_extractI rfl rfl ?_)
                                              intro n101 hn101
                                              rw [hn99, hn71, warm_no hok] at hn101
                                              refine ev_q rfl (q_assign (by conv => lhs; whnf) ?_)
                                              refine ev_q rfl (q_assign (by conv => lhs; whnf) ?_)
                                              refine ev_nil (hK98 _ ?_); clear hK98
                                              refine good_seq fun K102 hK102 => ?_
                                              refine good_region rfl ?_
                                              refine ev_q rfl (q_move (by conv => lhs; whnf) ?_)
                                              refine ev_q rfl (q_int rfl rfl ?_)
                                              intro b103 hb103; cases b103
                                              · replace hb103 := eqF hb103
                                                refine ev_q rfl (q_move (by conv => lhs; whnf) ?_)
                                                refine ev_skip rfl ?_
                                                refine ev_skip rfl ?_
                                                refine ev_skip rfl ?_
                                                refine ev_q rfl (q_pickF rfl (by conv => lhs; whnf) ?_)
                                                refine ev_q rfl (q_move (by conv => lhs; whnf) ?_)
                                                refine ev_skip rfl ?_
                                                refine ev_skip rfl ?_
                                                refine ev_q rfl (q_pickF rfl (by conv => lhs; whnf) ?_)
                                                refine ev_q rfl (q_assign (by conv => lhs; whnf) ?_)
                                                refine ev_nil (hK102 _ ?_); clear hK102
                                                refine good_ret ?_
                                                repeat (first | refine thenQ_ret ?_ | refine blockQ_ret ?_)
                                                refine ret_tmp (st := _) rfl (by conv => lhs; whnf) rfl ?_
                                                first | rfl | (exfalso; first | omega | (exact absurd rfl (by assumption)) | (exact absurd hlo (by assumption)) | contradiction)
                                              · replace hb103 := eqT hb103
                                                refine ev_q rfl (q_move (by conv => lhs; whnf) ?_)
                                                refine ev_q rfl (q_move (by conv => lhs; whnf) ?_)
                                                refine ev_q rfl (q_move (by conv => lhs; whnf) ?_)
                                                refine ev_q rfl (q_int rfl rfl ?_)
                                                intro b104 hb104; cases b104
                                                · replace hb104 := eqF hb104
                                                  refine ev_q rfl (q_pickT rfl (by conv => lhs; whnf) ?_)
                                                  refine ev_q rfl (q_move (by conv => lhs; whnf) ?_)
                                                  refine ev_skip rfl ?_
                                                  refine ev_skip rfl ?_
                                                  refine ev_q rfl (q_pickF rfl (by conv => lhs; whnf) ?_)
                                                  refine ev_q rfl (q_assign (by conv => lhs; whnf) ?_)
                                                  refine ev_nil (hK102 _ ?_); clear hK102
                                                  refine good_ret ?_
                                                  repeat (first | refine thenQ_ret ?_ | refine blockQ_ret ?_)
                                                  refine ret_tmp (st := _) rfl (by conv => lhs; whnf) rfl ?_
                                                  first | rfl | (exfalso; first | omega | (exact absurd rfl (by assumption)) | (exact absurd hlo (by assumption)) | contradiction)
                                                · replace hb104 := eqT hb104
                                                  refine ev_q rfl (q_pickT rfl (by conv => lhs; whnf) ?_)
                                                  refine ev_q rfl (q_move (by conv => lhs; whnf) ?_)
                                                  refine ev_q rfl (q_move (by conv => lhs; whnf) ?_)
                                                  refine ev_q rfl (q_int rfl rfl ?_)
                                                  intro b105 hb105; cases b105
                                                  · replace hb105 := eqF hb105
                                                    refine ev_q rfl (q_pickT rfl (by conv => lhs; whnf) ?_)
                                                    refine ev_q rfl (q_assign (by conv => lhs; whnf) ?_)
                                                    refine ev_nil (hK102 _ ?_); clear hK102
                                                    refine good_ret ?_
                                                    repeat (first | refine thenQ_ret ?_ | refine blockQ_ret ?_)
                                                    refine ret_tmp (st := _) rfl (by conv => lhs; whnf) rfl ?_
                                                    first | rfl | (exfalso; first | omega | (exact absurd rfl (by assumption)) | (exact absurd hlo (by assumption)) | contradiction)
                                                  · replace hb105 := eqT hb105
                                                    refine ev_q rfl (q_pickT rfl (by conv => lhs; whnf) ?_)
                                                    refine ev_q rfl (q_assign (by conv => lhs; whnf) ?_)
                                                    refine ev_nil (hK102 _ ?_); clear hK102
                                                    refine good_ret ?_
                                                    repeat (first | refine thenQ_ret ?_ | refine blockQ_ret ?_)
                                                    refine ret_tmp (st := _) rfl (by conv => lhs; whnf) rfl ?_
                                                    first | rfl | (exfalso; first | omega | (exact absurd rfl (by assumption)) | (exact absurd hlo (by assumption)) | contradiction)
                                            · replace hb94 := neT hb94
                                              refine ev_q rfl (q_pickF rfl (by conv => lhs; whnf) ?_)
                                              refine ev_nil (hK85 _ ?_); clear hK85
                                              refine good_condT rfl ?_
                                              refine good_seq fun K106 hK106 => ?_
                                              refine good_region rfl ?_
                                              refine ev_q rfl (q_assign (by conv => lhs; whnf) ?_)
                                              refine ev_nil (hK106 _ ?_); clear hK106
                                              refine good_ret ?_
                                              repeat (first | refine thenQ_ret ?_ | refine blockQ_ret ?_)
                                              refine ret_tmp (st := _) rfl (by conv => lhs; whnf) rfl ?_
                                              clear hK84
                                              first | rfl | (exfalso; first | omega | (exact absurd rfl (by assumption)) | (exact absurd hlo (by assumption)) | contradiction)
                                          · replace hb93 := dT hb93
                                            refine ev_q rfl (q_pickF rfl (by conv => lhs; whnf) ?_)
                                            refine ev_q rfl (q_move (by conv => lhs; whnf) ?_)
                                            refine ev_skip rfl ?_
                                            refine ev_skip rfl ?_
                                            refine ev_q rfl (q_pickT rfl (by conv => lhs; whnf) ?_)
                                            refine ev_nil (hK85 _ ?_); clear hK85
                                            refine good_condT rfl ?_
                                            refine good_seq fun K107 hK107 => ?_
                                            refine good_region rfl ?_
                                            refine ev_q rfl (q_assign (by conv => lhs; whnf) ?_)
                                            refine ev_nil (hK107 _ ?_); clear hK107
                                            refine good_ret ?_
                                            repeat (first | refine thenQ_ret ?_ | refine blockQ_ret ?_)
                                            refine ret_tmp (st := _) rfl (by conv => lhs; whnf) rfl ?_
                                            clear hK84
                                            first | rfl | (exfalso; first | omega | (exact absurd rfl (by assumption)) | (exact absurd hlo (by assumption)) | contradiction)
                                        · replace hb92 := dT hb92
                                          refine ev_q rfl (q_pickF rfl (by conv => lhs; whnf) ?_)
                                          refine ev_q rfl (q_move (by conv => lhs; whnf) ?_)
                                          refine ev_skip rfl ?_
                                          refine ev_skip rfl ?_
                                          refine ev_skip rfl ?_
                                          refine ev_q rfl (q_pickT rfl (by conv => lhs; whnf) ?_)
                                          refine ev_q rfl (q_move (by conv => lhs; whnf) ?_)
                                          refine ev_skip rfl ?_
                                          refine ev_skip rfl ?_
                                          refine ev_q rfl (q_pickT rfl (by conv => lhs; whnf) ?_)
                                          refine ev_nil (hK85 _ ?_); clear hK85
                                          refine good_condT rfl ?_
                                          refine good_seq fun K108 hK108 => ?_
                                          refine good_region rfl ?_
                                          refine ev_q rfl (q_assign (by conv => lhs; whnf) ?_)
                                          refine ev_nil (hK108 _ ?_); clear hK108
                                          refine good_ret ?_
                                          repeat (first | refine thenQ_ret ?_ | refine blockQ_ret ?_)
                                          refine ret_tmp (st := _) rfl (by conv => lhs; whnf) rfl ?_
                                          clear hK84
                                          first | rfl | (exfalso; first | omega | (exact absurd rfl (by assumption)) | (exact absurd hlo (by assumption)) | contradiction)
                                      · replace hb91 := neT hb91
                                        refine ev_q rfl (q_pickF rfl (by conv => lhs; whnf) ?_)
                                        refine ev_q rfl (q_move (by conv => lhs; whnf) ?_)
                                        refine ev_skip rfl ?_
                                        refine ev_skip rfl ?_
                                        refine ev_skip rfl ?_
                                        refine ev_q rfl (q_pickT rfl (by conv => lhs; whnf) ?_)
                                        refine ev_q rfl (q_move (by conv => lhs; whnf) ?_)
                                        refine ev_skip rfl ?_
                                        refine ev_skip rfl ?_
                                        refine ev_skip rfl ?_
                                        refine ev_q rfl (q_pickT rfl (by conv => lhs; whnf) ?_)
                                        refine ev_q rfl (q_move (by conv => lhs; whnf) ?_)
                                        refine ev_skip rfl ?_
                                        refine ev_skip rfl ?_
                                        refine ev_q rfl (q_pickT rfl (by conv => lhs; whnf) ?_)
                                        refine ev_nil (hK85 _ ?_); clear hK85
                                        refine good_condT rfl ?_
                                        refine good_seq fun K109 hK109 => ?_
                                        refine good_region rfl ?_
                                        refine ev_q rfl (q_assign (by conv => lhs; whnf) ?_)
                                        refine ev_nil (hK109 _ ?_); clear hK109
                                        refine good_ret ?_
                                        repeat (first | refine thenQ_ret ?_ | refine blockQ_ret ?_)
                                        refine ret_tmp (st := _) rfl (by conv => lhs; whnf) rfl ?_
                                        clear hK84
                                        first | rfl | (exfalso; first | omega | (exact absurd rfl (by assumption)) | (exact absurd hlo (by assumption)) | contradiction)
                                    · replace hb90 := neT hb90
                                      refine ev_q rfl (q_pickF rfl (by conv => lhs; whnf) ?_)
                                      refine ev_q rfl (q_move (by conv => lhs; whnf) ?_)
                                      refine ev_skip rfl ?_
                                      refine ev_skip rfl ?_
                                      refine ev_q rfl (q_pickT rfl (by conv => lhs; whnf) ?_)
                                      refine ev_q rfl (q_move (by conv => lhs; whnf) ?_)
                                      refine ev_skip rfl ?_
                                      refine ev_skip rfl ?_
                                      refine ev_skip rfl ?_
                                      refine ev_q rfl (q_pickT rfl (by conv => lhs; whnf) ?_)
                                      refine ev_q rfl (q_move (by conv => lhs; whnf) ?_)
                                      refine ev_skip rfl ?_
                                      refine ev_skip rfl ?_
                                      refine ev_skip rfl ?_
                                      refine ev_q rfl (q_pickT rfl (by conv => lhs; whnf) ?_)
                                      refine ev_q rfl (q_move (by conv => lhs; whnf) ?_)
                                      refine ev_skip rfl ?_
                                      refine ev_skip rfl ?_
                                      refine ev_q rfl (q_pickT rfl (by conv => lhs; whnf) ?_)
                                      refine ev_nil (hK85 _ ?_); clear hK85
                                      refine good_condT rfl ?_
                                      refine good_seq fun K110 hK110 => ?_
                                      refine good_region rfl ?_
                                      refine ev_q rfl (q_assign (by conv => lhs; whnf) ?_)
                                      refine ev_nil (hK110 _ ?_); clear hK110
                                      refine good_ret ?_
                                      repeat (first | refine thenQ_ret ?_ | refine blockQ_ret ?_)
                                      refine ret_tmp (st := _) rfl (by conv => lhs; whnf) rfl ?_
                                      clear hK84
                                      first | rfl | (exfalso; first | omega | (exact absurd rfl (by assumption)) | (exact absurd hlo (by assumption)) | contradiction)
                                  · replace hb89 := neT hb89
                                    refine ev_q rfl (q_pickF rfl (by conv => lhs; whnf) ?_)
                                    refine ev_q rfl (q_move (by conv => lhs; whnf) ?_)
                                    refine ev_skip rfl ?_
                                    refine ev_skip rfl ?_
                                    refine ev_skip rfl ?_
                                    refine ev_q rfl (q_pickT rfl (by conv => lhs; whnf) ?_)
                                    refine ev_q rfl (q_move (by conv => lhs; whnf) ?_)
                                    refine ev_skip rfl ?_
                                    refine ev_skip rfl ?_
                                    refine ev_q rfl (q_pickT rfl (by conv => lhs; whnf) ?_)
                                    refine ev_q rfl (q_move (by conv => lhs; whnf) ?_)
                                    refine ev_skip rfl ?_
                                    refine ev_skip rfl ?_
                                    refine ev_skip rfl ?_
                                    refine ev_q rfl (q_pickT rfl (by conv => lhs; whnf) ?_)
                                    refine ev_q rfl (q_move (by conv => lhs; whnf) ?_)
                                    refine ev_skip rfl ?_
                                    refine ev_skip rfl ?_
                                    refine ev_skip rfl ?_
                                    refine ev_q rfl (q_pickT rfl (by conv => lhs; whnf) ?_)
                                    refine ev_q rfl (q_move (by conv => lhs; whnf) ?_)
                                    refine ev_skip rfl ?_
                                    refine ev_skip rfl ?_
                                    refine ev_q rfl (q_pickT rfl (by conv => lhs; whnf) ?_)
                                    refine ev_nil (hK85 _ ?_); clear hK85
                                    refine good_condT rfl ?_
                                    refine good_seq fun K111 hK111 => ?_
                                    refine good_region rfl ?_
                                    refine ev_q rfl (q_assign (by conv => lhs; whnf) ?_)
                                    refine ev_nil (hK111 _ ?_); clear hK111
                                    refine good_ret ?_
                                    repeat (first | refine thenQ_ret ?_ | refine blockQ_ret ?_)
                                    refine ret_tmp (st := _) rfl (by conv => lhs; whnf) rfl ?_
                                    clear hK84
                                    first | rfl | (exfalso; first | omega | (exact absurd rfl (by assumption)) | (exact absurd hlo (by assumption)) | contradiction)
                                · replace hb88 := dT hb88
                                  refine ev_q rfl (q_pickF rfl (by conv => lhs; whnf) ?_)
                                  refine ev_q rfl (q_move (by conv => lhs; whnf) ?_)
                                  refine ev_skip rfl ?_
                                  refine ev_skip rfl ?_
                                  refine ev_q rfl (q_pickT rfl (by conv => lhs; whnf) ?_)
                                  refine ev_q rfl (q_move (by conv => lhs; whnf) ?_)
                                  refine ev_skip rfl ?_
                                  refine ev_skip rfl ?_
                                  refine ev_skip rfl ?_
                                  refine ev_q rfl (q_pickT rfl (by conv => lhs; whnf) ?_)
                                  refine ev_q rfl (q_move (by conv => lhs; whnf) ?_)
                                  refine ev_skip rfl ?_
                                  refine ev_skip rfl ?_
                                  refine ev_q rfl (q_pickT rfl (by conv => lhs; whnf) ?_)
                                  refine ev_q rfl (q_move (by conv => lhs; whnf) ?_)
                                  refine ev_skip rfl ?_
                                  refine ev_skip rfl ?_
                                  refine ev_skip rfl ?_
                                  refine ev_q rfl (q_pickT rfl (by conv => lhs; whnf) ?_)
                                  refine ev_q rfl (q_move (by conv => lhs; whnf) ?_)
                                  refine ev_skip rfl ?_
                                  refine ev_skip rfl ?_
                                  refine ev_skip rfl ?_
                                  refine ev_q rfl (q_pickT rfl (by conv => lhs; whnf) ?_)
                                  refine ev_q rfl (q_move (by conv => lhs; whnf) ?_)
                                  refine ev_skip rfl ?_
                                  refine ev_skip rfl ?_
                                  refine ev_q rfl (q_pickT rfl (by conv => lhs; whnf) ?_)
                                  refine ev_nil (hK85 _ ?_); clear hK85
                                  refine good_condT rfl ?_
                                  refine good_seq fun K112 hK112 => ?_
                                  refine good_region rfl ?_
                                  refine ev_q rfl (q_assign (by conv => lhs; whnf) ?_)
                                  refine ev_nil (hK112 _ ?_); clear hK112
                                  refine good_ret ?_
                                  repeat (first | refine thenQ_ret ?_ | refine blockQ_ret ?_)
                                  refine ret_tmp (st := _) rfl (by conv => lhs; whnf) rfl ?_
                                  clear hK84
                                  first | rfl | (exfalso; first | omega | (exact absurd rfl (by assumption)) | (exact absurd hlo (by assumption)) | contradiction)
                              · replace hb87 := dT hb87
                                refine ev_q rfl (q_pickF rfl (by conv => lhs; whnf) ?_)
                                refine ev_q rfl (q_move (by conv => lhs; whnf) ?_)
                                refine ev_skip rfl ?_
                                refine ev_skip rfl ?_
                                refine ev_skip rfl ?_
                                refine ev_q rfl (q_pickT rfl (by conv => lhs; whnf) ?_)
                                refine ev_q rfl (q_move (by conv => lhs; whnf) ?_)
                                refine ev_skip rfl ?_
                                refine ev_skip rfl ?_
                                refine ev_q rfl (q_pickT rfl (by conv => lhs; whnf) ?_)
                                refine ev_q rfl (q_move (by conv => lhs; whnf) ?_)
                                refine ev_skip rfl ?_
                                refine ev_skip rfl ?_
                                refine ev_skip rfl ?_
                                refine ev_q rfl (q_pickT rfl (by conv => lhs; whnf) ?_)
                                refine ev_q rfl (q_move (by conv => lhs; whnf) ?_)
                                refine ev_skip rfl ?_
                                refine ev_skip rfl ?_
                                refine ev_q rfl (q_pickT rfl (by conv => lhs; whnf) ?_)
                                refine ev_q rfl (q_move (by conv => lhs; whnf) ?_)
                                refine ev_skip rfl ?_
                                refine ev_skip rfl ?_
                                refine ev_skip rfl ?_
                                refine ev_q rfl (q_pickT rfl (by conv => lhs; whnf) ?_)
                                refine ev_q rfl (q_move (by conv => lhs; whnf) ?_)
                                refine ev_skip rfl ?_
                                refine ev_skip rfl ?_
                                refine ev_skip rfl ?_
                                refine ev_q rfl (q_pickT rfl (by conv => lhs; whnf) ?_)
                                refine ev_q rfl (q_move (by conv => lhs; whnf) ?_)
                                refine ev_skip rfl ?_
                                refine ev_skip rfl ?_
                                refine ev_q rfl (q_pickT rfl (by conv => lhs; whnf) ?_)
                                refine ev_nil (hK85 _ ?_); clear hK85
                                refine good_condT rfl ?_
                                refine good_seq fun K113 hK113 => ?_
                                refine good_region rfl ?_
                                refine ev_q rfl (q_assign (by conv => lhs; whnf) ?_)
                                refine ev_nil (hK113 _ ?_); clear hK113
                                refine good_ret ?_
                                repeat (first | refine thenQ_ret ?_ | refine blockQ_ret ?_)
                                refine ret_tmp (st := _) rfl (by conv => lhs; whnf) rfl ?_
                                clear hK84
                                first | rfl | (exfalso; first | omega | (exact absurd rfl (by assumption)) | (exact absurd hlo (by assumption)) | contradiction)
                            · replace hb86 := neT hb86
                              refine ev_q rfl (q_move (by conv => lhs; whnf) ?_)
                              refine ev_skip rfl ?_
                              refine ev_skip rfl ?_
                              refine ev_skip rfl ?_
                              refine ev_q rfl (q_pickT rfl (by conv => lhs; whnf) ?_)
                              refine ev_q rfl (q_move (by conv => lhs; whnf) ?_)
                              refine ev_skip rfl ?_
                              refine ev_skip rfl ?_
                              refine ev_skip rfl ?_
                              refine ev_q rfl (q_pickT rfl (by conv => lhs; whnf) ?_)
                              refine ev_q rfl (q_move (by conv => lhs; whnf) ?_)
                              refine ev_skip rfl ?_
                              refine ev_skip rfl ?_
                              refine ev_q rfl (q_pickT rfl (by conv => lhs; whnf) ?_)
                              refine ev_q rfl (q_move (by conv => lhs; whnf) ?_)
                              refine ev_skip rfl ?_
                              refine ev_skip rfl ?_
                              refine ev_skip rfl ?_
                              refine ev_q rfl (q_pickT rfl (by conv => lhs; whnf) ?_)
                              refine ev_q rfl (q_move (by conv => lhs; whnf) ?_)
                              refine ev_skip rfl ?_
                              refine ev_skip rfl ?_
                              refine ev_q rfl (q_pickT rfl (by conv => lhs; whnf) ?_)
                              refine ev_q rfl (q_move (by conv => lhs; whnf) ?_)
                              refine ev_skip rfl ?_
                              refine ev_skip rfl ?_
                              refine ev_skip rfl ?_
                              refine ev_q rfl (q_pickT rfl (by conv => lhs; whnf) ?_)
                              refine ev_q rfl (q_move (by conv => lhs; whnf) ?_)
                              refine ev_skip rfl ?_
                              refine ev_skip rfl ?_
                              refine ev_skip rfl ?_
                              refine ev_q rfl (q_pickT rfl (by conv => lhs; whnf) ?_)
                              refine ev_q rfl (q_move (by conv => lhs; whnf) ?_)
                              refine ev_skip rfl ?_
                              refine ev_skip rfl ?_
                              refine ev_q rfl (q_pickT rfl (by conv => lhs; whnf) ?_)
                              refine ev_nil (hK85 _ ?_); clear hK85
                              refine good_condT rfl ?_
                              refine good_seq fun K114 hK114 => ?_
                              refine good_region rfl ?_
                              refine ev_q rfl (q_assign (by conv => lhs; whnf) ?_)
                              refine ev_nil (hK114 _ ?_); clear hK114
                              refine good_ret ?_
                              repeat (first | refine thenQ_ret ?_ | refine blockQ_ret ?_)
                              refine ret_tmp (st := _) rfl (by conv => lhs; whnf) rfl ?_
                              clear hK84
                              first | rfl | (exfalso; first | omega | (exact absurd rfl (by assumption)) | (exact absurd hlo (by assumption)) | contradiction)
                          · replace hb68 := dT hb68
                            refine ev_nil (hK67 _ ?_); clear hK67
                            refine good_condT rfl ?_
                            refine good_seq fun K115 hK115 => ?_
                            refine good_region rfl ?_
                            refine ev_q rfl (q_move (by conv => lhs; whnf) ?_)
                            refine ev_q rfl (q_move (by conv => lhs; whnf) ?_)
                            refine ev_q rfl (q_int rfl rfl ?_)
                            intro n116 hn116
                            replace hn116 := in64 hn116 (by omega) (by omega)
                            refine ev_q rfl (q_call rfl rfl (rfl) (W_at hlo (by omega)) rfl ?_)
                            refine ev_q rfl (q_move (by conv => lhs; whnf) ?_)
                            refine ev_q rfl (q_extractI rfl rfl ?_)
                            intro n117 hn117
                            rw [hn116, lw8_be hok h8 (by omega) (by omega) (by omega)] at hn117
                            refine ev_q rfl (q_extractI rfl rfl ?_)
                            intro n118 hn118
                            refine ev_q rfl (q_assign (by conv => lhs; whnf) ?_)
                            refine ev_q rfl (q_assign (by conv => lhs; whnf) ?_)
                            refine ev_nil (hK115 _ ?_); clear hK115
                            refine good_seq fun K119 hK119 => ?_
                            refine good_region rfl ?_
                            refine ev_q rfl (q_move (by conv => lhs; whnf) ?_)
                            refine ev_q rfl (q_int rfl rfl ?_)
                            intro b120 hb120; cases b120
                            · replace hb120 := neF hb120
                              refine ev_q rfl (q_move (by conv => lhs; whnf) ?_)
                              refine ev_q rfl (q_move (by conv => lhs; whnf) ?_)
                              refine ev_q rfl (q_move (by conv => lhs; whnf) ?_)
                              refine ev_q rfl (q_int rfl rfl ?_)
                              intro b121 hb121; cases b121
                              · replace hb121 := neF hb121
                                refine ev_q rfl (q_pickF rfl (by conv => lhs; whnf) ?_)
                                refine ev_nil (hK119 _ ?_); clear hK119
                                refine good_condF rfl ?_
                                refine good_skip (hK66 _ ?_); clear hK66
                                refine good_seq fun K122 hK122 => ?_
                                refine good_region rfl ?_
                                refine ev_q rfl (q_move (by conv => lhs; whnf) ?_)
                                refine ev_q rfl (q_call rfl rfl (rfl) (W_rg hok) rfl ?_)
                                refine ev_q rfl (q_move (by conv => lhs; whnf) ?_)
                                refine ev_q rfl (q_extractI rfl rfl ?_)
                                intro n123 hn123
                                refine ev_q rfl (q_extractI rfl rfl ?_)
                                intro n124 hn124
                                have hrg := at_rg hok (t := n12) (by omega)
                                have hh8 := hi8 hok h8
                                refine ev_q rfl (q_extractI rfl rfl ?_)
                                intro n125 hn125
                                refine ev_q rfl (q_assign (by conv => lhs; whnf) ?_)
                                refine ev_q rfl (q_assign (by conv => lhs; whnf) ?_)
                                refine ev_q rfl (q_assign (by conv => lhs; whnf) ?_)
                                refine ev_nil (hK122 _ ?_); clear hK122
                                refine good_seq fun K126 hK126 => ?_
                                refine good_region rfl ?_
                                refine ev_q rfl (q_move (by conv => lhs; whnf) ?_)
                                refine ev_q rfl (q_move (by conv => lhs; whnf) ?_)
                                refine ev_q rfl (q_move (by conv => lhs; whnf) ?_)
                                refine ev_q rfl (q_int rfl rfl ?_)
                                intro n127 hn127
                                replace hn127 := in64 hn127 (by omega) (by omega)
                                refine ev_q rfl (q_call rfl rfl (rfl) (W_mo hok (by omega)) rfl ?_)
                                refine ev_q rfl (q_move (by conv => lhs; whnf) ?_)
                                refine ev_q rfl (q_extractI rfl rfl ?_)
                                intro n128 hn128
                                rw [hn127, mean_one hok (by omega)] at hn128
                                refine ev_q rfl (q_extractI rfl rfl ?_)
                                intro n129 hn129
                                refine ev_q rfl (q_assign (by conv => lhs; whnf) ?_)
                                refine ev_q rfl (q_assign (by conv => lhs; whnf) ?_)
                                refine ev_nil (hK126 _ ?_); clear hK126
                                refine good_seq fun K130 hK130 => ?_
                                refine good_region rfl ?_
                                refine ev_q rfl (q_move (by conv => lhs; whnf) ?_)
                                refine ev_q rfl (q_move (by conv => lhs; whnf) ?_)
                                refine ev_q rfl (q_int rfl rfl ?_)
                                intro n131 hn131
                                replace hn131 := in64 hn131 (by omega) (by omega)
                                refine ev_q rfl (q_call rfl rfl (rfl) (W_mo hok (by omega)) rfl ?_)
                                refine ev_q rfl (q_move (by conv => lhs; whnf) ?_)
                                refine ev_q rfl (q_extractI rfl rfl ?_)
                                intro n132 hn132
                                have hwm := mean_all hok (u := n131) (by omega)
                                rw [← hn132] at hwm
                                refine ev_q rfl (q_extractI rfl rfl ?_)
                                intro n133 hn133
                                refine ev_q rfl (q_assign (by conv => lhs; whnf) ?_)
                                refine ev_q rfl (q_assign (by conv => lhs; whnf) ?_)
                                refine ev_nil (hK130 _ ?_); clear hK130
                                refine good_seq fun K134 hK134 => ?_
                                refine good_region rfl ?_
                                refine ev_q rfl (q_move (by conv => lhs; whnf) ?_)
                                refine ev_q rfl (q_move (by conv => lhs; whnf) ?_)
                                refine ev_q rfl (q_call rfl rfl (rfl) (W_fw hok (by omega)) rfl ?_)
                                refine ev_q rfl (q_move (by conv => lhs; whnf) ?_)
                                refine ev_q rfl (q_extractI rfl rfl ?_)
                                intro n135 hn135
                                rw [hn124] at hn135
                                have hww := warm_hi hok
                                refine ev_q rfl (q_extractI rfl rfl ?_)
                                intro n136 hn136
                                rw [hn124] at hn136
                                refine ev_q rfl (q_assign (by conv => lhs; whnf) ?_)
                                refine ev_q rfl (q_assign (by conv => lhs; whnf) ?_)
                                refine ev_nil (hK134 _ ?_); clear hK134
                                refine good_seq fun K137 hK137 => ?_
                                refine good_seq fun K138 hK138 => ?_
                                refine good_region rfl ?_
                                refine ev_q rfl (q_move (by conv => lhs; whnf) ?_)
                                refine ev_q rfl (q_int rfl rfl ?_)
                                intro b139 hb139; cases b139
                                · replace hb139 := neF hb139
                                  refine ev_q rfl (q_move (by conv => lhs; whnf) ?_)
                                  refine ev_q rfl (q_move (by conv => lhs; whnf) ?_)
                                  refine ev_q rfl (q_move (by conv => lhs; whnf) ?_)
                                  refine ev_q rfl (q_int rfl rfl ?_)
                                  intro b140 hb140; cases b140
                                  · replace hb140 := dF hb140
                                    refine ev_q rfl (q_pickF rfl (by conv => lhs; whnf) ?_)
                                    refine ev_q rfl (q_move (by conv => lhs; whnf) ?_)
                                    refine ev_q rfl (q_move (by conv => lhs; whnf) ?_)
                                    refine ev_q rfl (q_move (by conv => lhs; whnf) ?_)
                                    refine ev_q rfl (q_int rfl rfl ?_)
                                    intro b141 hb141; cases b141
                                    · replace hb141 := dF hb141
                                      refine ev_q rfl (q_pickF rfl (by conv => lhs; whnf) ?_)
                                      refine ev_q rfl (q_move (by conv => lhs; whnf) ?_)
                                      refine ev_q rfl (q_move (by conv => lhs; whnf) ?_)
                                      refine ev_q rfl (q_int rfl rfl ?_)
                                      intro b142 hb142; cases b142
                                      · replace hb142 := neF hb142
                                        refine ev_q rfl (q_pickF rfl (by conv => lhs; whnf) ?_)
                                        refine ev_q rfl (q_move (by conv => lhs; whnf) ?_)
                                        refine ev_q rfl (q_move (by conv => lhs; whnf) ?_)
                                        refine ev_q rfl (q_move (by conv => lhs; whnf) ?_)
                                        refine ev_q rfl (q_int rfl rfl ?_)
                                        intro b143 hb143; cases b143
                                        · replace hb143 := neF hb143
                                          refine ev_q rfl (q_pickF rfl (by conv => lhs; whnf) ?_)
                                          refine ev_q rfl (q_move (by conv => lhs; whnf) ?_)
                                          refine ev_q rfl (q_move (by conv => lhs; whnf) ?_)
                                          refine ev_q rfl (q_int rfl rfl ?_)
                                          intro b144 hb144; cases b144
                                          · replace hb144 := neF hb144
                                            refine ev_q rfl (q_pickF rfl (by conv => lhs; whnf) ?_)
                                            refine ev_q rfl (q_move (by conv => lhs; whnf) ?_)
                                            refine ev_q rfl (q_move (by conv => lhs; whnf) ?_)
                                            refine ev_q rfl (q_move (by conv => lhs; whnf) ?_)
                                            refine ev_q rfl (q_int rfl rfl ?_)
                                            intro b145 hb145; cases b145
                                            · replace hb145 := dF hb145
                                              refine ev_q rfl (q_pickF rfl (by conv => lhs; whnf) ?_)
                                              refine ev_q rfl (q_move (by conv => lhs; whnf) ?_)
                                              refine ev_q rfl (q_move (by conv => lhs; whnf) ?_)
                                              refine ev_q rfl (q_move (by conv => lhs; whnf) ?_)
                                              refine ev_q rfl (q_int rfl rfl ?_)
                                              intro b146 hb146; cases b146
                                              · replace hb146 := dF hb146
                                                refine ev_q rfl (q_pickF rfl (by conv => lhs; whnf) ?_)
                                                refine ev_q rfl (q_move (by conv => lhs; whnf) ?_)
                                                refine ev_q rfl (q_move (by conv => lhs; whnf) ?_)
                                                refine ev_q rfl (q_int rfl rfl ?_)
                                                intro b147 hb147; cases b147
                                                · replace hb147 := neF hb147
                                                  refine ev_q rfl (q_pickF rfl (by conv => lhs; whnf) ?_)
                                                  refine ev_nil (hK138 _ ?_); clear hK138
                                                  refine good_condF rfl ?_
                                                  refine good_skip (hK137 _ ?_); clear hK137
                                                  refine good_seq fun K148 hK148 => ?_
                                                  refine good_region rfl ?_
                                                  refine ev_q rfl (q_move (by conv => lhs; whnf) ?_)
                                                  refine ev_q rfl (q_move (by conv => lhs; whnf) ?_)
                                                  refine ev_q rfl (q_call rfl rfl (rfl) (W_at2 hok (by omega)) rfl ?_)
                                                  refine ev_q rfl (q_move (by conv => lhs; whnf) ?_)
                                                  refine ev_q rfl (q_extractI rfl rfl ?_)
                                                  intro n149 hn149
                                                  rw [hn135, hww.2.2] at hn149
                                                  refine ev_q rfl (q_extractI rfl rfl ?_)
                                                  intro n150 hn150
                                                  refine ev_q rfl (q_assign (by conv => lhs; whnf) ?_)
                                                  refine ev_q rfl (q_assign (by conv => lhs; whnf) ?_)
                                                  refine ev_nil (hK148 _ ?_); clear hK148
                                                  refine good_seq fun K151 hK151 => ?_
                                                  refine good_region rfl ?_
                                                  refine ev_q rfl (q_move (by conv => lhs; whnf) ?_)
                                                  refine ev_q rfl (q_move (by conv => lhs; whnf) ?_)
                                                  refine ev_q rfl (q_int rfl rfl ?_)
                                                  intro n152 hn152
                                                  replace hn152 := in64 hn152 (by omega) (by omega)
                                                  refine ev_q rfl (q_call rfl rfl (rfl) (W_fw hok (by omega)) rfl ?_)
                                                  refine ev_q rfl (q_move (by conv => lhs; whnf) ?_)
                                                  refine ev_q rfl (q_extractI rfl rfl ?_)
                                                  intro n153 hn153
                                                  refine ev_q rfl (q_extractI rfl rfl ?_)
                                                  intro n154 hn154
                                                  rw [hn152, hn124, warm_no hok] at hn154
                                                  refine ev_q rfl (q_assign (by conv => lhs; whnf) ?_)
                                                  refine ev_q rfl (q_assign (by conv => lhs; whnf) ?_)
                                                  refine ev_nil (hK151 _ ?_); clear hK151
                                                  refine good_seq fun K155 hK155 => ?_
                                                  refine good_region rfl ?_
                                                  refine ev_q rfl (q_move (by conv => lhs; whnf) ?_)
                                                  refine ev_q rfl (q_int rfl rfl ?_)
                                                  intro b156 hb156; cases b156
                                                  · replace hb156 := eqF hb156
                                                    refine ev_q rfl (q_move (by conv => lhs; whnf) ?_)
                                                    refine ev_skip rfl ?_
                                                    refine ev_skip rfl ?_
                                                    refine ev_skip rfl ?_
                                                    refine ev_q rfl (q_pickF rfl (by conv => lhs; whnf) ?_)
                                                    refine ev_q rfl (q_move (by conv => lhs; whnf) ?_)
                                                    refine ev_skip rfl ?_
                                                    refine ev_skip rfl ?_
                                                    refine ev_q rfl (q_pickF rfl (by conv => lhs; whnf) ?_)
                                                    refine ev_q rfl (q_assign (by conv => lhs; whnf) ?_)
                                                    refine ev_nil (hK155 _ ?_); clear hK155
                                                    refine good_ret ?_
                                                    repeat (first | refine thenQ_ret ?_ | refine blockQ_ret ?_)
                                                    refine ret_tmp (st := _) rfl (by conv => lhs; whnf) rfl ?_
                                                    first | rfl | (exfalso; first | omega | (exact absurd rfl (by assumption)) | (exact absurd hlo (by assumption)) | contradiction)
                                                  · replace hb156 := eqT hb156
                                                    refine ev_q rfl (q_move (by conv => lhs; whnf) ?_)
                                                    refine ev_q rfl (q_move (by conv => lhs; whnf) ?_)
                                                    refine ev_q rfl (q_move (by conv => lhs; whnf) ?_)
                                                    refine ev_q rfl (q_int rfl rfl ?_)
                                                    intro b157 hb157; cases b157
                                                    · replace hb157 := eqF hb157
                                                      refine ev_q rfl (q_pickT rfl (by conv => lhs; whnf) ?_)
                                                      refine ev_q rfl (q_move (by conv => lhs; whnf) ?_)
                                                      refine ev_skip rfl ?_
                                                      refine ev_skip rfl ?_
                                                      refine ev_q rfl (q_pickF rfl (by conv => lhs; whnf) ?_)
                                                      refine ev_q rfl (q_assign (by conv => lhs; whnf) ?_)
                                                      refine ev_nil (hK155 _ ?_); clear hK155
                                                      refine good_ret ?_
                                                      repeat (first | refine thenQ_ret ?_ | refine blockQ_ret ?_)
                                                      refine ret_tmp (st := _) rfl (by conv => lhs; whnf) rfl ?_
                                                      first | rfl | (exfalso; first | omega | (exact absurd rfl (by assumption)) | (exact absurd hlo (by assumption)) | contradiction)
                                                    · replace hb157 := eqT hb157
                                                      refine ev_q rfl (q_pickT rfl (by conv => lhs; whnf) ?_)
                                                      refine ev_q rfl (q_move (by conv => lhs; whnf) ?_)
                                                      refine ev_q rfl (q_move (by conv => lhs; whnf) ?_)
                                                      refine ev_q rfl (q_int rfl rfl ?_)
                                                      intro b158 hb158; cases b158
                                                      · replace hb158 := eqF hb158
                                                        refine ev_q rfl (q_pickT rfl (by conv => lhs; whnf) ?_)
                                                        refine ev_q rfl (q_assign (by conv => lhs; whnf) ?_)
                                                        refine ev_nil (hK155 _ ?_); clear hK155
                                                        refine good_ret ?_
                                                        repeat (first | refine thenQ_ret ?_ | refine blockQ_ret ?_)
                                                        refine ret_tmp (st := _) rfl (by conv => lhs; whnf) rfl ?_
                                                        first | rfl | (exfalso; first | omega | (exact absurd rfl (by assumption)) | (exact absurd hlo (by assumption)) | contradiction)
                                                      · replace hb158 := eqT hb158
                                                        refine ev_q rfl (q_pickT rfl (by conv => lhs; whnf) ?_)
                                                        refine ev_q rfl (q_assign (by conv => lhs; whnf) ?_)
                                                        refine ev_nil (hK155 _ ?_); clear hK155
                                                        refine good_ret ?_
                                                        repeat (first | refine thenQ_ret ?_ | refine blockQ_ret ?_)
                                                        refine ret_tmp (st := _) rfl (by conv => lhs; whnf) rfl ?_
                                                        first | rfl | (exfalso; first | omega | (exact absurd rfl (by assumption)) | (exact absurd hlo (by assumption)) | contradiction)
                                                · replace hb147 := neT hb147
                                                  refine ev_q rfl (q_pickF rfl (by conv => lhs; whnf) ?_)
                                                  refine ev_nil (hK138 _ ?_); clear hK138
                                                  refine good_condT rfl ?_
                                                  refine good_seq fun K159 hK159 => ?_
                                                  refine good_region rfl ?_
                                                  refine ev_q rfl (q_assign (by conv => lhs; whnf) ?_)
                                                  refine ev_nil (hK159 _ ?_); clear hK159
                                                  refine good_ret ?_
                                                  repeat (first | refine thenQ_ret ?_ | refine blockQ_ret ?_)
                                                  refine ret_tmp (st := _) rfl (by conv => lhs; whnf) rfl ?_
                                                  clear hK137
                                                  first | rfl | (exfalso; first | omega | (exact absurd rfl (by assumption)) | (exact absurd hlo (by assumption)) | contradiction)
                                              · replace hb146 := dT hb146
                                                refine ev_q rfl (q_pickF rfl (by conv => lhs; whnf) ?_)
                                                refine ev_q rfl (q_move (by conv => lhs; whnf) ?_)
                                                refine ev_skip rfl ?_
                                                refine ev_skip rfl ?_
                                                refine ev_q rfl (q_pickT rfl (by conv => lhs; whnf) ?_)
                                                refine ev_nil (hK138 _ ?_); clear hK138
                                                refine good_condT rfl ?_
                                                refine good_seq fun K160 hK160 => ?_
                                                refine good_region rfl ?_
                                                refine ev_q rfl (q_assign (by conv => lhs; whnf) ?_)
                                                refine ev_nil (hK160 _ ?_); clear hK160
                                                refine good_ret ?_
                                                repeat (first | refine thenQ_ret ?_ | refine blockQ_ret ?_)
                                                refine ret_tmp (st := _) rfl (by conv => lhs; whnf) rfl ?_
                                                clear hK137
                                                first | rfl | (exfalso; first | omega | (exact absurd rfl (by assumption)) | (exact absurd hlo (by assumption)) | contradiction)
                                            · replace hb145 := dT hb145
                                              refine ev_q rfl (q_pickF rfl (by conv => lhs; whnf) ?_)
                                              refine ev_q rfl (q_move (by conv => lhs; whnf) ?_)
                                              refine ev_skip rfl ?_
                                              refine ev_skip rfl ?_
                                              refine ev_skip rfl ?_
                                              refine ev_q rfl (q_pickT rfl (by conv => lhs; whnf) ?_)
                                              refine ev_q rfl (q_move (by conv => lhs; whnf) ?_)
                                              refine ev_skip rfl ?_
                                              refine ev_skip rfl ?_
                                              refine ev_q rfl (q_pickT rfl (by conv => lhs; whnf) ?_)
                                              refine ev_nil (hK138 _ ?_); clear hK138
                                              refine good_condT rfl ?_
                                              refine good_seq fun K161 hK161 => ?_
                                              refine good_region rfl ?_
                                              refine ev_q rfl (q_assign (by conv => lhs; whnf) ?_)
                                              refine ev_nil (hK161 _ ?_); clear hK161
                                              refine good_ret ?_
                                              repeat (first | refine thenQ_ret ?_ | refine blockQ_ret ?_)
                                              refine ret_tmp (st := _) rfl (by conv => lhs; whnf) rfl ?_
                                              clear hK137
                                              first | rfl | (exfalso; first | omega | (exact absurd rfl (by assumption)) | (exact absurd hlo (by assumption)) | contradiction)
                                          · replace hb144 := neT hb144
                                            refine ev_q rfl (q_pickF rfl (by conv => lhs; whnf) ?_)
                                            refine ev_q rfl (q_move (by conv => lhs; whnf) ?_)
                                            refine ev_skip rfl ?_
                                            refine ev_skip rfl ?_
                                            refine ev_skip rfl ?_
                                            refine ev_q rfl (q_pickT rfl (by conv => lhs; whnf) ?_)
                                            refine ev_q rfl (q_move (by conv => lhs; whnf) ?_)
                                            refine ev_skip rfl ?_
                                            refine ev_skip rfl ?_
                                            refine ev_skip rfl ?_
                                            refine ev_q rfl (q_pickT rfl (by conv => lhs; whnf) ?_)
                                            refine ev_q rfl (q_move (by conv => lhs; whnf) ?_)
                                            refine ev_skip rfl ?_
                                            refine ev_skip rfl ?_
                                            refine ev_q rfl (q_pickT rfl (by conv => lhs; whnf) ?_)
                                            refine ev_nil (hK138 _ ?_); clear hK138
                                            refine good_condT rfl ?_
                                            refine good_seq fun K162 hK162 => ?_
                                            refine good_region rfl ?_
                                            refine ev_q rfl (q_assign (by conv => lhs; whnf) ?_)
                                            refine ev_nil (hK162 _ ?_); clear hK162
                                            refine good_ret ?_
                                            repeat (first | refine thenQ_ret ?_ | refine blockQ_ret ?_)
                                            refine ret_tmp (st := _) rfl (by conv => lhs; whnf) rfl ?_
                                            clear hK137
                                            first | rfl | (exfalso; first | omega | (exact absurd rfl (by assumption)) | (exact absurd hlo (by assumption)) | contradiction)
                                        · replace hb143 := neT hb143
                                          refine ev_q rfl (q_pickF rfl (by conv => lhs; whnf) ?_)
                                          refine ev_q rfl (q_move (by conv => lhs; whnf) ?_)
                                          refine ev_skip rfl ?_
                                          refine ev_skip rfl ?_
                                          refine ev_q rfl (q_pickT rfl (by conv => lhs; whnf) ?_)
                                          refine ev_q rfl (q_move (by conv => lhs; whnf) ?_)
                                          refine ev_skip rfl ?_
                                          refine ev_skip rfl ?_
                                          refine ev_skip rfl ?_
                                          refine ev_q rfl (q_pickT rfl (by conv => lhs; whnf) ?_)
                                          refine ev_q rfl (q_move (by conv => lhs; whnf) ?_)
                                          refine ev_skip rfl ?_
                                          refine ev_skip rfl ?_
                                          refine ev_skip rfl ?_
                                          refine ev_q rfl (q_pickT rfl (by conv => lhs; whnf) ?_)
                                          refine ev_q rfl (q_move (by conv => lhs; whnf) ?_)
                                          refine ev_skip rfl ?_
                                          refine ev_skip rfl ?_
                                          refine ev_q rfl (q_pickT rfl (by conv => lhs; whnf) ?_)
                                          refine ev_nil (hK138 _ ?_); clear hK138
                                          refine good_condT rfl ?_
                                          refine good_seq fun K163 hK163 => ?_
                                          refine good_region rfl ?_
                                          refine ev_q rfl (q_assign (by conv => lhs; whnf) ?_)
                                          refine ev_nil (hK163 _ ?_); clear hK163
                                          refine good_ret ?_
                                          repeat (first | refine thenQ_ret ?_ | refine blockQ_ret ?_)
                                          refine ret_tmp (st := _) rfl (by conv => lhs; whnf) rfl ?_
                                          clear hK137
                                          first | rfl | (exfalso; first | omega | (exact absurd rfl (by assumption)) | (exact absurd hlo (by assumption)) | contradiction)
                                      · replace hb142 := neT hb142
                                        refine ev_q rfl (q_pickF rfl (by conv => lhs; whnf) ?_)
                                        refine ev_q rfl (q_move (by conv => lhs; whnf) ?_)
                                        refine ev_skip rfl ?_
                                        refine ev_skip rfl ?_
                                        refine ev_skip rfl ?_
                                        refine ev_q rfl (q_pickT rfl (by conv => lhs; whnf) ?_)
                                        refine ev_q rfl (q_move (by conv => lhs; whnf) ?_)
                                        refine ev_skip rfl ?_
                                        refine ev_skip rfl ?_
                                        refine ev_q rfl (q_pickT rfl (by conv => lhs; whnf) ?_)
                                        refine ev_q rfl (q_move (by conv => lhs; whnf) ?_)
                                        refine ev_skip rfl ?_
                                        refine ev_skip rfl ?_
                                        refine ev_skip rfl ?_
                                        refine ev_q rfl (q_pickT rfl (by conv => lhs; whnf) ?_)
                                        refine ev_q rfl (q_move (by conv => lhs; whnf) ?_)
                                        refine ev_skip rfl ?_
                                        refine ev_skip rfl ?_
                                        refine ev_skip rfl ?_
                                        refine ev_q rfl (q_pickT rfl (by conv => lhs; whnf) ?_)
                                        refine ev_q rfl (q_move (by conv => lhs; whnf) ?_)
                                        refine ev_skip rfl ?_
                                        refine ev_skip rfl ?_
                                        refine ev_q rfl (q_pickT rfl (by conv => lhs; whnf) ?_)
                                        refine ev_nil (hK138 _ ?_); clear hK138
                                        refine good_condT rfl ?_
                                        refine good_seq fun K164 hK164 => ?_
                                        refine good_region rfl ?_
                                        refine ev_q rfl (q_assign (by conv => lhs; whnf) ?_)
                                        refine ev_nil (hK164 _ ?_); clear hK164
                                        refine good_ret ?_
                                        repeat (first | refine thenQ_ret ?_ | refine blockQ_ret ?_)
                                        refine ret_tmp (st := _) rfl (by conv => lhs; whnf) rfl ?_
                                        clear hK137
                                        first | rfl | (exfalso; first | omega | (exact absurd rfl (by assumption)) | (exact absurd hlo (by assumption)) | contradiction)
                                    · replace hb141 := dT hb141
                                      refine ev_q rfl (q_pickF rfl (by conv => lhs; whnf) ?_)
                                      refine ev_q rfl (q_move (by conv => lhs; whnf) ?_)
                                      refine ev_skip rfl ?_
                                      refine ev_skip rfl ?_
                                      refine ev_q rfl (q_pickT rfl (by conv => lhs; whnf) ?_)
                                      refine ev_q rfl (q_move (by conv => lhs; whnf) ?_)
                                      refine ev_skip rfl ?_
                                      refine ev_skip rfl ?_
                                      refine ev_skip rfl ?_
                                      refine ev_q rfl (q_pickT rfl (by conv => lhs; whnf) ?_)
                                      refine ev_q rfl (q_move (by conv => lhs; whnf) ?_)
                                      refine ev_skip rfl ?_
                                      refine ev_skip rfl ?_
                                      refine ev_q rfl (q_pickT rfl (by conv => lhs; whnf) ?_)
                                      refine ev_q rfl (q_move (by conv => lhs; whnf) ?_)
                                      refine ev_skip rfl ?_
                                      refine ev_skip rfl ?_
                                      refine ev_skip rfl ?_
                                      refine ev_q rfl (q_pickT rfl (by conv => lhs; whnf) ?_)
                                      refine ev_q rfl (q_move (by conv => lhs; whnf) ?_)
                                      refine ev_skip rfl ?_
                                      refine ev_skip rfl ?_
                                      refine ev_skip rfl ?_
                                      refine ev_q rfl (q_pickT rfl (by conv => lhs; whnf) ?_)
                                      refine ev_q rfl (q_move (by conv => lhs; whnf) ?_)
                                      refine ev_skip rfl ?_
                                      refine ev_skip rfl ?_
                                      refine ev_q rfl (q_pickT rfl (by conv => lhs; whnf) ?_)
                                      refine ev_nil (hK138 _ ?_); clear hK138
                                      refine good_condT rfl ?_
                                      refine good_seq fun K165 hK165 => ?_
                                      refine good_region rfl ?_
                                      refine ev_q rfl (q_assign (by conv => lhs; whnf) ?_)
                                      refine ev_nil (hK165 _ ?_); clear hK165
                                      refine good_ret ?_
                                      repeat (first | refine thenQ_ret ?_ | refine blockQ_ret ?_)
                                      refine ret_tmp (st := _) rfl (by conv => lhs; whnf) rfl ?_
                                      clear hK137
                                      first | rfl | (exfalso; first | omega | (exact absurd rfl (by assumption)) | (exact absurd hlo (by assumption)) | contradiction)
                                  · replace hb140 := dT hb140
                                    refine ev_q rfl (q_pickF rfl (by conv => lhs; whnf) ?_)
                                    refine ev_q rfl (q_move (by conv => lhs; whnf) ?_)
                                    refine ev_skip rfl ?_
                                    refine ev_skip rfl ?_
                                    refine ev_skip rfl ?_
                                    refine ev_q rfl (q_pickT rfl (by conv => lhs; whnf) ?_)
                                    refine ev_q rfl (q_move (by conv => lhs; whnf) ?_)
                                    refine ev_skip rfl ?_
                                    refine ev_skip rfl ?_
                                    refine ev_q rfl (q_pickT rfl (by conv => lhs; whnf) ?_)
                                    refine ev_q rfl (q_move (by conv => lhs; whnf) ?_)
                                    refine ev_skip rfl ?_
                                    refine ev_skip rfl ?_
                                    refine ev_skip rfl ?_
                                    refine ev_q rfl (q_pickT rfl (by conv => lhs; whnf) ?_)
                                    refine ev_q rfl (q_move (by conv => lhs; whnf) ?_)
                                    refine ev_skip rfl ?_
                                    refine ev_skip rfl ?_
                                    refine ev_q rfl (q_pickT rfl (by conv => lhs; whnf) ?_)
                                    refine ev_q rfl (q_move (by conv => lhs; whnf) ?_)
                                    refine ev_skip rfl ?_
                                    refine ev_skip rfl ?_
                                    refine ev_skip rfl ?_
                                    refine ev_q rfl (q_pickT rfl (by conv => lhs; whnf) ?_)
                                    refine ev_q rfl (q_move (by conv => lhs; whnf) ?_)
                                    refine ev_skip rfl ?_
                                    refine ev_skip rfl ?_
                                    refine ev_skip rfl ?_
                                    refine ev_q rfl (q_pickT rfl (by conv => lhs; whnf) ?_)
                                    refine ev_q rfl (q_move (by conv => lhs; whnf) ?_)
                                    refine ev_skip rfl ?_
                                    refine ev_skip rfl ?_
                                    refine ev_q rfl (q_pickT rfl (by conv => lhs; whnf) ?_)
                                    refine ev_nil (hK138 _ ?_); clear hK138
                                    refine good_condT rfl ?_
                                    refine good_seq fun K166 hK166 => ?_
                                    refine good_region rfl ?_
                                    refine ev_q rfl (q_assign (by conv => lhs; whnf) ?_)
                                    refine ev_nil (hK166 _ ?_); clear hK166
                                    refine good_ret ?_
                                    repeat (first | refine thenQ_ret ?_ | refine blockQ_ret ?_)
                                    refine ret_tmp (st := _) rfl (by conv => lhs; whnf) rfl ?_
                                    clear hK137
                                    first | rfl | (exfalso; first | omega | (exact absurd rfl (by assumption)) | (exact absurd hlo (by assumption)) | contradiction)
                                · replace hb139 := neT hb139
                                  refine ev_q rfl (q_move (by conv => lhs; whnf) ?_)
                                  refine ev_skip rfl ?_
                                  refine ev_skip rfl ?_
                                  refine ev_skip rfl ?_
                                  refine ev_q rfl (q_pickT rfl (by conv => lhs; whnf) ?_)
                                  refine ev_q rfl (q_move (by conv => lhs; whnf) ?_)
                                  refine ev_skip rfl ?_
                                  refine ev_skip rfl ?_
                                  refine ev_skip rfl ?_
                                  refine ev_q rfl (q_pickT rfl (by conv => lhs; whnf) ?_)
                                  refine ev_q rfl (q_move (by conv => lhs; whnf) ?_)
                                  refine ev_skip rfl ?_
                                  refine ev_skip rfl ?_
                                  refine ev_q rfl (q_pickT rfl (by conv => lhs; whnf) ?_)
                                  refine ev_q rfl (q_move (by conv => lhs; whnf) ?_)
                                  refine ev_skip rfl ?_
                                  refine ev_skip rfl ?_
                                  refine ev_skip rfl ?_
                                  refine ev_q rfl (q_pickT rfl (by conv => lhs; whnf) ?_)
                                  refine ev_q rfl (q_move (by conv => lhs; whnf) ?_)
                                  refine ev_skip rfl ?_
                                  refine ev_skip rfl ?_
                                  refine ev_q rfl (q_pickT rfl (by conv => lhs; whnf) ?_)
                                  refine ev_q rfl (q_move (by conv => lhs; whnf) ?_)
                                  refine ev_skip rfl ?_
                                  refine ev_skip rfl ?_
                                  refine ev_skip rfl ?_
                                  refine ev_q rfl (q_pickT rfl (by conv => lhs; whnf) ?_)
                                  refine ev_q rfl (q_move (by conv => lhs; whnf) ?_)
                                  refine ev_skip rfl ?_
                                  refine ev_skip rfl ?_
                                  refine ev_skip rfl ?_
                                  refine ev_q rfl (q_pickT rfl (by conv => lhs; whnf) ?_)
                                  refine ev_q rfl (q_move (by conv => lhs; whnf) ?_)
                                  refine ev_skip rfl ?_
                                  refine ev_skip rfl ?_
                                  refine ev_q rfl (q_pickT rfl (by conv => lhs; whnf) ?_)
                                  refine ev_nil (hK138 _ ?_); clear hK138
                                  refine good_condT rfl ?_
                                  refine good_seq fun K167 hK167 => ?_
                                  refine good_region rfl ?_
                                  refine ev_q rfl (q_assign (by conv => lhs; whnf) ?_)
                                  refine ev_nil (hK167 _ ?_); clear hK167
                                  refine good_ret ?_
                                  repeat (first | refine thenQ_ret ?_ | refine blockQ_ret ?_)
                                  refine ret_tmp (st := _) rfl (by conv => lhs; whnf) rfl ?_
                                  clear hK137
                                  first | rfl | (exfalso; first | omega | (exact absurd rfl (by assumption)) | (exact absurd hlo (by assumption)) | contradiction)
                              · replace hb121 := neT hb121
                                refine ev_q rfl (q_pickF rfl (by conv => lhs; whnf) ?_)
                                refine ev_nil (hK119 _ ?_); clear hK119
                                refine good_condT rfl ?_
                                refine good_seq fun K168 hK168 => ?_
                                refine good_region rfl ?_
                                refine ev_q rfl (q_assign (by conv => lhs; whnf) ?_)
                                refine ev_nil (hK168 _ ?_); clear hK168
                                refine good_ret ?_
                                repeat (first | refine thenQ_ret ?_ | refine blockQ_ret ?_)
                                refine ret_tmp (st := _) rfl (by conv => lhs; whnf) rfl ?_
                                clear hK66
                                first | rfl | (exfalso; first | omega | (exact absurd rfl (by assumption)) | (exact absurd hlo (by assumption)) | contradiction)
                            · replace hb120 := neT hb120
                              refine ev_q rfl (q_move (by conv => lhs; whnf) ?_)
                              refine ev_skip rfl ?_
                              refine ev_skip rfl ?_
                              refine ev_skip rfl ?_
                              refine ev_q rfl (q_pickT rfl (by conv => lhs; whnf) ?_)
                              refine ev_nil (hK119 _ ?_); clear hK119
                              refine good_condT rfl ?_
                              refine good_seq fun K169 hK169 => ?_
                              refine good_region rfl ?_
                              refine ev_q rfl (q_assign (by conv => lhs; whnf) ?_)
                              refine ev_nil (hK169 _ ?_); clear hK169
                              refine good_ret ?_
                              repeat (first | refine thenQ_ret ?_ | refine blockQ_ret ?_)
                              refine ret_tmp (st := _) rfl (by conv => lhs; whnf) rfl ?_
                              clear hK66
                              first | rfl | (exfalso; first | omega | (exact absurd rfl (by assumption)) | (exact absurd hlo (by assumption)) | contradiction)
                    · replace hb61 := dT hb61
                      refine ev_q rfl (q_pickF rfl (by conv => lhs; whnf) ?_)
                      refine ev_q rfl (q_move (by conv => lhs; whnf) ?_)
                      refine ev_skip rfl ?_
                      refine ev_skip rfl ?_
                      refine ev_q rfl (q_pickT rfl (by conv => lhs; whnf) ?_)
                      refine ev_q rfl (q_move (by conv => lhs; whnf) ?_)
                      refine ev_skip rfl ?_
                      refine ev_skip rfl ?_
                      refine ev_skip rfl ?_
                      refine ev_skip rfl ?_
                      refine ev_q rfl (q_pickT rfl (by conv => lhs; whnf) ?_)
                      refine ev_q rfl (q_move (by conv => lhs; whnf) ?_)
                      refine ev_skip rfl ?_
                      refine ev_skip rfl ?_
                      refine ev_skip rfl ?_
                      refine ev_q rfl (q_pickT rfl (by conv => lhs; whnf) ?_)
                      refine ev_nil (hK51 _ ?_); clear hK51
                      refine good_condT rfl ?_
                      refine good_seq fun K170 hK170 => ?_
                      refine good_region rfl ?_
                      refine ev_q rfl (q_assign (by conv => lhs; whnf) ?_)
                      refine ev_nil (hK170 _ ?_); clear hK170
                      refine good_ret ?_
                      repeat (first | refine thenQ_ret ?_ | refine blockQ_ret ?_)
                      refine ret_tmp (st := _) rfl (by conv => lhs; whnf) rfl ?_
                      clear hK50
                      first | rfl | (exfalso; first | omega | (exact absurd rfl (by assumption)) | (exact absurd hlo (by assumption)) | contradiction)
                  · replace hb58 := neT hb58
                    refine ev_q rfl (q_pickF rfl (by conv => lhs; whnf) ?_)
                    refine ev_q rfl (q_move (by conv => lhs; whnf) ?_)
                    refine ev_skip rfl ?_
                    refine ev_skip rfl ?_
                    refine ev_skip rfl ?_
                    refine ev_skip rfl ?_
                    refine ev_skip rfl ?_
                    refine ev_q rfl (q_pickT rfl (by conv => lhs; whnf) ?_)
                    refine ev_q rfl (q_move (by conv => lhs; whnf) ?_)
                    refine ev_skip rfl ?_
                    refine ev_skip rfl ?_
                    refine ev_q rfl (q_pickT rfl (by conv => lhs; whnf) ?_)
                    refine ev_q rfl (q_move (by conv => lhs; whnf) ?_)
                    refine ev_skip rfl ?_
                    refine ev_skip rfl ?_
                    refine ev_skip rfl ?_
                    refine ev_skip rfl ?_
                    refine ev_q rfl (q_pickT rfl (by conv => lhs; whnf) ?_)
                    refine ev_q rfl (q_move (by conv => lhs; whnf) ?_)
                    refine ev_skip rfl ?_
                    refine ev_skip rfl ?_
                    refine ev_skip rfl ?_
                    refine ev_q rfl (q_pickT rfl (by conv => lhs; whnf) ?_)
                    refine ev_nil (hK51 _ ?_); clear hK51
                    refine good_condT rfl ?_
                    refine good_seq fun K171 hK171 => ?_
                    refine good_region rfl ?_
                    refine ev_q rfl (q_assign (by conv => lhs; whnf) ?_)
                    refine ev_nil (hK171 _ ?_); clear hK171
                    refine good_ret ?_
                    repeat (first | refine thenQ_ret ?_ | refine blockQ_ret ?_)
                    refine ret_tmp (st := _) rfl (by conv => lhs; whnf) rfl ?_
                    clear hK50
                    first | rfl | (exfalso; first | omega | (exact absurd rfl (by assumption)) | (exact absurd hlo (by assumption)) | contradiction)
                · replace hb57 := neT hb57
                  refine ev_q rfl (q_pickF rfl (by conv => lhs; whnf) ?_)
                  refine ev_q rfl (q_move (by conv => lhs; whnf) ?_)
                  refine ev_skip rfl ?_
                  refine ev_skip rfl ?_
                  refine ev_skip rfl ?_
                  refine ev_q rfl (q_pickT rfl (by conv => lhs; whnf) ?_)
                  refine ev_q rfl (q_move (by conv => lhs; whnf) ?_)
                  refine ev_skip rfl ?_
                  refine ev_skip rfl ?_
                  refine ev_skip rfl ?_
                  refine ev_skip rfl ?_
                  refine ev_skip rfl ?_
                  refine ev_q rfl (q_pickT rfl (by conv => lhs; whnf) ?_)
                  refine ev_q rfl (q_move (by conv => lhs; whnf) ?_)
                  refine ev_skip rfl ?_
                  refine ev_skip rfl ?_
                  refine ev_q rfl (q_pickT rfl (by conv => lhs; whnf) ?_)
                  refine ev_q rfl (q_move (by conv => lhs; whnf) ?_)
                  refine ev_skip rfl ?_
                  refine ev_skip rfl ?_
                  refine ev_skip rfl ?_
                  refine ev_skip rfl ?_
                  refine ev_q rfl (q_pickT rfl (by conv => lhs; whnf) ?_)
                  refine ev_q rfl (q_move (by conv => lhs; whnf) ?_)
                  refine ev_skip rfl ?_
                  refine ev_skip rfl ?_
                  refine ev_skip rfl ?_
                  refine ev_q rfl (q_pickT rfl (by conv => lhs; whnf) ?_)
                  refine ev_nil (hK51 _ ?_); clear hK51
                  refine good_condT rfl ?_
                  refine good_seq fun K172 hK172 => ?_
                  refine good_region rfl ?_
                  refine ev_q rfl (q_assign (by conv => lhs; whnf) ?_)
                  refine ev_nil (hK172 _ ?_); clear hK172
                  refine good_ret ?_
                  repeat (first | refine thenQ_ret ?_ | refine blockQ_ret ?_)
                  refine ret_tmp (st := _) rfl (by conv => lhs; whnf) rfl ?_
                  clear hK50
                  first | rfl | (exfalso; first | omega | (exact absurd rfl (by assumption)) | (exact absurd hlo (by assumption)) | contradiction)
              · replace hb56 := neT hb56
                refine ev_q rfl (q_pickF rfl (by conv => lhs; whnf) ?_)
                refine ev_q rfl (q_move (by conv => lhs; whnf) ?_)
                refine ev_skip rfl ?_
                refine ev_skip rfl ?_
                refine ev_skip rfl ?_
                refine ev_q rfl (q_pickT rfl (by conv => lhs; whnf) ?_)
                refine ev_q rfl (q_move (by conv => lhs; whnf) ?_)
                refine ev_skip rfl ?_
                refine ev_skip rfl ?_
                refine ev_skip rfl ?_
                refine ev_q rfl (q_pickT rfl (by conv => lhs; whnf) ?_)
                refine ev_q rfl (q_move (by conv => lhs; whnf) ?_)
                refine ev_skip rfl ?_
                refine ev_skip rfl ?_
                refine ev_skip rfl ?_
                refine ev_skip rfl ?_
                refine ev_skip rfl ?_
                refine ev_q rfl (q_pickT rfl (by conv => lhs; whnf) ?_)
                refine ev_q rfl (q_move (by conv => lhs; whnf) ?_)
                refine ev_skip rfl ?_
                refine ev_skip rfl ?_
                refine ev_q rfl (q_pickT rfl (by conv => lhs; whnf) ?_)
                refine ev_q rfl (q_move (by conv => lhs; whnf) ?_)
                refine ev_skip rfl ?_
                refine ev_skip rfl ?_
                refine ev_skip rfl ?_
                refine ev_skip rfl ?_
                refine ev_q rfl (q_pickT rfl (by conv => lhs; whnf) ?_)
                refine ev_q rfl (q_move (by conv => lhs; whnf) ?_)
                refine ev_skip rfl ?_
                refine ev_skip rfl ?_
                refine ev_skip rfl ?_
                refine ev_q rfl (q_pickT rfl (by conv => lhs; whnf) ?_)
                refine ev_nil (hK51 _ ?_); clear hK51
                refine good_condT rfl ?_
                refine good_seq fun K173 hK173 => ?_
                refine good_region rfl ?_
                refine ev_q rfl (q_assign (by conv => lhs; whnf) ?_)
                refine ev_nil (hK173 _ ?_); clear hK173
                refine good_ret ?_
                repeat (first | refine thenQ_ret ?_ | refine blockQ_ret ?_)
                refine ret_tmp (st := _) rfl (by conv => lhs; whnf) rfl ?_
                clear hK50
                first | rfl | (exfalso; first | omega | (exact absurd rfl (by assumption)) | (exact absurd hlo (by assumption)) | contradiction)
            · replace hb55 := neT hb55
              refine ev_q rfl (q_pickF rfl (by conv => lhs; whnf) ?_)
              refine ev_q rfl (q_move (by conv => lhs; whnf) ?_)
              refine ev_skip rfl ?_
              refine ev_skip rfl ?_
              refine ev_q rfl (q_pickT rfl (by conv => lhs; whnf) ?_)
              refine ev_q rfl (q_move (by conv => lhs; whnf) ?_)
              refine ev_skip rfl ?_
              refine ev_skip rfl ?_
              refine ev_skip rfl ?_
              refine ev_q rfl (q_pickT rfl (by conv => lhs; whnf) ?_)
              refine ev_q rfl (q_move (by conv => lhs; whnf) ?_)
              refine ev_skip rfl ?_
              refine ev_skip rfl ?_
              refine ev_skip rfl ?_
              refine ev_q rfl (q_pickT rfl (by conv => lhs; whnf) ?_)
              refine ev_q rfl (q_move (by conv => lhs; whnf) ?_)
              refine ev_skip rfl ?_
              refine ev_skip rfl ?_
              refine ev_skip rfl ?_
              refine ev_skip rfl ?_
              refine ev_skip rfl ?_
              refine ev_q rfl (q_pickT rfl (by conv => lhs; whnf) ?_)
              refine ev_q rfl (q_move (by conv => lhs; whnf) ?_)
              refine ev_skip rfl ?_
              refine ev_skip rfl ?_
              refine ev_q rfl (q_pickT rfl (by conv => lhs; whnf) ?_)
              refine ev_q rfl (q_move (by conv => lhs; whnf) ?_)
              refine ev_skip rfl ?_
              refine ev_skip rfl ?_
              refine ev_skip rfl ?_
              refine ev_skip rfl ?_
              refine ev_q rfl (q_pickT rfl (by conv => lhs; whnf) ?_)
              refine ev_q rfl (q_move (by conv => lhs; whnf) ?_)
              refine ev_skip rfl ?_
              refine ev_skip rfl ?_
              refine ev_skip rfl ?_
              refine ev_q rfl (q_pickT rfl (by conv => lhs; whnf) ?_)
              refine ev_nil (hK51 _ ?_); clear hK51
              refine good_condT rfl ?_
              refine good_seq fun K174 hK174 => ?_
              refine good_region rfl ?_
              refine ev_q rfl (q_assign (by conv => lhs; whnf) ?_)
              refine ev_nil (hK174 _ ?_); clear hK174
              refine good_ret ?_
              repeat (first | refine thenQ_ret ?_ | refine blockQ_ret ?_)
              refine ret_tmp (st := _) rfl (by conv => lhs; whnf) rfl ?_
              clear hK50
              first | rfl | (exfalso; first | omega | (exact absurd rfl (by assumption)) | (exact absurd hlo (by assumption)) | contradiction)
          · replace hb54 := neT hb54
            refine ev_q rfl (q_pickF rfl (by conv => lhs; whnf) ?_)
            refine ev_q rfl (q_move (by conv => lhs; whnf) ?_)
            refine ev_skip rfl ?_
            refine ev_skip rfl ?_
            refine ev_q rfl (q_pickT rfl (by conv => lhs; whnf) ?_)
            refine ev_q rfl (q_move (by conv => lhs; whnf) ?_)
            refine ev_skip rfl ?_
            refine ev_skip rfl ?_
            refine ev_q rfl (q_pickT rfl (by conv => lhs; whnf) ?_)
            refine ev_q rfl (q_move (by conv => lhs; whnf) ?_)
            refine ev_skip rfl ?_
            refine ev_skip rfl ?_
            refine ev_skip rfl ?_
            refine ev_q rfl (q_pickT rfl (by conv => lhs; whnf) ?_)
            refine ev_q rfl (q_move (by conv => lhs; whnf) ?_)
            refine ev_skip rfl ?_
            refine ev_skip rfl ?_
            refine ev_skip rfl ?_
            refine ev_q rfl (q_pickT rfl (by conv => lhs; whnf) ?_)
            refine ev_q rfl (q_move (by conv => lhs; whnf) ?_)
            refine ev_skip rfl ?_
            refine ev_skip rfl ?_
            refine ev_skip rfl ?_
            refine ev_skip rfl ?_
            refine ev_skip rfl ?_
            refine ev_q rfl (q_pickT rfl (by conv => lhs; whnf) ?_)
            refine ev_q rfl (q_move (by conv => lhs; whnf) ?_)
            refine ev_skip rfl ?_
            refine ev_skip rfl ?_
            refine ev_q rfl (q_pickT rfl (by conv => lhs; whnf) ?_)
            refine ev_q rfl (q_move (by conv => lhs; whnf) ?_)
            refine ev_skip rfl ?_
            refine ev_skip rfl ?_
            refine ev_skip rfl ?_
            refine ev_skip rfl ?_
            refine ev_q rfl (q_pickT rfl (by conv => lhs; whnf) ?_)
            refine ev_q rfl (q_move (by conv => lhs; whnf) ?_)
            refine ev_skip rfl ?_
            refine ev_skip rfl ?_
            refine ev_skip rfl ?_
            refine ev_q rfl (q_pickT rfl (by conv => lhs; whnf) ?_)
            refine ev_nil (hK51 _ ?_); clear hK51
            refine good_condT rfl ?_
            refine good_seq fun K175 hK175 => ?_
            refine good_region rfl ?_
            refine ev_q rfl (q_assign (by conv => lhs; whnf) ?_)
            refine ev_nil (hK175 _ ?_); clear hK175
            refine good_ret ?_
            repeat (first | refine thenQ_ret ?_ | refine blockQ_ret ?_)
            refine ret_tmp (st := _) rfl (by conv => lhs; whnf) rfl ?_
            clear hK50
            first | rfl | (exfalso; first | omega | (exact absurd rfl (by assumption)) | (exact absurd hlo (by assumption)) | contradiction)
        · replace hb53 := neT hb53
          refine ev_q rfl (q_pickF rfl (by conv => lhs; whnf) ?_)
          refine ev_q rfl (q_move (by conv => lhs; whnf) ?_)
          refine ev_skip rfl ?_
          refine ev_skip rfl ?_
          refine ev_q rfl (q_pickT rfl (by conv => lhs; whnf) ?_)
          refine ev_q rfl (q_move (by conv => lhs; whnf) ?_)
          refine ev_skip rfl ?_
          refine ev_skip rfl ?_
          refine ev_q rfl (q_pickT rfl (by conv => lhs; whnf) ?_)
          refine ev_q rfl (q_move (by conv => lhs; whnf) ?_)
          refine ev_skip rfl ?_
          refine ev_skip rfl ?_
          refine ev_q rfl (q_pickT rfl (by conv => lhs; whnf) ?_)
          refine ev_q rfl (q_move (by conv => lhs; whnf) ?_)
          refine ev_skip rfl ?_
          refine ev_skip rfl ?_
          refine ev_skip rfl ?_
          refine ev_q rfl (q_pickT rfl (by conv => lhs; whnf) ?_)
          refine ev_q rfl (q_move (by conv => lhs; whnf) ?_)
          refine ev_skip rfl ?_
          refine ev_skip rfl ?_
          refine ev_skip rfl ?_
          refine ev_q rfl (q_pickT rfl (by conv => lhs; whnf) ?_)
          refine ev_q rfl (q_move (by conv => lhs; whnf) ?_)
          refine ev_skip rfl ?_
          refine ev_skip rfl ?_
          refine ev_skip rfl ?_
          refine ev_skip rfl ?_
          refine ev_skip rfl ?_
          refine ev_q rfl (q_pickT rfl (by conv => lhs; whnf) ?_)
          refine ev_q rfl (q_move (by conv => lhs; whnf) ?_)
          refine ev_skip rfl ?_
          refine ev_skip rfl ?_
          refine ev_q rfl (q_pickT rfl (by conv => lhs; whnf) ?_)
          refine ev_q rfl (q_move (by conv => lhs; whnf) ?_)
          refine ev_skip rfl ?_
          refine ev_skip rfl ?_
          refine ev_skip rfl ?_
          refine ev_skip rfl ?_
          refine ev_q rfl (q_pickT rfl (by conv => lhs; whnf) ?_)
          refine ev_q rfl (q_move (by conv => lhs; whnf) ?_)
          refine ev_skip rfl ?_
          refine ev_skip rfl ?_
          refine ev_skip rfl ?_
          refine ev_q rfl (q_pickT rfl (by conv => lhs; whnf) ?_)
          refine ev_nil (hK51 _ ?_); clear hK51
          refine good_condT rfl ?_
          refine good_seq fun K176 hK176 => ?_
          refine good_region rfl ?_
          refine ev_q rfl (q_assign (by conv => lhs; whnf) ?_)
          refine ev_nil (hK176 _ ?_); clear hK176
          refine good_ret ?_
          repeat (first | refine thenQ_ret ?_ | refine blockQ_ret ?_)
          refine ret_tmp (st := _) rfl (by conv => lhs; whnf) rfl ?_
          clear hK50
          first | rfl | (exfalso; first | omega | (exact absurd rfl (by assumption)) | (exact absurd hlo (by assumption)) | contradiction)
      · replace hb52 := neT hb52
        refine ev_q rfl (q_move (by conv => lhs; whnf) ?_)
        refine ev_skip rfl ?_
        refine ev_skip rfl ?_
        refine ev_q rfl (q_pickT rfl (by conv => lhs; whnf) ?_)
        refine ev_q rfl (q_move (by conv => lhs; whnf) ?_)
        refine ev_skip rfl ?_
        refine ev_skip rfl ?_
        refine ev_q rfl (q_pickT rfl (by conv => lhs; whnf) ?_)
        refine ev_q rfl (q_move (by conv => lhs; whnf) ?_)
        refine ev_skip rfl ?_
        refine ev_skip rfl ?_
        refine ev_q rfl (q_pickT rfl (by conv => lhs; whnf) ?_)
        refine ev_q rfl (q_move (by conv => lhs; whnf) ?_)
        refine ev_skip rfl ?_
        refine ev_skip rfl ?_
        refine ev_q rfl (q_pickT rfl (by conv => lhs; whnf) ?_)
        refine ev_q rfl (q_move (by conv => lhs; whnf) ?_)
        refine ev_skip rfl ?_
        refine ev_skip rfl ?_
        refine ev_skip rfl ?_
        refine ev_q rfl (q_pickT rfl (by conv => lhs; whnf) ?_)
        refine ev_q rfl (q_move (by conv => lhs; whnf) ?_)
        refine ev_skip rfl ?_
        refine ev_skip rfl ?_
        refine ev_skip rfl ?_
        refine ev_q rfl (q_pickT rfl (by conv => lhs; whnf) ?_)
        refine ev_q rfl (q_move (by conv => lhs; whnf) ?_)
        refine ev_skip rfl ?_
        refine ev_skip rfl ?_
        refine ev_skip rfl ?_
        refine ev_skip rfl ?_
        refine ev_skip rfl ?_
        refine ev_q rfl (q_pickT rfl (by conv => lhs; whnf) ?_)
        refine ev_q rfl (q_move (by conv => lhs; whnf) ?_)
        refine ev_skip rfl ?_
        refine ev_skip rfl ?_
        refine ev_q rfl (q_pickT rfl (by conv => lhs; whnf) ?_)
        refine ev_q rfl (q_move (by conv => lhs; whnf) ?_)
        refine ev_skip rfl ?_
        refine ev_skip rfl ?_
        refine ev_skip rfl ?_
        refine ev_skip rfl ?_
        refine ev_q rfl (q_pickT rfl (by conv => lhs; whnf) ?_)
        refine ev_q rfl (q_move (by conv => lhs; whnf) ?_)
        refine ev_skip rfl ?_
        refine ev_skip rfl ?_
        refine ev_skip rfl ?_
        refine ev_q rfl (q_pickT rfl (by conv => lhs; whnf) ?_)
        refine ev_nil (hK51 _ ?_); clear hK51
        refine good_condT rfl ?_
        refine good_seq fun K177 hK177 => ?_
        refine good_region rfl ?_
        refine ev_q rfl (q_assign (by conv => lhs; whnf) ?_)
        refine ev_nil (hK177 _ ?_); clear hK177
        refine good_ret ?_
        repeat (first | refine thenQ_ret ?_ | refine blockQ_ret ?_)
        refine ret_tmp (st := _) rfl (by conv => lhs; whnf) rfl ?_
        clear hK50
        first | rfl | (exfalso; first | omega | (exact absurd rfl (by assumption)) | (exact absurd hlo (by assumption)) | contradiction)
  · first | replace hb4 := dT hb4 | skip
    refine ev_nil (hK3 _ ?_); clear hK3
    refine good_condT rfl ?_
    refine good_seq fun K178 hK178 => ?_
    refine good_region rfl ?_
    refine ev_q rfl (q_assign (by conv => lhs; whnf) ?_)
    refine ev_nil (hK178 _ ?_); clear hK178
    refine good_ret ?_
    repeat (first | refine thenQ_ret ?_ | refine blockQ_ret ?_)
    refine ret_tmp (st := _) rfl (by conv => lhs; whnf) rfl ?_
    clear hK2
    first | rfl | (exfalso; first | omega | (exact absurd rfl (by assumption)) | (exact absurd hlo (by assumption)) | contradiction)

end Go.Proofs.YtodghlkodiidaaaGreatDoor.DFnWaves
