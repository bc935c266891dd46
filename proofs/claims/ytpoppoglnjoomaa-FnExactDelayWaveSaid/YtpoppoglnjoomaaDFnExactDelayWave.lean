/- Walks through the functions that FnExactDelayWave reaches: what each answers. -/
import Derived.Test.YtpoppoglnjoomaaDFnExactDelayWavea
set_option linter.unusedVariables false
set_option linter.unusedSimpArgs false
namespace Go.Proofs.Ytpoppoglnjoomaa.DFnExactDelayWave
open Go Go.RowKit Go.Proofs Go.Proofs.Ytpoppoglnjoomaa Go.Proofs.Ytpoppoglnjoomaa.Ev
-- laws.FnExactDelayWave
set_option maxRecDepth 20000 in
set_option maxHeartbeats 2000000 in
theorem D_laws_FnExactDelayWave (xs : List (Int × Int)) (d b : Int) (hx : xs.length ≤ 140737488351232) : Den Try.prog 9 [.lst 2 (xs.map stp), .s (.int .i64 d), .s (.int .i64 b)] (.s (.bool true)) := by
  refine den_of_good Try.func9 (by decide) rfl (Nat.le_of_ble_eq_true rfl) (Nat.le_of_ble_eq_true rfl) ?_
  refine good_seq fun K1 hK1 => ?_
  refine good_region rfl ?_
  refine ev_q rfl (q_assign (by conv => lhs; whnf) ?_)
  refine ev_nil (hK1 _ ?_); clear hK1
  refine good_seq fun K2 hK2 => ?_
  refine good_region rfl ?_
  refine ev_q rfl (q_assign (by conv => lhs; whnf) ?_)
  refine ev_nil (hK2 _ ?_); clear hK2
  refine good_seq fun K3 hK3 => ?_
  refine good_region rfl ?_
  refine ev_q rfl (q_move (by conv => lhs; whnf) ?_)
  refine ev_q rfl (q_move (by conv => lhs; whnf) ?_)
  refine ev_q rfl (q_callI rfl rfl (rfl) (D_laws_szStepS _ _ hx (by omega)) ?_)
  intro n4 hn4
  refine ev_q rfl (q_assign (by conv => lhs; whnf) ?_)
  refine ev_nil (hK3 _ ?_); clear hK3
  refine good_seq fun K5 hK5 => ?_
  refine good_seq fun K6 hK6 => ?_
  refine good_region rfl ?_
  refine ev_q rfl (q_move (by conv => lhs; whnf) ?_)
  refine ev_q rfl (q_int rfl rfl ?_)
  intro b7 hb7; cases b7
  · replace hb7 := dF hb7
    refine ev_nil (hK6 _ ?_); clear hK6
    refine good_condF rfl ?_
    refine good_skip (hK5 _ ?_); clear hK5
    refine good_seq fun K8 hK8 => ?_
    refine good_region rfl ?_
    refine ev_q rfl (q_move (by conv => lhs; whnf) ?_)
    refine ev_q rfl (q_call rfl rfl (rfl) (D_laws_toStepS xs (by omega)) rfl ?_)
    refine ev_q rfl (q_move (by conv => lhs; whnf) ?_)
    refine ev_q rfl (q_move (by conv => lhs; whnf) ?_)
    refine ev_q rfl (q_call rfl rfl (rfl) (D_spec_DelayWave xs d b (by omega)) rfl ?_)
    refine ev_q rfl (q_move (by conv => lhs; whnf) ?_)
    refine ev_q rfl (q_extract rfl rfl ?_)
    refine ev_q rfl (q_extractI rfl rfl ?_)
    intro n9 hn9
    refine ev_q rfl (q_assign (by conv => lhs; whnf) ?_)
    refine ev_q rfl (q_assign (by conv => lhs; whnf) ?_)
    refine ev_nil (hK8 _ ?_); clear hK8
    refine good_seq fun K10 hK10 => ?_
    refine good_region rfl ?_
    refine ev_q rfl (q_move (by conv => lhs; whnf) ?_)
    refine ev_k rfl (k_callX [(7, 900000)] (D_laws_toStepS_X xs (by omega)) rfl (rfl) (rfl) trivial ⟨⟨rfl, show (900000 : Nat) < 1000000 by decide⟩, trivial⟩ rfl rfl rfl ?_)
    refine ev_q rfl (q_assign (by conv => lhs; whnf) ?_)
    refine ev_nil (hK10 _ ?_); clear hK10
    refine good_seq fun K11 hK11 => ?_
    refine good_region rfl ?_
    refine ev_q rfl (q_move (by conv => lhs; whnf) ?_)
    refine ev_q rfl (q_move (by conv => lhs; whnf) ?_)
    refine ev_q rfl (q_move (by conv => lhs; whnf) ?_)
    refine ev_k rfl (k_callXc [(900005, 900001)] (D_impl_DelayWave_X xs d b (by omega)) rfl (by change some ([.lst 2 (List.take (xs).length ((xs).map stp)), .s (.int .i64 d), .s (.int .i64 b)] : List AV) = some _; (simp only [takeMap]) <;> rfl) (⟨rfl, ⟨mkW_pure, trivial⟩⟩) trivial ⟨⟨rfl, show (900001 : Nat) < 1000000 by decide⟩, trivial⟩ rfl rfl rfl ?_)
    refine ev_q rfl (q_move (by conv => lhs; whnf) ?_)
    refine ev_q rfl (q_extract rfl rfl ?_)
    refine ev_q rfl (q_extractI rfl rfl ?_)
    intro n12 hn12
    refine ev_q rfl (q_assign (by conv => lhs; whnf) ?_)
    refine ev_q rfl (q_assign (by conv => lhs; whnf) ?_)
    refine ev_nil (hK11 _ ?_); clear hK11
    refine good_seq fun K13 hK13 => ?_
    refine good_seq fun K14 hK14 => ?_
    refine good_region rfl ?_
    refine ev_q rfl (q_move (by conv => lhs; whnf) ?_)
    refine ev_q rfl (q_move (by conv => lhs; whnf) ?_)
    refine ev_q rfl (q_callB rfl rfl (by change ([.lst 2 (List.take ((dwR xs d b)).length (((dwR xs d b)).map stp)), .lst 2 (((dwR xs d b)).map stp)] : List AV) = _; simp only [takeMap]) (D_laws_eqStepS (dwR xs d b) (by have := dwR_len (xs := xs) (d := d) (b := b); omega)) ?_)
    intro b15 hb15; cases b15
    · first | replace hb15 := dF hb15 | skip
      refine ev_q rfl (q_not rfl rfl ?_)
      refine ev_q rfl (q_move (by conv => lhs; whnf) ?_)
      refine ev_skip rfl ?_
      refine ev_skip rfl ?_
      refine ev_skip rfl ?_
      refine ev_q rfl (q_pickT rfl (by conv => lhs; whnf) ?_)
      refine ev_nil (hK14 _ ?_); clear hK14
      refine good_condT rfl ?_
      refine good_seq fun K16 hK16 => ?_
      refine good_region rfl ?_
      refine ev_q rfl (q_assign (by conv => lhs; whnf) ?_)
      refine ev_nil (hK16 _ ?_); clear hK16
      refine good_ret ?_
      repeat (first | refine thenQ_ret ?_ | refine blockQ_ret ?_)
      refine ret_tmp (st := _) rfl (by conv => lhs; whnf) rfl ?_
      clear hK13
      first | rfl | (exfalso; first | omega | contradiction | grind)
    · first | replace hb15 := dT hb15 | skip
      refine ev_q rfl (q_not rfl rfl ?_)
      refine ev_q rfl (q_move (by conv => lhs; whnf) ?_)
      refine ev_q rfl (q_move (by conv => lhs; whnf) ?_)
      refine ev_q rfl (q_move (by conv => lhs; whnf) ?_)
      refine ev_q rfl (q_int rfl rfl ?_)
      intro b17 hb17; cases b17
      · replace hb17 := neF hb17
        refine ev_q rfl (q_pickF rfl (by conv => lhs; whnf) ?_)
        refine ev_nil (hK14 _ ?_); clear hK14
        refine good_condF rfl ?_
        refine good_skip (hK13 _ ?_); clear hK13
        refine good_seq fun K18 hK18 => ?_
        refine good_seq fun K19 hK19 => ?_
        refine good_region rfl ?_
        refine ev_q rfl (q_move (by conv => lhs; whnf) ?_)
        refine ev_q rfl (q_move (by conv => lhs; whnf) ?_)
        refine ev_q rfl (q_call rfl rfl (rfl) (D_laws_toStepS xs (by omega)) rfl ?_)
        refine ev_q rfl (q_callB rfl rfl (by change ([.lst 2 (List.take (xs).length ((xs).map stp)), .lst 2 ((xs).map stp)] : List AV) = _; simp only [takeMap]) (D_laws_eqStepS xs (by omega)) ?_)
        intro b20 hb20; cases b20
        · first | replace hb20 := dF hb20 | skip
          refine ev_q rfl (q_not rfl rfl ?_)
          refine ev_nil (hK19 _ ?_); clear hK19
          refine good_condT rfl ?_
          refine good_seq fun K21 hK21 => ?_
          refine good_region rfl ?_
          refine ev_q rfl (q_assign (by conv => lhs; whnf) ?_)
          refine ev_nil (hK21 _ ?_); clear hK21
          refine good_ret ?_
          repeat (first | refine thenQ_ret ?_ | refine blockQ_ret ?_)
          refine ret_tmp (st := _) rfl (by conv => lhs; whnf) rfl ?_
          clear hK18
          first | rfl | (exfalso; first | omega | contradiction | grind)
        · first | replace hb20 := dT hb20 | skip
          refine ev_q rfl (q_not rfl rfl ?_)
          refine ev_nil (hK19 _ ?_); clear hK19
          refine good_condF rfl ?_
          refine good_skip (hK18 _ ?_); clear hK18
          refine good_seq fun K22 hK22 => ?_
          refine good_region rfl ?_
          refine ev_q rfl (q_assign (by conv => lhs; whnf) ?_)
          refine ev_nil (hK22 _ ?_); clear hK22
          refine good_seq fun K23 hK23 => ?_
          refine good_region rfl ?_
          refine ev_q rfl (q_move (by conv => lhs; whnf) ?_)
          refine ev_q rfl (q_move (by conv => lhs; whnf) ?_)
          refine ev_k rfl (k_callXI [(1000000, 900000)] (D_laws_markStepS xs _ (by omega) (by omega)) rfl (rfl) (rfl) ⟨rfl, trivial⟩ ⟨rfl, ⟨rfl, rfl, by rw [mkW_len (Nat.le_refl _)]; simp⟩, trivial⟩ rfl rfl rfl ?_)
          intro n24 hn24
          refine ev_q rfl (q_assign (by conv => lhs; whnf) ?_)
          refine ev_nil (hK23 _ ?_); clear hK23
          refine good_seq fun K25 hK25 => ?_
          refine good_seq fun K26 hK26 => ?_
          refine good_region rfl ?_
          refine ev_q rfl (q_move (by conv => lhs; whnf) ?_)
          refine ev_q rfl (q_int rfl rfl ?_)
          intro b27 hb27; cases b27
          · replace hb27 := dF hb27
            refine ev_q rfl (q_move (by conv => lhs; whnf) ?_)
            refine ev_q rfl (q_move (by conv => lhs; whnf) ?_)
            refine ev_q rfl (q_move (by conv => lhs; whnf) ?_)
            refine ev_q rfl (q_callB rfl rfl (by change ([.lst 2 (List.take ((dwR xs d b)).length (((dwR xs d b)).map stp)), .lst 2 (((dwR xs d b)).map stp)] : List AV) = _; simp only [takeMap]) (D_laws_eqStepS (dwR xs d b) (by have := dwR_len (xs := xs) (d := d) (b := b); omega)) ?_)
            intro b28 hb28; cases b28
            · first | replace hb28 := dF hb28 | skip
              refine ev_q rfl (q_not rfl rfl ?_)
              refine ev_q rfl (q_pickF rfl (by conv => lhs; whnf) ?_)
              refine ev_q rfl (q_move (by conv => lhs; whnf) ?_)
              refine ev_skip rfl ?_
              refine ev_skip rfl ?_
              refine ev_skip rfl ?_
              refine ev_q rfl (q_pickT rfl (by conv => lhs; whnf) ?_)
              refine ev_nil (hK26 _ ?_); clear hK26
              refine good_condT rfl ?_
              refine good_seq fun K29 hK29 => ?_
              refine good_region rfl ?_
              refine ev_q rfl (q_assign (by conv => lhs; whnf) ?_)
              refine ev_nil (hK29 _ ?_); clear hK29
              refine good_ret ?_
              repeat (first | refine thenQ_ret ?_ | refine blockQ_ret ?_)
              refine ret_tmp (st := _) rfl (by conv => lhs; whnf) rfl ?_
              clear hK25
              first | rfl | (exfalso; first | omega | contradiction | grind)
            · first | replace hb28 := dT hb28 | skip
              refine ev_q rfl (q_not rfl rfl ?_)
              refine ev_q rfl (q_pickF rfl (by conv => lhs; whnf) ?_)
              refine ev_q rfl (q_move (by conv => lhs; whnf) ?_)
              refine ev_q rfl (q_move (by conv => lhs; whnf) ?_)
              refine ev_q rfl (q_move (by conv => lhs; whnf) ?_)
              refine ev_q rfl (q_int rfl rfl ?_)
              intro b30 hb30; cases b30
              · replace hb30 := neF hb30
                refine ev_q rfl (q_pickF rfl (by conv => lhs; whnf) ?_)
                refine ev_nil (hK26 _ ?_); clear hK26
                refine good_condF rfl ?_
                refine good_skip (hK25 _ ?_); clear hK25
                refine good_seq fun K31 hK31 => ?_
                refine good_region rfl ?_
                refine ev_q rfl (q_assign (by conv => lhs; whnf) ?_)
                refine ev_nil (hK31 _ ?_); clear hK31
                refine good_seq fun K32 hK32 => ?_
                refine good_region rfl ?_
                refine ev_q rfl (q_move (by conv => lhs; whnf) ?_)
                refine ev_q rfl (q_move (by conv => lhs; whnf) ?_)
                refine ev_k rfl (k_callXI [(1000000, 900001)] (D_laws_markStepS (dwR xs d b) _ (by have := dwR_len (xs := xs) (d := d) (b := b); omega) (by omega)) rfl (rfl) (rfl) ⟨rfl, trivial⟩ ⟨rfl, ⟨rfl, rfl, by rw [mkW_len (Nat.le_refl _)]; simp⟩, trivial⟩ rfl rfl rfl ?_)
                intro n33 hn33
                refine ev_q rfl (q_assign (by conv => lhs; whnf) ?_)
                refine ev_nil (hK32 _ ?_); clear hK32
                refine good_seq fun K34 hK34 => ?_
                refine good_region rfl ?_
                refine ev_q rfl (q_assign (by conv => lhs; whnf) ?_)
                refine ev_nil (hK34 _ ?_); clear hK34
                refine good_seq fun K35 hK35 => ?_
                refine good_region rfl ?_
                refine ev_q rfl (q_move (by conv => lhs; whnf) ?_)
                refine ev_q rfl (q_move (by conv => lhs; whnf) ?_)
                refine ev_q rfl (q_callI rfl rfl (by change ([.lst 2 (List.take ((dwR xs d b)).length (mkW 1 ((dwR xs d b)) ((dwR xs d b)).length)), .s (.int .i64 1)] : List AV) = _; rw [mkW_take]) (D_laws_heldStepS (dwR xs d b) 1 (by have := dwR_len (xs := xs) (d := d) (b := b); omega) (by omega)) ?_)
                intro n36 hn36
                refine ev_q rfl (q_assign (by conv => lhs; whnf) ?_)
                refine ev_nil (hK35 _ ?_); clear hK35
                refine good_seq fun K37 hK37 => ?_
                refine good_seq fun K38 hK38 => ?_
                refine good_region rfl ?_
                refine ev_q rfl (q_move (by conv => lhs; whnf) ?_)
                refine ev_q rfl (q_int rfl rfl ?_)
                intro b39 hb39; cases b39
                · replace hb39 := dF hb39
                  refine ev_nil (hK38 _ ?_); clear hK38
                  refine good_condF rfl ?_
                  refine good_skip (hK37 _ ?_); clear hK37
                  refine good_seq fun K40 hK40 => ?_
                  refine good_seq fun K41 hK41 => ?_
                  refine good_region rfl ?_
                  refine ev_q rfl (q_move (by conv => lhs; whnf) ?_)
                  refine ev_q rfl (q_move (by conv => lhs; whnf) ?_)
                  refine ev_q rfl (q_int rfl rfl ?_)
                  intro b42 hb42; cases b42
                  · replace hb42 := neF hb42
                    refine ev_nil (hK41 _ ?_); clear hK41
                    refine good_condF rfl ?_
                    refine good_skip (hK40 _ ?_); clear hK40
                    refine good_seq fun K43 hK43 => ?_
                    refine good_region rfl ?_
                    refine ev_q rfl (q_move (by conv => lhs; whnf) ?_)
                    refine ev_q rfl (q_call rfl rfl (rfl) (D_laws_toStepS xs (by omega)) rfl ?_)
                    refine ev_q rfl (q_move (by conv => lhs; whnf) ?_)
                    refine ev_q rfl (q_move (by conv => lhs; whnf) ?_)
                    refine ev_q rfl (q_call rfl rfl (rfl) (D_impl_DelayWave xs d b (by omega)) rfl ?_)
                    refine ev_q rfl (q_move (by conv => lhs; whnf) ?_)
                    refine ev_q rfl (q_extract rfl rfl ?_)
                    refine ev_q rfl (q_extractI rfl rfl ?_)
                    intro n44 hn44
                    refine ev_q rfl (q_assign (by conv => lhs; whnf) ?_)
                    refine ev_q rfl (q_assign (by conv => lhs; whnf) ?_)
                    refine ev_nil (hK43 _ ?_); clear hK43
                    refine good_seq fun K45 hK45 => ?_
                    refine good_seq fun K46 hK46 => ?_
                    refine good_region rfl ?_
                    refine ev_q rfl (q_move (by conv => lhs; whnf) ?_)
                    refine ev_q rfl (q_move (by conv => lhs; whnf) ?_)
                    refine ev_q rfl (q_callB rfl rfl (rfl) (D_laws_eqStepS (dwR xs d b) (by have := dwR_len (xs := xs) (d := d) (b := b); omega)) ?_)
                    intro b47 hb47; cases b47
                    · first | replace hb47 := dF hb47 | skip
                      refine ev_q rfl (q_not rfl rfl ?_)
                      refine ev_q rfl (q_move (by conv => lhs; whnf) ?_)
                      refine ev_skip rfl ?_
                      refine ev_skip rfl ?_
                      refine ev_skip rfl ?_
                      refine ev_q rfl (q_pickT rfl (by conv => lhs; whnf) ?_)
                      refine ev_nil (hK46 _ ?_); clear hK46
                      refine good_condT rfl ?_
                      refine good_seq fun K48 hK48 => ?_
                      refine good_region rfl ?_
                      refine ev_q rfl (q_assign (by conv => lhs; whnf) ?_)
                      refine ev_nil (hK48 _ ?_); clear hK48
                      refine good_ret ?_
                      repeat (first | refine thenQ_ret ?_ | refine blockQ_ret ?_)
                      refine ret_tmp (st := _) rfl (by conv => lhs; whnf) rfl ?_
                      clear hK45
                      first | rfl | (exfalso; first | omega | contradiction | grind)
                    · first | replace hb47 := dT hb47 | skip
                      refine ev_q rfl (q_not rfl rfl ?_)
                      refine ev_q rfl (q_move (by conv => lhs; whnf) ?_)
                      refine ev_q rfl (q_move (by conv => lhs; whnf) ?_)
                      refine ev_q rfl (q_move (by conv => lhs; whnf) ?_)
                      refine ev_q rfl (q_int rfl rfl ?_)
                      intro b49 hb49; cases b49
                      · replace hb49 := neF hb49
                        refine ev_q rfl (q_pickF rfl (by conv => lhs; whnf) ?_)
                        refine ev_nil (hK46 _ ?_); clear hK46
                        refine good_condF rfl ?_
                        refine good_skip (hK45 _ ?_); clear hK45
                        refine good_seq fun K50 hK50 => ?_
                        refine good_region rfl ?_
                        refine ev_q rfl (q_assign (by conv => lhs; whnf) ?_)
                        refine ev_nil (hK50 _ ?_); clear hK50
                        refine good_seq fun K51 hK51 => ?_
                        refine good_region rfl ?_
                        refine ev_q rfl (q_move (by conv => lhs; whnf) ?_)
                        refine ev_q rfl (q_move (by conv => lhs; whnf) ?_)
                        refine ev_q rfl (q_callI rfl rfl (by change ([.lst 2 (List.take ((dwR xs d b)).length (mkW 1 ((dwR xs d b)) ((dwR xs d b)).length)), .s (.int .i64 1)] : List AV) = _; rw [mkW_take]) (D_laws_heldStepS (dwR xs d b) 1 (by have := dwR_len (xs := xs) (d := d) (b := b); omega) (by omega)) ?_)
                        intro n52 hn52
                        refine ev_q rfl (q_assign (by conv => lhs; whnf) ?_)
                        refine ev_nil (hK51 _ ?_); clear hK51
                        refine good_seq fun K53 hK53 => ?_
                        refine good_seq fun K54 hK54 => ?_
                        refine good_region rfl ?_
                        refine ev_q rfl (q_move (by conv => lhs; whnf) ?_)
                        refine ev_q rfl (q_int rfl rfl ?_)
                        intro b55 hb55; cases b55
                        · replace hb55 := dF hb55
                          refine ev_nil (hK54 _ ?_); clear hK54
                          refine good_condF rfl ?_
                          refine good_skip (hK53 _ ?_); clear hK53
                          refine good_seq fun K56 hK56 => ?_
                          refine good_seq fun K57 hK57 => ?_
                          refine good_region rfl ?_
                          refine ev_q rfl (q_move (by conv => lhs; whnf) ?_)
                          refine ev_q rfl (q_move (by conv => lhs; whnf) ?_)
                          refine ev_q rfl (q_int rfl rfl ?_)
                          intro b58 hb58; cases b58
                          · replace hb58 := neF hb58
                            refine ev_nil (hK57 _ ?_); clear hK57
                            refine good_condF rfl ?_
                            refine good_skip (hK56 _ ?_); clear hK56
                            refine good_seq fun K59 hK59 => ?_
                            refine good_region rfl ?_
                            refine ev_q rfl (q_assign (by conv => lhs; whnf) ?_)
                            refine ev_nil (hK59 _ ?_); clear hK59
                            refine good_ret ?_
                            repeat (first | refine thenQ_ret ?_ | refine blockQ_ret ?_)
                            refine ret_tmp (st := _) rfl (by conv => lhs; whnf) rfl ?_
                            first | rfl | (exfalso; first | omega | contradiction | grind)
                          · replace hb58 := neT hb58
                            refine ev_nil (hK57 _ ?_); clear hK57
                            refine good_condT rfl ?_
                            refine good_seq fun K60 hK60 => ?_
                            refine good_region rfl ?_
                            refine ev_q rfl (q_assign (by conv => lhs; whnf) ?_)
                            refine ev_nil (hK60 _ ?_); clear hK60
                            refine good_ret ?_
                            repeat (first | refine thenQ_ret ?_ | refine blockQ_ret ?_)
                            refine ret_tmp (st := _) rfl (by conv => lhs; whnf) rfl ?_
                            clear hK56
                            first | rfl | (exfalso; first | omega | contradiction | grind)
                        · replace hb55 := dT hb55
                          refine ev_nil (hK54 _ ?_); clear hK54
                          refine good_condT rfl ?_
                          refine good_seq fun K61 hK61 => ?_
                          refine good_region rfl ?_
                          refine ev_q rfl (q_assign (by conv => lhs; whnf) ?_)
                          refine ev_nil (hK61 _ ?_); clear hK61
                          refine good_ret ?_
                          repeat (first | refine thenQ_ret ?_ | refine blockQ_ret ?_)
                          refine ret_tmp (st := _) rfl (by conv => lhs; whnf) rfl ?_
                          clear hK53
                          first | rfl | (exfalso; first | omega | contradiction | grind)
                      · replace hb49 := neT hb49
                        refine ev_q rfl (q_pickF rfl (by conv => lhs; whnf) ?_)
                        refine ev_nil (hK46 _ ?_); clear hK46
                        refine good_condT rfl ?_
                        refine good_seq fun K62 hK62 => ?_
                        refine good_region rfl ?_
                        refine ev_q rfl (q_assign (by conv => lhs; whnf) ?_)
                        refine ev_nil (hK62 _ ?_); clear hK62
                        refine good_ret ?_
                        repeat (first | refine thenQ_ret ?_ | refine blockQ_ret ?_)
                        refine ret_tmp (st := _) rfl (by conv => lhs; whnf) rfl ?_
                        clear hK45
                        first | rfl | (exfalso; first | omega | contradiction | grind)
                  · replace hb42 := neT hb42
                    refine ev_nil (hK41 _ ?_); clear hK41
                    refine good_condT rfl ?_
                    refine good_seq fun K63 hK63 => ?_
                    refine good_region rfl ?_
                    refine ev_q rfl (q_assign (by conv => lhs; whnf) ?_)
                    refine ev_nil (hK63 _ ?_); clear hK63
                    refine good_ret ?_
                    repeat (first | refine thenQ_ret ?_ | refine blockQ_ret ?_)
                    refine ret_tmp (st := _) rfl (by conv => lhs; whnf) rfl ?_
                    clear hK40
                    first | rfl | (exfalso; first | omega | contradiction | grind)
                · replace hb39 := dT hb39
                  refine ev_nil (hK38 _ ?_); clear hK38
                  refine good_condT rfl ?_
                  refine good_seq fun K64 hK64 => ?_
                  refine good_region rfl ?_
                  refine ev_q rfl (q_assign (by conv => lhs; whnf) ?_)
                  refine ev_nil (hK64 _ ?_); clear hK64
                  refine good_ret ?_
                  repeat (first | refine thenQ_ret ?_ | refine blockQ_ret ?_)
                  refine ret_tmp (st := _) rfl (by conv => lhs; whnf) rfl ?_
                  clear hK37
                  first | rfl | (exfalso; first | omega | contradiction | grind)
              · replace hb30 := neT hb30
                refine ev_q rfl (q_pickF rfl (by conv => lhs; whnf) ?_)
                refine ev_nil (hK26 _ ?_); clear hK26
                refine good_condT rfl ?_
                refine good_seq fun K65 hK65 => ?_
                refine good_region rfl ?_
                refine ev_q rfl (q_assign (by conv => lhs; whnf) ?_)
                refine ev_nil (hK65 _ ?_); clear hK65
                refine good_ret ?_
                repeat (first | refine thenQ_ret ?_ | refine blockQ_ret ?_)
                refine ret_tmp (st := _) rfl (by conv => lhs; whnf) rfl ?_
                clear hK25
                first | rfl | (exfalso; first | omega | contradiction | grind)
          · replace hb27 := dT hb27
            refine ev_q rfl (q_move (by conv => lhs; whnf) ?_)
            refine ev_skip rfl ?_
            refine ev_skip rfl ?_
            refine ev_skip rfl ?_
            refine ev_skip rfl ?_
            refine ev_q rfl (q_pickT rfl (by conv => lhs; whnf) ?_)
            refine ev_q rfl (q_move (by conv => lhs; whnf) ?_)
            refine ev_skip rfl ?_
            refine ev_skip rfl ?_
            refine ev_skip rfl ?_
            refine ev_q rfl (q_pickT rfl (by conv => lhs; whnf) ?_)
            refine ev_nil (hK26 _ ?_); clear hK26
            refine good_condT rfl ?_
            refine good_seq fun K66 hK66 => ?_
            refine good_region rfl ?_
            refine ev_q rfl (q_assign (by conv => lhs; whnf) ?_)
            refine ev_nil (hK66 _ ?_); clear hK66
            refine good_ret ?_
            repeat (first | refine thenQ_ret ?_ | refine blockQ_ret ?_)
            refine ret_tmp (st := _) rfl (by conv => lhs; whnf) rfl ?_
            clear hK25
            first | rfl | (exfalso; first | omega | contradiction | grind)
      · replace hb17 := neT hb17
        refine ev_q rfl (q_pickF rfl (by conv => lhs; whnf) ?_)
        refine ev_nil (hK14 _ ?_); clear hK14
        refine good_condT rfl ?_
        refine good_seq fun K67 hK67 => ?_
        refine good_region rfl ?_
        refine ev_q rfl (q_assign (by conv => lhs; whnf) ?_)
        refine ev_nil (hK67 _ ?_); clear hK67
        refine good_ret ?_
        repeat (first | refine thenQ_ret ?_ | refine blockQ_ret ?_)
        refine ret_tmp (st := _) rfl (by conv => lhs; whnf) rfl ?_
        clear hK13
        first | rfl | (exfalso; first | omega | contradiction | grind)
  · replace hb7 := dT hb7
    refine ev_nil (hK6 _ ?_); clear hK6
    refine good_condT rfl ?_
    refine good_seq fun K68 hK68 => ?_
    refine good_region rfl ?_
    refine ev_q rfl (q_assign (by conv => lhs; whnf) ?_)
    refine ev_nil (hK68 _ ?_); clear hK68
    refine good_ret ?_
    repeat (first | refine thenQ_ret ?_ | refine blockQ_ret ?_)
    refine ret_tmp (st := _) rfl (by conv => lhs; whnf) rfl ?_
    clear hK5
    first | rfl | (exfalso; first | omega | contradiction | grind)

end Go.Proofs.Ytpoppoglnjoomaa.DFnExactDelayWave
