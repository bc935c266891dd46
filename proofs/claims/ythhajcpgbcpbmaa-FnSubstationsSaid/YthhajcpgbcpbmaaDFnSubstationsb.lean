/- Walks through the functions that FnSubstations reaches: what each answers. -/
import Derived.Test.YthhajcpgbcpbmaaDFnSubstationsa
set_option linter.unusedVariables false
set_option linter.unusedSimpArgs false
namespace Go.Proofs.Ythhajcpgbcpbmaa.DFnSubstations
open Go Go.RowKit Go.Proofs Go.Proofs.Ythhajcpgbcpbmaa Go.Proofs.Ythhajcpgbcpbmaa.Ev
-- spec.l12Back
set_option maxRecDepth 20000 in
set_option maxHeartbeats 2000000 in
theorem D_spec_l12Back (s : ByteArray) (nd tr su re : Int) (pr q : Int) (hq : 0 ≤ q ∧ q ≤ 100000) (hp : 0 ≤ pr ∧ pr ≤ 18000) (ht : 0 ≤ tr ∧ tr ≤ 100000) (hsu : 0 ≤ su ∧ su ≤ 18000) (hre : 0 ≤ re ∧ re ≤ 18000) (h : re ≤ pr) : Den Try.prog 56 [.rp [.s (.string s), .s (.int .i64 nd), .s (.int .i64 tr), .s (.int .i64 su), .s (.int .i64 re)], .s (.int .i64 pr), .s (.int .i64 q)] (.tup [.s (.int .i64 (bB (lesP tr su re pr q) re pr)), .s (.int .i64 (mx0 (lesP tr su re pr q (bB (lesP tr su re pr q) re pr))))]) := by
  have hm := les_meet (su := su) ht.1 hq.1 h
  refine den_of_good Try.func56 (by decide) rfl (Nat.le_of_ble_eq_true rfl) (Nat.le_of_ble_eq_true rfl) ?_
  refine good_seq fun K1 hK1 => ?_
  refine good_region rfl ?_
  refine ev_q rfl (q_assign (by conv => lhs; whnf) ?_)
  refine ev_q rfl (q_assign (by conv => lhs; whnf) ?_)
  refine ev_nil (hK1 _ ?_); clear hK1
  refine good_seq fun K2 hK2 => ?_
  refine good_region rfl ?_
  refine ev_q rfl (q_move (by conv => lhs; whnf) ?_)
  refine ev_q rfl (q_nilCheck (by conv => lhs; whnf) rfl ?_)
  refine ev_q rfl (q_fieldAddr fO27_4 rfl rfl ?_)
  refine ev_q rfl (q_load tA2 rfl ?_)
  refine ev_q rfl (q_assign (by conv => lhs; whnf) ?_)
  refine ev_nil (hK2 _ ?_); clear hK2
  refine good_seq fun K3 hK3 => ?_
  refine good_region rfl ?_
  refine ev_q rfl (q_move (by conv => lhs; whnf) ?_)
  refine ev_q rfl (q_int rfl rfl ?_)
  intro n4 hn4
  replace hn4 := in64 hn4 (by omega) (by omega)
  refine ev_q rfl (q_assign (by conv => lhs; whnf) ?_)
  refine ev_nil (hK3 _ ?_); clear hK3
  refine good_seq fun K5 hK5 => ?_
  refine good_block ?_
  refine good_loop (α := Int × Int) (fun (l, h) => { env := upd (upd (upd (upd (upd ((fun _ => .junk)) 0 (.rp [.s (.string s), .s (.int .i64 nd), .s (.int .i64 tr), .s (.int .i64 su), .s (.int .i64 re)])) 1 (.s (.int .i64 pr))) 2 (.s (.int .i64 q))) 8 (.s (.int .i64 l))) 9 (.s (.int .i64 h)), H := fun _ => none }) (fun (l, h) => (re ≤ l ∧ l + 1 ≤ h ∧ h ≤ pr + 1) ∧ (l = re ∨ cP tr su re pr l ≤ gP q pr l) ∧ (h = pr + 1 ∨ gP q pr h < cP tr su re pr h)) (fun (l, h) => (h - l).toNat) (re, pr + 1) ?_ ?_ ?_
  · exact ⟨by first | omega | (dsimp only; omega), .inl rfl, .inl rfl⟩
  · refine sub_weak ?_ ?_
    · exact weakH_none _
    · refine weakE_upd ?e9 ?r9 (weakE_upd ?e8 ?r8 (weakE_upd ?e2 ?r2 (weakE_upd ?e1 ?r1 (weakE_upd ?e0 ?r0 (weakE_junk _ _)))))
      case e0 => first | rfl | exact fI (by omega) | (simp_all)
      case r0 => intro h hh; cases hh
      case e1 => first | rfl | exact fI (by omega) | (simp_all)
      case r1 => intro h hh; cases hh
      case e2 => first | rfl | exact fI (by omega) | (simp_all)
      case r2 => intro h hh; cases hh
      case e8 => first | rfl | exact fI (by omega) | (simp_all)
      case r8 => intro h hh; cases hh
      case e9 => first | rfl | exact fI (by omega) | (simp_all)
      case r9 => intro h hh; cases hh
  · rintro ⟨l, h⟩ ⟨hI, hJ, hK⟩
    refine good_seq fun K6 hK6 => ?_
    refine good_seq fun K7 hK7 => ?_
    refine good_region rfl ?_
    refine ev_q rfl (q_move (by conv => lhs; whnf) ?_)
    refine ev_q rfl (q_move (by conv => lhs; whnf) ?_)
    refine ev_q rfl (q_int rfl rfl ?_)
    intro n8 hn8
    replace hn8 := in64 hn8 (by omega) (by omega)
    refine ev_q rfl (q_int rfl rfl ?_)
    intro b9 hb9; cases b9
    · replace hb9 := dF hb9
      refine ev_nil (hK7 _ ?_); clear hK7
      refine good_condF rfl ?_
      refine good_exit ?_
      repeat (first | refine thenQ_exit ?_ | refine blockQ_pass rfl ?_)
      refine blockQ_exit (hK5 _ ?_); clear hK5
      refine good_seq fun K10 hK10 => ?_
      refine good_region rfl ?_
      refine ev_q rfl (q_move (by conv => lhs; whnf) ?_)
      refine ev_q rfl (q_move (by conv => lhs; whnf) ?_)
      refine ev_q rfl (q_move (by conv => lhs; whnf) ?_)
      refine ev_q rfl (q_move (by conv => lhs; whnf) ?_)
      refine ev_q rfl (q_callI rfl rfl (rfl) (D_spec_l12Given s nd tr su re pr q _ hq hp (by omega) ht hsu hre) ?_)
      intro n11 hn11
      refine ev_q rfl (q_assign (by conv => lhs; whnf) ?_)
      refine ev_nil (hK10 _ ?_); clear hK10
      refine good_seq fun K12 hK12 => ?_
      refine good_seq fun K13 hK13 => ?_
      refine good_region rfl ?_
      refine ev_q rfl (q_move (by conv => lhs; whnf) ?_)
      refine ev_q rfl (q_move (by conv => lhs; whnf) ?_)
      refine ev_q rfl (q_int rfl rfl ?_)
      intro b14 hb14; cases b14
      · replace hb14 := dF hb14
        refine ev_nil (hK13 _ ?_); clear hK13
        refine good_condF rfl ?_
        refine good_skip (hK12 _ ?_); clear hK12
        refine good_seq fun K15 hK15 => ?_
        refine good_region rfl ?_
        refine ev_q rfl (q_move (by conv => lhs; whnf) ?_)
        refine ev_q rfl (q_nilCheck (by conv => lhs; whnf) rfl ?_)
        refine ev_q rfl (q_fieldAddr fO27_4 rfl rfl ?_)
        refine ev_q rfl (q_load tA2 rfl ?_)
        refine ev_q rfl (q_assign (by conv => lhs; whnf) ?_)
        refine ev_nil (hK15 _ ?_); clear hK15
        refine good_seq fun K16 hK16 => ?_
        refine good_seq fun K17 hK17 => ?_
        refine good_region rfl ?_
        refine ev_q rfl (q_move (by conv => lhs; whnf) ?_)
        refine ev_q rfl (q_move (by conv => lhs; whnf) ?_)
        refine ev_q rfl (q_move (by conv => lhs; whnf) ?_)
        refine ev_q rfl (q_move (by conv => lhs; whnf) ?_)
        refine ev_q rfl (q_callI rfl rfl (rfl) (D_spec_l12Given s nd tr su re pr q _ hq hp (by omega) ht hsu hre) ?_)
        intro n18 hn18
        refine ev_q rfl (q_move (by conv => lhs; whnf) ?_)
        refine ev_q rfl (q_int rfl rfl ?_)
        intro b19 hb19; cases b19
        · replace hb19 := eqF hb19
          refine ev_nil (hK17 _ ?_); clear hK17
          refine good_condF rfl ?_
          refine good_skip (hK16 _ ?_); clear hK16
          refine good_seq fun K20 hK20 => ?_
          refine good_seq fun K21 hK21 => ?_
          refine good_region rfl ?_
          refine ev_q rfl (q_move (by conv => lhs; whnf) ?_)
          refine ev_q rfl (q_move (by conv => lhs; whnf) ?_)
          refine ev_q rfl (q_int rfl rfl ?_)
          intro b22 hb22; cases b22
          · replace hb22 := dF hb22
            refine ev_q rfl (q_move (by conv => lhs; whnf) ?_)
            refine ev_skip rfl ?_
            refine ev_skip rfl ?_
            refine ev_skip rfl ?_
            refine ev_skip rfl ?_
            refine ev_skip rfl ?_
            refine ev_skip rfl ?_
            refine ev_skip rfl ?_
            refine ev_q rfl (q_pickF rfl (by conv => lhs; whnf) ?_)
            refine ev_nil (hK21 _ ?_); clear hK21
            refine good_condF rfl ?_
            refine good_skip (hK20 _ ?_); clear hK20
            refine good_seq fun K23 hK23 => ?_
            refine good_region rfl ?_
            refine ev_q rfl (q_move (by conv => lhs; whnf) ?_)
            refine ev_q rfl (q_int rfl rfl ?_)
            intro n24 hn24
            replace hn24 := in64 hn24 (by omega) (by omega)
            refine ev_q rfl (q_assign (by conv => lhs; whnf) ?_)
            refine ev_nil (hK23 _ ?_); clear hK23
            refine good_seq fun K25 hK25 => ?_
            refine good_block ?_
            obtain ⟨v, f0, hvd, hfd, htop, hv, hf1, hf2⟩ := les_v (h := h) hm (by omega) (by omega) hJ hK
            refine good_loop (α := Int × Int) (fun (f, u) => { env := upd (upd (upd (upd (upd (upd ((fun _ => .junk)) 0 (.rp [.s (.string s), .s (.int .i64 nd), .s (.int .i64 tr), .s (.int .i64 su), .s (.int .i64 re)])) 1 (.s (.int .i64 pr))) 2 (.s (.int .i64 q))) 11 (.s (.int .i64 v))) 12 (.s (.int .i64 f))) 13 (.s (.int .i64 u)), H := fun _ => none }) (fun (f, u) => (re ≤ f ∧ f + 1 ≤ u ∧ u ≤ pr + 1) ∧ mx0 (lesP tr su re pr q (f)) = v ∧ (u = pr + 1 ∨ mx0 (lesP tr su re pr q (u)) < v)) (fun (f, u) => (u - f).toNat) (f0, pr + 1) ?_ ?_ ?_
            · exact ⟨by first | omega | (dsimp only; omega), hv, .inl rfl⟩
            · refine sub_weak ?_ ?_
              · exact weakH_none _
              · refine weakE_upd ?e13 ?r13 (weakE_upd ?e12 ?r12 (weakE_upd ?e11 ?r11 (weakE_upd ?e2 ?r2 (weakE_upd ?e1 ?r1 (weakE_upd ?e0 ?r0 (weakE_junk _ _))))))
                case e0 => first | rfl | exact fI (by omega) | (simp_all)
                case r0 => intro h hh; cases hh
                case e1 => first | rfl | exact fI (by omega) | (simp_all)
                case r1 => intro h hh; cases hh
                case e2 => first | rfl | exact fI (by omega) | (simp_all)
                case r2 => intro h hh; cases hh
                case e11 => first | rfl | exact fI (by omega) | (first | rfl | exact fI (by grind))
                case r11 => intro h hh; cases hh
                case e12 => first | rfl | exact fI (by omega) | (first | rfl | exact fI (by grind))
                case r12 => intro h hh; cases hh
                case e13 => first | rfl | exact fI (by omega) | (simp_all)
                case r13 => intro h hh; cases hh
            · rintro ⟨f, u⟩ ⟨hF, hV, hU⟩
              refine good_seq fun K26 hK26 => ?_
              refine good_seq fun K27 hK27 => ?_
              refine good_region rfl ?_
              refine ev_q rfl (q_move (by conv => lhs; whnf) ?_)
              refine ev_q rfl (q_move (by conv => lhs; whnf) ?_)
              refine ev_q rfl (q_int rfl rfl ?_)
              intro n28 hn28
              replace hn28 := in64 hn28 (by omega) (by omega)
              refine ev_q rfl (q_int rfl rfl ?_)
              intro b29 hb29; cases b29
              · replace hb29 := dF hb29
                refine ev_nil (hK27 _ ?_); clear hK27
                refine good_condF rfl ?_
                refine good_exit ?_
                repeat (first | refine thenQ_exit ?_ | refine blockQ_pass rfl ?_)
                refine blockQ_exit (hK25 _ ?_); clear hK25
                refine good_seq fun K30 hK30 => ?_
                refine good_region rfl ?_
                refine ev_q rfl (q_move (by conv => lhs; whnf) ?_)
                refine ev_q rfl (q_move (by conv => lhs; whnf) ?_)
                refine ev_q rfl (q_assign (by conv => lhs; whnf) ?_)
                refine ev_q rfl (q_assign (by conv => lhs; whnf) ?_)
                refine ev_nil (hK30 _ ?_); clear hK30
                refine good_ret ?_
                repeat (first | refine thenQ_ret ?_ | refine blockQ_ret ?_)
                refine ret_many rfl ?_
                refine res_tmp (by conv => lhs; whnf) rfl ?_
                refine res_tmp (by conv => lhs; whnf) rfl ?_
                refine res_nil ?_
                clear hK6 hK26
                have e : f = bB (lesP tr su re pr q) re pr := les_end hm (by omega) hV htop (by rcases hU with h9 | h9; exact .inl (by omega); exact .inr (by rw [show f + 1 = u by omega]; exact h9))
                exact fTup1 (fI e) (fTup1 (fI (by rw [← e]; exact hV.symm)) rfl)
              · replace hb29 := dT hb29
                refine ev_nil (hK27 _ ?_); clear hK27
                refine good_condT rfl ?_
                refine good_skip (hK26 _ ?_); clear hK26
                refine good_block ?_
                refine good_seq fun K31 hK31 => ?_
                refine good_region rfl ?_
                refine ev_q rfl (q_move (by conv => lhs; whnf) ?_)
                refine ev_q rfl (q_move (by conv => lhs; whnf) ?_)
                refine ev_q rfl (q_int rfl rfl ?_)
                intro n32 hn32
                replace hn32 := in64 hn32 (by omega) (by omega)
                refine ev_q rfl (q_int rfl rfl ⟨by omega, ?_⟩)
                intro n33 hn33
                first | replace hn33 := quoE hn33 (by omega) (by omega) | replace hn33 := quoT hn33 (by omega) (by omega)
                refine ev_q rfl (q_assign (by conv => lhs; whnf) ?_)
                refine ev_nil (hK31 _ ?_); clear hK31
                refine good_seq fun K34 hK34 => ?_
                refine good_region rfl ?_
                refine ev_q rfl (q_move (by conv => lhs; whnf) ?_)
                refine ev_q rfl (q_move (by conv => lhs; whnf) ?_)
                refine ev_q rfl (q_move (by conv => lhs; whnf) ?_)
                refine ev_q rfl (q_move (by conv => lhs; whnf) ?_)
                refine ev_q rfl (q_callI rfl rfl (rfl) (D_spec_l12Given s nd tr su re pr q _ hq hp (by omega) ht hsu hre) ?_)
                intro n35 hn35
                refine ev_q rfl (q_move (by conv => lhs; whnf) ?_)
                refine ev_q rfl (q_int rfl rfl ?_)
                intro b36 hb36; cases b36
                · replace hb36 := dF hb36
                  refine ev_nil (hK34 _ ?_); clear hK34
                  refine good_condF rfl ?_
                  refine good_region rfl ?_
                  refine ev_q rfl (q_move (by conv => lhs; whnf) ?_)
                  refine ev_q rfl (q_assign (by conv => lhs; whnf) ?_)
                  refine ev_nil ?_
                  clear hK6 hK25
                  refine ⟨(f, n33), ?_, ?_, ?_⟩
                  · exact ⟨by first | omega | (dsimp only; omega), hV, .inr (by first | omega | (dsimp only; omega))⟩
                  · first | omega | (dsimp only; omega)
                  · refine sub_weak ?_ ?_
                    · exact weakH_none _
                    · refine weakE_upd ?e13 ?r13 (weakE_upd ?e12 ?r12 (weakE_upd ?e11 ?r11 (weakE_upd ?e2 ?r2 (weakE_upd ?e1 ?r1 (weakE_upd ?e0 ?r0 (weakE_junk _ _))))))
                      case e0 => first | rfl | exact fI (by omega) | (simp_all)
                      case r0 => intro h hh; cases hh
                      case e1 => first | rfl | exact fI (by omega) | (simp_all)
                      case r1 => intro h hh; cases hh
                      case e2 => first | rfl | exact fI (by omega) | (simp_all)
                      case r2 => intro h hh; cases hh
                      case e11 => first | rfl | exact fI (by omega) | (first | rfl | exact fI (by grind))
                      case r11 => intro h hh; cases hh
                      case e12 => first | rfl | exact fI (by omega) | (first | rfl | exact fI (by grind))
                      case r12 => intro h hh; cases hh
                      case e13 => first | rfl | exact fI (by omega) | (simp_all)
                      case r13 => intro h hh; cases hh
                · replace hb36 := dT hb36
                  refine ev_nil (hK34 _ ?_); clear hK34
                  refine good_condT rfl ?_
                  refine good_region rfl ?_
                  refine ev_q rfl (q_move (by conv => lhs; whnf) ?_)
                  refine ev_q rfl (q_assign (by conv => lhs; whnf) ?_)
                  refine ev_nil ?_
                  clear hK6 hK25
                  refine ⟨(n33, u), ?_, ?_, ?_⟩
                  · exact ⟨by first | omega | (dsimp only; omega), by have := htop n33 (by omega) (by omega); omega, hU⟩
                  · first | omega | (dsimp only; omega)
                  · refine sub_weak ?_ ?_
                    · exact weakH_none _
                    · refine weakE_upd ?e13 ?r13 (weakE_upd ?e12 ?r12 (weakE_upd ?e11 ?r11 (weakE_upd ?e2 ?r2 (weakE_upd ?e1 ?r1 (weakE_upd ?e0 ?r0 (weakE_junk _ _))))))
                      case e0 => first | rfl | exact fI (by omega) | (simp_all)
                      case r0 => intro h hh; cases hh
                      case e1 => first | rfl | exact fI (by omega) | (simp_all)
                      case r1 => intro h hh; cases hh
                      case e2 => first | rfl | exact fI (by omega) | (simp_all)
                      case r2 => intro h hh; cases hh
                      case e11 => first | rfl | exact fI (by omega) | (first | rfl | exact fI (by grind))
                      case r11 => intro h hh; cases hh
                      case e12 => first | rfl | exact fI (by omega) | (first | rfl | exact fI (by grind))
                      case r12 => intro h hh; cases hh
                      case e13 => first | rfl | exact fI (by omega) | (simp_all)
                      case r13 => intro h hh; cases hh
          · replace hb22 := dT hb22
            refine ev_q rfl (q_move (by conv => lhs; whnf) ?_)
            refine ev_q rfl (q_move (by conv => lhs; whnf) ?_)
            refine ev_q rfl (q_move (by conv => lhs; whnf) ?_)
            refine ev_q rfl (q_move (by conv => lhs; whnf) ?_)
            refine ev_q rfl (q_move (by conv => lhs; whnf) ?_)
            refine ev_q rfl (q_callI rfl rfl (rfl) (D_spec_l12Given s nd tr su re pr q _ hq hp (by omega) ht hsu hre) ?_)
            intro n37 hn37
            refine ev_q rfl (q_move (by conv => lhs; whnf) ?_)
            refine ev_q rfl (q_int rfl rfl ?_)
            intro b38 hb38; cases b38
            · replace hb38 := eqF hb38
              refine ev_q rfl (q_pickT rfl (by conv => lhs; whnf) ?_)
              refine ev_nil (hK21 _ ?_); clear hK21
              refine good_condF rfl ?_
              refine good_skip (hK20 _ ?_); clear hK20
              refine good_seq fun K39 hK39 => ?_
              refine good_region rfl ?_
              refine ev_q rfl (q_move (by conv => lhs; whnf) ?_)
              refine ev_q rfl (q_int rfl rfl ?_)
              intro n40 hn40
              replace hn40 := in64 hn40 (by omega) (by omega)
              refine ev_q rfl (q_assign (by conv => lhs; whnf) ?_)
              refine ev_nil (hK39 _ ?_); clear hK39
              refine good_seq fun K41 hK41 => ?_
              refine good_block ?_
              obtain ⟨v, f0, hvd, hfd, htop, hv, hf1, hf2⟩ := les_v (h := h) hm (by omega) (by omega) hJ hK
              refine good_loop (α := Int × Int) (fun (f, u) => { env := upd (upd (upd (upd (upd (upd ((fun _ => .junk)) 0 (.rp [.s (.string s), .s (.int .i64 nd), .s (.int .i64 tr), .s (.int .i64 su), .s (.int .i64 re)])) 1 (.s (.int .i64 pr))) 2 (.s (.int .i64 q))) 11 (.s (.int .i64 v))) 12 (.s (.int .i64 f))) 13 (.s (.int .i64 u)), H := fun _ => none }) (fun (f, u) => (re ≤ f ∧ f + 1 ≤ u ∧ u ≤ pr + 1) ∧ mx0 (lesP tr su re pr q (f)) = v ∧ (u = pr + 1 ∨ mx0 (lesP tr su re pr q (u)) < v)) (fun (f, u) => (u - f).toNat) (f0, pr + 1) ?_ ?_ ?_
              · exact ⟨by first | omega | (dsimp only; omega), hv, .inl rfl⟩
              · refine sub_weak ?_ ?_
                · exact weakH_none _
                · refine weakE_upd ?e13 ?r13 (weakE_upd ?e12 ?r12 (weakE_upd ?e11 ?r11 (weakE_upd ?e2 ?r2 (weakE_upd ?e1 ?r1 (weakE_upd ?e0 ?r0 (weakE_junk _ _))))))
                  case e0 => first | rfl | exact fI (by omega) | (simp_all)
                  case r0 => intro h hh; cases hh
                  case e1 => first | rfl | exact fI (by omega) | (simp_all)
                  case r1 => intro h hh; cases hh
                  case e2 => first | rfl | exact fI (by omega) | (simp_all)
                  case r2 => intro h hh; cases hh
                  case e11 => first | rfl | exact fI (by omega) | (first | rfl | exact fI (by grind))
                  case r11 => intro h hh; cases hh
                  case e12 => first | rfl | exact fI (by omega) | (first | rfl | exact fI (by grind))
                  case r12 => intro h hh; cases hh
                  case e13 => first | rfl | exact fI (by omega) | (simp_all)
                  case r13 => intro h hh; cases hh
              · rintro ⟨f, u⟩ ⟨hF, hV, hU⟩
                refine good_seq fun K42 hK42 => ?_
                refine good_seq fun K43 hK43 => ?_
                refine good_region rfl ?_
                refine ev_q rfl (q_move (by conv => lhs; whnf) ?_)
                refine ev_q rfl (q_move (by conv => lhs; whnf) ?_)
                refine ev_q rfl (q_int rfl rfl ?_)
                intro n44 hn44
                replace hn44 := in64 hn44 (by omega) (by omega)
                refine ev_q rfl (q_int rfl rfl ?_)
                intro b45 hb45; cases b45
                · replace hb45 := dF hb45
                  refine ev_nil (hK43 _ ?_); clear hK43
                  refine good_condF rfl ?_
                  refine good_exit ?_
                  repeat (first | refine thenQ_exit ?_ | refine blockQ_pass rfl ?_)
                  refine blockQ_exit (hK41 _ ?_); clear hK41
                  refine good_seq fun K46 hK46 => ?_
                  refine good_region rfl ?_
                  refine ev_q rfl (q_move (by conv => lhs; whnf) ?_)
                  refine ev_q rfl (q_move (by conv => lhs; whnf) ?_)
                  refine ev_q rfl (q_assign (by conv => lhs; whnf) ?_)
                  refine ev_q rfl (q_assign (by conv => lhs; whnf) ?_)
                  refine ev_nil (hK46 _ ?_); clear hK46
                  refine good_ret ?_
                  repeat (first | refine thenQ_ret ?_ | refine blockQ_ret ?_)
                  refine ret_many rfl ?_
                  refine res_tmp (by conv => lhs; whnf) rfl ?_
                  refine res_tmp (by conv => lhs; whnf) rfl ?_
                  refine res_nil ?_
                  clear hK6 hK42
                  have e : f = bB (lesP tr su re pr q) re pr := les_end hm (by omega) hV htop (by rcases hU with h9 | h9; exact .inl (by omega); exact .inr (by rw [show f + 1 = u by omega]; exact h9))
                  exact fTup1 (fI e) (fTup1 (fI (by rw [← e]; exact hV.symm)) rfl)
                · replace hb45 := dT hb45
                  refine ev_nil (hK43 _ ?_); clear hK43
                  refine good_condT rfl ?_
                  refine good_skip (hK42 _ ?_); clear hK42
                  refine good_block ?_
                  refine good_seq fun K47 hK47 => ?_
                  refine good_region rfl ?_
                  refine ev_q rfl (q_move (by conv => lhs; whnf) ?_)
                  refine ev_q rfl (q_move (by conv => lhs; whnf) ?_)
                  refine ev_q rfl (q_int rfl rfl ?_)
                  intro n48 hn48
                  replace hn48 := in64 hn48 (by omega) (by omega)
                  refine ev_q rfl (q_int rfl rfl ⟨by omega, ?_⟩)
                  intro n49 hn49
                  first | replace hn49 := quoE hn49 (by omega) (by omega) | replace hn49 := quoT hn49 (by omega) (by omega)
                  refine ev_q rfl (q_assign (by conv => lhs; whnf) ?_)
                  refine ev_nil (hK47 _ ?_); clear hK47
                  refine good_seq fun K50 hK50 => ?_
                  refine good_region rfl ?_
                  refine ev_q rfl (q_move (by conv => lhs; whnf) ?_)
                  refine ev_q rfl (q_move (by conv => lhs; whnf) ?_)
                  refine ev_q rfl (q_move (by conv => lhs; whnf) ?_)
                  refine ev_q rfl (q_move (by conv => lhs; whnf) ?_)
                  refine ev_q rfl (q_callI rfl rfl (rfl) (D_spec_l12Given s nd tr su re pr q _ hq hp (by omega) ht hsu hre) ?_)
                  intro n51 hn51
                  refine ev_q rfl (q_move (by conv => lhs; whnf) ?_)
                  refine ev_q rfl (q_int rfl rfl ?_)
                  intro b52 hb52; cases b52
                  · replace hb52 := dF hb52
                    refine ev_nil (hK50 _ ?_); clear hK50
                    refine good_condF rfl ?_
                    refine good_region rfl ?_
                    refine ev_q rfl (q_move (by conv => lhs; whnf) ?_)
                    refine ev_q rfl (q_assign (by conv => lhs; whnf) ?_)
                    refine ev_nil ?_
                    clear hK6 hK41
                    refine ⟨(f, n49), ?_, ?_, ?_⟩
                    · exact ⟨by first | omega | (dsimp only; omega), hV, .inr (by first | omega | (dsimp only; omega))⟩
                    · first | omega | (dsimp only; omega)
                    · refine sub_weak ?_ ?_
                      · exact weakH_none _
                      · refine weakE_upd ?e13 ?r13 (weakE_upd ?e12 ?r12 (weakE_upd ?e11 ?r11 (weakE_upd ?e2 ?r2 (weakE_upd ?e1 ?r1 (weakE_upd ?e0 ?r0 (weakE_junk _ _))))))
                        case e0 => first | rfl | exact fI (by omega) | (simp_all)
                        case r0 => intro h hh; cases hh
                        case e1 => first | rfl | exact fI (by omega) | (simp_all)
                        case r1 => intro h hh; cases hh
                        case e2 => first | rfl | exact fI (by omega) | (simp_all)
                        case r2 => intro h hh; cases hh
                        case e11 => first | rfl | exact fI (by omega) | (first | rfl | exact fI (by grind))
                        case r11 => intro h hh; cases hh
                        case e12 => first | rfl | exact fI (by omega) | (first | rfl | exact fI (by grind))
                        case r12 => intro h hh; cases hh
                        case e13 => first | rfl | exact fI (by omega) | (simp_all)
                        case r13 => intro h hh; cases hh
                  · replace hb52 := dT hb52
                    refine ev_nil (hK50 _ ?_); clear hK50
                    refine good_condT rfl ?_
                    refine good_region rfl ?_
                    refine ev_q rfl (q_move (by conv => lhs; whnf) ?_)
                    refine ev_q rfl (q_assign (by conv => lhs; whnf) ?_)
                    refine ev_nil ?_
                    clear hK6 hK41
                    refine ⟨(n49, u), ?_, ?_, ?_⟩
                    · exact ⟨by first | omega | (dsimp only; omega), by have := htop n49 (by omega) (by omega); omega, hU⟩
                    · first | omega | (dsimp only; omega)
                    · refine sub_weak ?_ ?_
                      · exact weakH_none _
                      · refine weakE_upd ?e13 ?r13 (weakE_upd ?e12 ?r12 (weakE_upd ?e11 ?r11 (weakE_upd ?e2 ?r2 (weakE_upd ?e1 ?r1 (weakE_upd ?e0 ?r0 (weakE_junk _ _))))))
                        case e0 => first | rfl | exact fI (by omega) | (simp_all)
                        case r0 => intro h hh; cases hh
                        case e1 => first | rfl | exact fI (by omega) | (simp_all)
                        case r1 => intro h hh; cases hh
                        case e2 => first | rfl | exact fI (by omega) | (simp_all)
                        case r2 => intro h hh; cases hh
                        case e11 => first | rfl | exact fI (by omega) | (first | rfl | exact fI (by grind))
                        case r11 => intro h hh; cases hh
                        case e12 => first | rfl | exact fI (by omega) | (first | rfl | exact fI (by grind))
                        case r12 => intro h hh; cases hh
                        case e13 => first | rfl | exact fI (by omega) | (simp_all)
                        case r13 => intro h hh; cases hh
            · replace hb38 := eqT hb38
              refine ev_q rfl (q_pickT rfl (by conv => lhs; whnf) ?_)
              refine ev_nil (hK21 _ ?_); clear hK21
              refine good_condT rfl ?_
              refine good_region rfl ?_
              refine ev_q rfl (q_move (by conv => lhs; whnf) ?_)
              refine ev_q rfl (q_assign (by conv => lhs; whnf) ?_)
              refine ev_nil (hK20 _ ?_); clear hK20
              refine good_seq fun K53 hK53 => ?_
              refine good_region rfl ?_
              refine ev_q rfl (q_move (by conv => lhs; whnf) ?_)
              refine ev_q rfl (q_int rfl rfl ?_)
              intro n54 hn54
              replace hn54 := in64 hn54 (by omega) (by omega)
              refine ev_q rfl (q_assign (by conv => lhs; whnf) ?_)
              refine ev_nil (hK53 _ ?_); clear hK53
              refine good_seq fun K55 hK55 => ?_
              refine good_block ?_
              obtain ⟨v, f0, hvd, hfd, htop, hv, hf1, hf2⟩ := les_v (h := h) hm (by omega) (by omega) hJ hK
              refine good_loop (α := Int × Int) (fun (f, u) => { env := upd (upd (upd (upd (upd (upd ((fun _ => .junk)) 0 (.rp [.s (.string s), .s (.int .i64 nd), .s (.int .i64 tr), .s (.int .i64 su), .s (.int .i64 re)])) 1 (.s (.int .i64 pr))) 2 (.s (.int .i64 q))) 11 (.s (.int .i64 v))) 12 (.s (.int .i64 f))) 13 (.s (.int .i64 u)), H := fun _ => none }) (fun (f, u) => (re ≤ f ∧ f + 1 ≤ u ∧ u ≤ pr + 1) ∧ mx0 (lesP tr su re pr q (f)) = v ∧ (u = pr + 1 ∨ mx0 (lesP tr su re pr q (u)) < v)) (fun (f, u) => (u - f).toNat) (f0, pr + 1) ?_ ?_ ?_
              · exact ⟨by first | omega | (dsimp only; omega), hv, .inl rfl⟩
              · refine sub_weak ?_ ?_
                · exact weakH_none _
                · refine weakE_upd ?e13 ?r13 (weakE_upd ?e12 ?r12 (weakE_upd ?e11 ?r11 (weakE_upd ?e2 ?r2 (weakE_upd ?e1 ?r1 (weakE_upd ?e0 ?r0 (weakE_junk _ _))))))
                  case e0 => first | rfl | exact fI (by omega) | (simp_all)
                  case r0 => intro h hh; cases hh
                  case e1 => first | rfl | exact fI (by omega) | (simp_all)
                  case r1 => intro h hh; cases hh
                  case e2 => first | rfl | exact fI (by omega) | (simp_all)
                  case r2 => intro h hh; cases hh
                  case e11 => first | rfl | exact fI (by omega) | (first | rfl | exact fI (by grind))
                  case r11 => intro h hh; cases hh
                  case e12 => first | rfl | exact fI (by omega) | (first | rfl | exact fI (by grind))
                  case r12 => intro h hh; cases hh
                  case e13 => first | rfl | exact fI (by omega) | (simp_all)
                  case r13 => intro h hh; cases hh
              · rintro ⟨f, u⟩ ⟨hF, hV, hU⟩
                refine good_seq fun K56 hK56 => ?_
                refine good_seq fun K57 hK57 => ?_
                refine good_region rfl ?_
                refine ev_q rfl (q_move (by conv => lhs; whnf) ?_)
                refine ev_q rfl (q_move (by conv => lhs; whnf) ?_)
                refine ev_q rfl (q_int rfl rfl ?_)
                intro n58 hn58
                replace hn58 := in64 hn58 (by omega) (by omega)
                refine ev_q rfl (q_int rfl rfl ?_)
                intro b59 hb59; cases b59
                · replace hb59 := dF hb59
                  refine ev_nil (hK57 _ ?_); clear hK57
                  refine good_condF rfl ?_
                  refine good_exit ?_
                  repeat (first | refine thenQ_exit ?_ | refine blockQ_pass rfl ?_)
                  refine blockQ_exit (hK55 _ ?_); clear hK55
                  refine good_seq fun K60 hK60 => ?_
                  refine good_region rfl ?_
                  refine ev_q rfl (q_move (by conv => lhs; whnf) ?_)
                  refine ev_q rfl (q_move (by conv => lhs; whnf) ?_)
                  refine ev_q rfl (q_assign (by conv => lhs; whnf) ?_)
                  refine ev_q rfl (q_assign (by conv => lhs; whnf) ?_)
                  refine ev_nil (hK60 _ ?_); clear hK60
                  refine good_ret ?_
                  repeat (first | refine thenQ_ret ?_ | refine blockQ_ret ?_)
                  refine ret_many rfl ?_
                  refine res_tmp (by conv => lhs; whnf) rfl ?_
                  refine res_tmp (by conv => lhs; whnf) rfl ?_
                  refine res_nil ?_
                  clear hK6 hK56
                  have e : f = bB (lesP tr su re pr q) re pr := les_end hm (by omega) hV htop (by rcases hU with h9 | h9; exact .inl (by omega); exact .inr (by rw [show f + 1 = u by omega]; exact h9))
                  exact fTup1 (fI e) (fTup1 (fI (by rw [← e]; exact hV.symm)) rfl)
                · replace hb59 := dT hb59
                  refine ev_nil (hK57 _ ?_); clear hK57
                  refine good_condT rfl ?_
                  refine good_skip (hK56 _ ?_); clear hK56
                  refine good_block ?_
                  refine good_seq fun K61 hK61 => ?_
                  refine good_region rfl ?_
                  refine ev_q rfl (q_move (by conv => lhs; whnf) ?_)
                  refine ev_q rfl (q_move (by conv => lhs; whnf) ?_)
                  refine ev_q rfl (q_int rfl rfl ?_)
                  intro n62 hn62
                  replace hn62 := in64 hn62 (by omega) (by omega)
                  refine ev_q rfl (q_int rfl rfl ⟨by omega, ?_⟩)
                  intro n63 hn63
                  first | replace hn63 := quoE hn63 (by omega) (by omega) | replace hn63 := quoT hn63 (by omega) (by omega)
                  refine ev_q rfl (q_assign (by conv => lhs; whnf) ?_)
                  refine ev_nil (hK61 _ ?_); clear hK61
                  refine good_seq fun K64 hK64 => ?_
                  refine good_region rfl ?_
                  refine ev_q rfl (q_move (by conv => lhs; whnf) ?_)
                  refine ev_q rfl (q_move (by conv => lhs; whnf) ?_)
                  refine ev_q rfl (q_move (by conv => lhs; whnf) ?_)
                  refine ev_q rfl (q_move (by conv => lhs; whnf) ?_)
                  refine ev_q rfl (q_callI rfl rfl (rfl) (D_spec_l12Given s nd tr su re pr q _ hq hp (by omega) ht hsu hre) ?_)
                  intro n65 hn65
                  refine ev_q rfl (q_move (by conv => lhs; whnf) ?_)
                  refine ev_q rfl (q_int rfl rfl ?_)
                  intro b66 hb66; cases b66
                  · replace hb66 := dF hb66
                    refine ev_nil (hK64 _ ?_); clear hK64
                    refine good_condF rfl ?_
                    refine good_region rfl ?_
                    refine ev_q rfl (q_move (by conv => lhs; whnf) ?_)
                    refine ev_q rfl (q_assign (by conv => lhs; whnf) ?_)
                    refine ev_nil ?_
                    clear hK6 hK55
                    refine ⟨(f, n63), ?_, ?_, ?_⟩
                    · exact ⟨by first | omega | (dsimp only; omega), hV, .inr (by first | omega | (dsimp only; omega))⟩
                    · first | omega | (dsimp only; omega)
                    · refine sub_weak ?_ ?_
                      · exact weakH_none _
                      · refine weakE_upd ?e13 ?r13 (weakE_upd ?e12 ?r12 (weakE_upd ?e11 ?r11 (weakE_upd ?e2 ?r2 (weakE_upd ?e1 ?r1 (weakE_upd ?e0 ?r0 (weakE_junk _ _))))))
                        case e0 => first | rfl | exact fI (by omega) | (simp_all)
                        case r0 => intro h hh; cases hh
                        case e1 => first | rfl | exact fI (by omega) | (simp_all)
                        case r1 => intro h hh; cases hh
                        case e2 => first | rfl | exact fI (by omega) | (simp_all)
                        case r2 => intro h hh; cases hh
                        case e11 => first | rfl | exact fI (by omega) | (first | rfl | exact fI (by grind))
                        case r11 => intro h hh; cases hh
                        case e12 => first | rfl | exact fI (by omega) | (first | rfl | exact fI (by grind))
                        case r12 => intro h hh; cases hh
                        case e13 => first | rfl | exact fI (by omega) | (simp_all)
                        case r13 => intro h hh; cases hh
                  · replace hb66 := dT hb66
                    refine ev_nil (hK64 _ ?_); clear hK64
                    refine good_condT rfl ?_
                    refine good_region rfl ?_
                    refine ev_q rfl (q_move (by conv => lhs; whnf) ?_)
                    refine ev_q rfl (q_assign (by conv => lhs; whnf) ?_)
                    refine ev_nil ?_
                    clear hK6 hK55
                    refine ⟨(n63, u), ?_, ?_, ?_⟩
                    · exact ⟨by first | omega | (dsimp only; omega), by have := htop n63 (by omega) (by omega); omega, hU⟩
                    · first | omega | (dsimp only; omega)
                    · refine sub_weak ?_ ?_
                      · exact weakH_none _
                      · refine weakE_upd ?e13 ?r13 (weakE_upd ?e12 ?r12 (weakE_upd ?e11 ?r11 (weakE_upd ?e2 ?r2 (weakE_upd ?e1 ?r1 (weakE_upd ?e0 ?r0 (weakE_junk _ _))))))
                        case e0 => first | rfl | exact fI (by omega) | (simp_all)
                        case r0 => intro h hh; cases hh
                        case e1 => first | rfl | exact fI (by omega) | (simp_all)
                        case r1 => intro h hh; cases hh
                        case e2 => first | rfl | exact fI (by omega) | (simp_all)
                        case r2 => intro h hh; cases hh
                        case e11 => first | rfl | exact fI (by omega) | (first | rfl | exact fI (by grind))
                        case r11 => intro h hh; cases hh
                        case e12 => first | rfl | exact fI (by omega) | (first | rfl | exact fI (by grind))
                        case r12 => intro h hh; cases hh
                        case e13 => first | rfl | exact fI (by omega) | (simp_all)
                        case r13 => intro h hh; cases hh
        · replace hb19 := eqT hb19
          refine ev_nil (hK17 _ ?_); clear hK17
          refine good_condT rfl ?_
          refine good_region rfl ?_
          refine ev_q rfl (q_move (by conv => lhs; whnf) ?_)
          refine ev_q rfl (q_assign (by conv => lhs; whnf) ?_)
          refine ev_nil (hK16 _ ?_); clear hK16
          refine good_seq fun K67 hK67 => ?_
          refine good_seq fun K68 hK68 => ?_
          refine good_region rfl ?_
          refine ev_q rfl (q_move (by conv => lhs; whnf) ?_)
          refine ev_q rfl (q_move (by conv => lhs; whnf) ?_)
          refine ev_q rfl (q_int rfl rfl ?_)
          intro b69 hb69; cases b69
          · replace hb69 := dF hb69
            refine ev_q rfl (q_move (by conv => lhs; whnf) ?_)
            refine ev_skip rfl ?_
            refine ev_skip rfl ?_
            refine ev_skip rfl ?_
            refine ev_skip rfl ?_
            refine ev_skip rfl ?_
            refine ev_skip rfl ?_
            refine ev_skip rfl ?_
            refine ev_q rfl (q_pickF rfl (by conv => lhs; whnf) ?_)
            refine ev_nil (hK68 _ ?_); clear hK68
            refine good_condF rfl ?_
            refine good_skip (hK67 _ ?_); clear hK67
            refine good_seq fun K70 hK70 => ?_
            refine good_region rfl ?_
            refine ev_q rfl (q_move (by conv => lhs; whnf) ?_)
            refine ev_q rfl (q_int rfl rfl ?_)
            intro n71 hn71
            replace hn71 := in64 hn71 (by omega) (by omega)
            refine ev_q rfl (q_assign (by conv => lhs; whnf) ?_)
            refine ev_nil (hK70 _ ?_); clear hK70
            refine good_seq fun K72 hK72 => ?_
            refine good_block ?_
            obtain ⟨v, f0, hvd, hfd, htop, hv, hf1, hf2⟩ := les_v (h := h) hm (by omega) (by omega) hJ hK
            refine good_loop (α := Int × Int) (fun (f, u) => { env := upd (upd (upd (upd (upd (upd ((fun _ => .junk)) 0 (.rp [.s (.string s), .s (.int .i64 nd), .s (.int .i64 tr), .s (.int .i64 su), .s (.int .i64 re)])) 1 (.s (.int .i64 pr))) 2 (.s (.int .i64 q))) 11 (.s (.int .i64 v))) 12 (.s (.int .i64 f))) 13 (.s (.int .i64 u)), H := fun _ => none }) (fun (f, u) => (re ≤ f ∧ f + 1 ≤ u ∧ u ≤ pr + 1) ∧ mx0 (lesP tr su re pr q (f)) = v ∧ (u = pr + 1 ∨ mx0 (lesP tr su re pr q (u)) < v)) (fun (f, u) => (u - f).toNat) (f0, pr + 1) ?_ ?_ ?_
            · exact ⟨by first | omega | (dsimp only; omega), hv, .inl rfl⟩
            · refine sub_weak ?_ ?_
              · exact weakH_none _
              · refine weakE_upd ?e13 ?r13 (weakE_upd ?e12 ?r12 (weakE_upd ?e11 ?r11 (weakE_upd ?e2 ?r2 (weakE_upd ?e1 ?r1 (weakE_upd ?e0 ?r0 (weakE_junk _ _))))))
                case e0 => first | rfl | exact fI (by omega) | (simp_all)
                case r0 => intro h hh; cases hh
                case e1 => first | rfl | exact fI (by omega) | (simp_all)
                case r1 => intro h hh; cases hh
                case e2 => first | rfl | exact fI (by omega) | (simp_all)
                case r2 => intro h hh; cases hh
                case e11 => first | rfl | exact fI (by omega) | (first | rfl | exact fI (by grind))
                case r11 => intro h hh; cases hh
                case e12 => first | rfl | exact fI (by omega) | (first | rfl | exact fI (by grind))
                case r12 => intro h hh; cases hh
                case e13 => first | rfl | exact fI (by omega) | (simp_all)
                case r13 => intro h hh; cases hh
            · rintro ⟨f, u⟩ ⟨hF, hV, hU⟩
              refine good_seq fun K73 hK73 => ?_
              refine good_seq fun K74 hK74 => ?_
              refine good_region rfl ?_
              refine ev_q rfl (q_move (by conv => lhs; whnf) ?_)
              refine ev_q rfl (q_move (by conv => lhs; whnf) ?_)
              refine ev_q rfl (q_int rfl rfl ?_)
              intro n75 hn75
              replace hn75 := in64 hn75 (by omega) (by omega)
              refine ev_q rfl (q_int rfl rfl ?_)
              intro b76 hb76; cases b76
              · replace hb76 := dF hb76
                refine ev_nil (hK74 _ ?_); clear hK74
                refine good_condF rfl ?_
                refine good_exit ?_
                repeat (first | refine thenQ_exit ?_ | refine blockQ_pass rfl ?_)
                refine blockQ_exit (hK72 _ ?_); clear hK72
                refine good_seq fun K77 hK77 => ?_
                refine good_region rfl ?_
                refine ev_q rfl (q_move (by conv => lhs; whnf) ?_)
                refine ev_q rfl (q_move (by conv => lhs; whnf) ?_)
                refine ev_q rfl (q_assign (by conv => lhs; whnf) ?_)
                refine ev_q rfl (q_assign (by conv => lhs; whnf) ?_)
                refine ev_nil (hK77 _ ?_); clear hK77
                refine good_ret ?_
                repeat (first | refine thenQ_ret ?_ | refine blockQ_ret ?_)
                refine ret_many rfl ?_
                refine res_tmp (by conv => lhs; whnf) rfl ?_
                refine res_tmp (by conv => lhs; whnf) rfl ?_
                refine res_nil ?_
                clear hK6 hK73
                have e : f = bB (lesP tr su re pr q) re pr := les_end hm (by omega) hV htop (by rcases hU with h9 | h9; exact .inl (by omega); exact .inr (by rw [show f + 1 = u by omega]; exact h9))
                exact fTup1 (fI e) (fTup1 (fI (by rw [← e]; exact hV.symm)) rfl)
              · replace hb76 := dT hb76
                refine ev_nil (hK74 _ ?_); clear hK74
                refine good_condT rfl ?_
                refine good_skip (hK73 _ ?_); clear hK73
                refine good_block ?_
                refine good_seq fun K78 hK78 => ?_
                refine good_region rfl ?_
                refine ev_q rfl (q_move (by conv => lhs; whnf) ?_)
                refine ev_q rfl (q_move (by conv => lhs; whnf) ?_)
                refine ev_q rfl (q_int rfl rfl ?_)
                intro n79 hn79
                replace hn79 := in64 hn79 (by omega) (by omega)
                refine ev_q rfl (q_int rfl rfl ⟨by omega, ?_⟩)
                intro n80 hn80
                first | replace hn80 := quoE hn80 (by omega) (by omega) | replace hn80 := quoT hn80 (by omega) (by omega)
                refine ev_q rfl (q_assign (by conv => lhs; whnf) ?_)
                refine ev_nil (hK78 _ ?_); clear hK78
                refine good_seq fun K81 hK81 => ?_
                refine good_region rfl ?_
                refine ev_q rfl (q_move (by conv => lhs; whnf) ?_)
                refine ev_q rfl (q_move (by conv => lhs; whnf) ?_)
                refine ev_q rfl (q_move (by conv => lhs; whnf) ?_)
                refine ev_q rfl (q_move (by conv => lhs; whnf) ?_)
                refine ev_q rfl (q_callI rfl rfl (rfl) (D_spec_l12Given s nd tr su re pr q _ hq hp (by omega) ht hsu hre) ?_)
                intro n82 hn82
                refine ev_q rfl (q_move (by conv => lhs; whnf) ?_)
                refine ev_q rfl (q_int rfl rfl ?_)
                intro b83 hb83; cases b83
                · replace hb83 := dF hb83
                  refine ev_nil (hK81 _ ?_); clear hK81
                  refine good_condF rfl ?_
                  refine good_region rfl ?_
                  refine ev_q rfl (q_move (by conv => lhs; whnf) ?_)
                  refine ev_q rfl (q_assign (by conv => lhs; whnf) ?_)
                  refine ev_nil ?_
                  clear hK6 hK72
                  refine ⟨(f, n80), ?_, ?_, ?_⟩
                  · exact ⟨by first | omega | (dsimp only; omega), hV, .inr (by first | omega | (dsimp only; omega))⟩
                  · first | omega | (dsimp only; omega)
                  · refine sub_weak ?_ ?_
                    · exact weakH_none _
                    · refine weakE_upd ?e13 ?r13 (weakE_upd ?e12 ?r12 (weakE_upd ?e11 ?r11 (weakE_upd ?e2 ?r2 (weakE_upd ?e1 ?r1 (weakE_upd ?e0 ?r0 (weakE_junk _ _))))))
                      case e0 => first | rfl | exact fI (by omega) | (simp_all)
                      case r0 => intro h hh; cases hh
                      case e1 => first | rfl | exact fI (by omega) | (simp_all)
                      case r1 => intro h hh; cases hh
                      case e2 => first | rfl | exact fI (by omega) | (simp_all)
                      case r2 => intro h hh; cases hh
                      case e11 => first | rfl | exact fI (by omega) | (first | rfl | exact fI (by grind))
                      case r11 => intro h hh; cases hh
                      case e12 => first | rfl | exact fI (by omega) | (first | rfl | exact fI (by grind))
                      case r12 => intro h hh; cases hh
                      case e13 => first | rfl | exact fI (by omega) | (simp_all)
                      case r13 => intro h hh; cases hh
                · replace hb83 := dT hb83
                  refine ev_nil (hK81 _ ?_); clear hK81
                  refine good_condT rfl ?_
                  refine good_region rfl ?_
                  refine ev_q rfl (q_move (by conv => lhs; whnf) ?_)
                  refine ev_q rfl (q_assign (by conv => lhs; whnf) ?_)
                  refine ev_nil ?_
                  clear hK6 hK72
                  refine ⟨(n80, u), ?_, ?_, ?_⟩
                  · exact ⟨by first | omega | (dsimp only; omega), by have := htop n80 (by omega) (by omega); omega, hU⟩
                  · first | omega | (dsimp only; omega)
                  · refine sub_weak ?_ ?_
                    · exact weakH_none _
                    · refine weakE_upd ?e13 ?r13 (weakE_upd ?e12 ?r12 (weakE_upd ?e11 ?r11 (weakE_upd ?e2 ?r2 (weakE_upd ?e1 ?r1 (weakE_upd ?e0 ?r0 (weakE_junk _ _))))))
                      case e0 => first | rfl | exact fI (by omega) | (simp_all)
                      case r0 => intro h hh; cases hh
                      case e1 => first | rfl | exact fI (by omega) | (simp_all)
                      case r1 => intro h hh; cases hh
                      case e2 => first | rfl | exact fI (by omega) | (simp_all)
                      case r2 => intro h hh; cases hh
                      case e11 => first | rfl | exact fI (by omega) | (first | rfl | exact fI (by grind))
                      case r11 => intro h hh; cases hh
                      case e12 => first | rfl | exact fI (by omega) | (first | rfl | exact fI (by grind))
                      case r12 => intro h hh; cases hh
                      case e13 => first | rfl | exact fI (by omega) | (simp_all)
                      case r13 => intro h hh; cases hh
          · replace hb69 := dT hb69
            refine ev_q rfl (q_move (by conv => lhs; whnf) ?_)
            refine ev_q rfl (q_move (by conv => lhs; whnf) ?_)
            refine ev_q rfl (q_move (by conv => lhs; whnf) ?_)
            refine ev_q rfl (q_move (by conv => lhs; whnf) ?_)
            refine ev_q rfl (q_move (by conv => lhs; whnf) ?_)
            refine ev_q rfl (q_callI rfl rfl (rfl) (D_spec_l12Given s nd tr su re pr q _ hq hp (by omega) ht hsu hre) ?_)
            intro n84 hn84
            refine ev_q rfl (q_move (by conv => lhs; whnf) ?_)
            refine ev_q rfl (q_int rfl rfl ?_)
            intro b85 hb85; cases b85
            · replace hb85 := eqF hb85
              refine ev_q rfl (q_pickT rfl (by conv => lhs; whnf) ?_)
              refine ev_nil (hK68 _ ?_); clear hK68
              refine good_condF rfl ?_
              refine good_skip (hK67 _ ?_); clear hK67
              refine good_seq fun K86 hK86 => ?_
              refine good_region rfl ?_
              refine ev_q rfl (q_move (by conv => lhs; whnf) ?_)
              refine ev_q rfl (q_int rfl rfl ?_)
              intro n87 hn87
              replace hn87 := in64 hn87 (by omega) (by omega)
              refine ev_q rfl (q_assign (by conv => lhs; whnf) ?_)
              refine ev_nil (hK86 _ ?_); clear hK86
              refine good_seq fun K88 hK88 => ?_
              refine good_block ?_
              obtain ⟨v, f0, hvd, hfd, htop, hv, hf1, hf2⟩ := les_v (h := h) hm (by omega) (by omega) hJ hK
              refine good_loop (α := Int × Int) (fun (f, u) => { env := upd (upd (upd (upd (upd (upd ((fun _ => .junk)) 0 (.rp [.s (.string s), .s (.int .i64 nd), .s (.int .i64 tr), .s (.int .i64 su), .s (.int .i64 re)])) 1 (.s (.int .i64 pr))) 2 (.s (.int .i64 q))) 11 (.s (.int .i64 v))) 12 (.s (.int .i64 f))) 13 (.s (.int .i64 u)), H := fun _ => none }) (fun (f, u) => (re ≤ f ∧ f + 1 ≤ u ∧ u ≤ pr + 1) ∧ mx0 (lesP tr su re pr q (f)) = v ∧ (u = pr + 1 ∨ mx0 (lesP tr su re pr q (u)) < v)) (fun (f, u) => (u - f).toNat) (f0, pr + 1) ?_ ?_ ?_
              · exact ⟨by first | omega | (dsimp only; omega), hv, .inl rfl⟩
              · refine sub_weak ?_ ?_
                · exact weakH_none _
                · refine weakE_upd ?e13 ?r13 (weakE_upd ?e12 ?r12 (weakE_upd ?e11 ?r11 (weakE_upd ?e2 ?r2 (weakE_upd ?e1 ?r1 (weakE_upd ?e0 ?r0 (weakE_junk _ _))))))
                  case e0 => first | rfl | exact fI (by omega) | (simp_all)
                  case r0 => intro h hh; cases hh
                  case e1 => first | rfl | exact fI (by omega) | (simp_all)
                  case r1 => intro h hh; cases hh
                  case e2 => first | rfl | exact fI (by omega) | (simp_all)
                  case r2 => intro h hh; cases hh
                  case e11 => first | rfl | exact fI (by omega) | (first | rfl | exact fI (by grind))
                  case r11 => intro h hh; cases hh
                  case e12 => first | rfl | exact fI (by omega) | (first | rfl | exact fI (by grind))
                  case r12 => intro h hh; cases hh
                  case e13 => first | rfl | exact fI (by omega) | (simp_all)
                  case r13 => intro h hh; cases hh
              · rintro ⟨f, u⟩ ⟨hF, hV, hU⟩
                refine good_seq fun K89 hK89 => ?_
                refine good_seq fun K90 hK90 => ?_
                refine good_region rfl ?_
                refine ev_q rfl (q_move (by conv => lhs; whnf) ?_)
                refine ev_q rfl (q_move (by conv => lhs; whnf) ?_)
                refine ev_q rfl (q_int rfl rfl ?_)
                intro n91 hn91
                replace hn91 := in64 hn91 (by omega) (by omega)
                refine ev_q rfl (q_int rfl rfl ?_)
                intro b92 hb92; cases b92
                · replace hb92 := dF hb92
                  refine ev_nil (hK90 _ ?_); clear hK90
                  refine good_condF rfl ?_
                  refine good_exit ?_
                  repeat (first | refine thenQ_exit ?_ | refine blockQ_pass rfl ?_)
                  refine blockQ_exit (hK88 _ ?_); clear hK88
                  refine good_seq fun K93 hK93 => ?_
                  refine good_region rfl ?_
                  refine ev_q rfl (q_move (by conv => lhs; whnf) ?_)
                  refine ev_q rfl (q_move (by conv => lhs; whnf) ?_)
                  refine ev_q rfl (q_assign (by conv => lhs; whnf) ?_)
                  refine ev_q rfl (q_assign (by conv => lhs; whnf) ?_)
                  refine ev_nil (hK93 _ ?_); clear hK93
                  refine good_ret ?_
                  repeat (first | refine thenQ_ret ?_ | refine blockQ_ret ?_)
                  refine ret_many rfl ?_
                  refine res_tmp (by conv => lhs; whnf) rfl ?_
                  refine res_tmp (by conv => lhs; whnf) rfl ?_
                  refine res_nil ?_
                  clear hK6 hK89
                  have e : f = bB (lesP tr su re pr q) re pr := les_end hm (by omega) hV htop (by rcases hU with h9 | h9; exact .inl (by omega); exact .inr (by rw [show f + 1 = u by omega]; exact h9))
                  exact fTup1 (fI e) (fTup1 (fI (by rw [← e]; exact hV.symm)) rfl)
                · replace hb92 := dT hb92
                  refine ev_nil (hK90 _ ?_); clear hK90
                  refine good_condT rfl ?_
                  refine good_skip (hK89 _ ?_); clear hK89
                  refine good_block ?_
                  refine good_seq fun K94 hK94 => ?_
                  refine good_region rfl ?_
                  refine ev_q rfl (q_move (by conv => lhs; whnf) ?_)
                  refine ev_q rfl (q_move (by conv => lhs; whnf) ?_)
                  refine ev_q rfl (q_int rfl rfl ?_)
                  intro n95 hn95
                  replace hn95 := in64 hn95 (by omega) (by omega)
                  refine ev_q rfl (q_int rfl rfl ⟨by omega, ?_⟩)
                  intro n96 hn96
                  first | replace hn96 := quoE hn96 (by omega) (by omega) | replace hn96 := quoT hn96 (by omega) (by omega)
                  refine ev_q rfl (q_assign (by conv => lhs; whnf) ?_)
                  refine ev_nil (hK94 _ ?_); clear hK94
                  refine good_seq fun K97 hK97 => ?_
                  refine good_region rfl ?_
                  refine ev_q rfl (q_move (by conv => lhs; whnf) ?_)
                  refine ev_q rfl (q_move (by conv => lhs; whnf) ?_)
                  refine ev_q rfl (q_move (by conv => lhs; whnf) ?_)
                  refine ev_q rfl (q_move (by conv => lhs; whnf) ?_)
                  refine ev_q rfl (q_callI rfl rfl (rfl) (D_spec_l12Given s nd tr su re pr q _ hq hp (by omega) ht hsu hre) ?_)
                  intro n98 hn98
                  refine ev_q rfl (q_move (by conv => lhs; whnf) ?_)
                  refine ev_q rfl (q_int rfl rfl ?_)
                  intro b99 hb99; cases b99
                  · replace hb99 := dF hb99
                    refine ev_nil (hK97 _ ?_); clear hK97
                    refine good_condF rfl ?_
                    refine good_region rfl ?_
                    refine ev_q rfl (q_move (by conv => lhs; whnf) ?_)
                    refine ev_q rfl (q_assign (by conv => lhs; whnf) ?_)
                    refine ev_nil ?_
                    clear hK6 hK88
                    refine ⟨(f, n96), ?_, ?_, ?_⟩
                    · exact ⟨by first | omega | (dsimp only; omega), hV, .inr (by first | omega | (dsimp only; omega))⟩
                    · first | omega | (dsimp only; omega)
                    · refine sub_weak ?_ ?_
                      · exact weakH_none _
                      · refine weakE_upd ?e13 ?r13 (weakE_upd ?e12 ?r12 (weakE_upd ?e11 ?r11 (weakE_upd ?e2 ?r2 (weakE_upd ?e1 ?r1 (weakE_upd ?e0 ?r0 (weakE_junk _ _))))))
                        case e0 => first | rfl | exact fI (by omega) | (simp_all)
                        case r0 => intro h hh; cases hh
                        case e1 => first | rfl | exact fI (by omega) | (simp_all)
                        case r1 => intro h hh; cases hh
                        case e2 => first | rfl | exact fI (by omega) | (simp_all)
                        case r2 => intro h hh; cases hh
                        case e11 => first | rfl | exact fI (by omega) | (first | rfl | exact fI (by grind))
                        case r11 => intro h hh; cases hh
                        case e12 => first | rfl | exact fI (by omega) | (first | rfl | exact fI (by grind))
                        case r12 => intro h hh; cases hh
                        case e13 => first | rfl | exact fI (by omega) | (simp_all)
                        case r13 => intro h hh; cases hh
                  · replace hb99 := dT hb99
                    refine ev_nil (hK97 _ ?_); clear hK97
                    refine good_condT rfl ?_
                    refine good_region rfl ?_
                    refine ev_q rfl (q_move (by conv => lhs; whnf) ?_)
                    refine ev_q rfl (q_assign (by conv => lhs; whnf) ?_)
                    refine ev_nil ?_
                    clear hK6 hK88
                    refine ⟨(n96, u), ?_, ?_, ?_⟩
                    · exact ⟨by first | omega | (dsimp only; omega), by have := htop n96 (by omega) (by omega); omega, hU⟩
                    · first | omega | (dsimp only; omega)
                    · refine sub_weak ?_ ?_
                      · exact weakH_none _
                      · refine weakE_upd ?e13 ?r13 (weakE_upd ?e12 ?r12 (weakE_upd ?e11 ?r11 (weakE_upd ?e2 ?r2 (weakE_upd ?e1 ?r1 (weakE_upd ?e0 ?r0 (weakE_junk _ _))))))
                        case e0 => first | rfl | exact fI (by omega) | (simp_all)
                        case r0 => intro h hh; cases hh
                        case e1 => first | rfl | exact fI (by omega) | (simp_all)
                        case r1 => intro h hh; cases hh
                        case e2 => first | rfl | exact fI (by omega) | (simp_all)
                        case r2 => intro h hh; cases hh
                        case e11 => first | rfl | exact fI (by omega) | (first | rfl | exact fI (by grind))
                        case r11 => intro h hh; cases hh
                        case e12 => first | rfl | exact fI (by omega) | (first | rfl | exact fI (by grind))
                        case r12 => intro h hh; cases hh
                        case e13 => first | rfl | exact fI (by omega) | (simp_all)
                        case r13 => intro h hh; cases hh
            · replace hb85 := eqT hb85
              refine ev_q rfl (q_pickT rfl (by conv => lhs; whnf) ?_)
              refine ev_nil (hK68 _ ?_); clear hK68
              refine good_condT rfl ?_
              refine good_region rfl ?_
              refine ev_q rfl (q_move (by conv => lhs; whnf) ?_)
              refine ev_q rfl (q_assign (by conv => lhs; whnf) ?_)
              refine ev_nil (hK67 _ ?_); clear hK67
              refine good_seq fun K100 hK100 => ?_
              refine good_region rfl ?_
              refine ev_q rfl (q_move (by conv => lhs; whnf) ?_)
              refine ev_q rfl (q_int rfl rfl ?_)
              intro n101 hn101
              replace hn101 := in64 hn101 (by omega) (by omega)
              refine ev_q rfl (q_assign (by conv => lhs; whnf) ?_)
              refine ev_nil (hK100 _ ?_); clear hK100
              refine good_seq fun K102 hK102 => ?_
              refine good_block ?_
              obtain ⟨v, f0, hvd, hfd, htop, hv, hf1, hf2⟩ := les_v (h := h) hm (by omega) (by omega) hJ hK
              refine good_loop (α := Int × Int) (fun (f, u) => { env := upd (upd (upd (upd (upd (upd ((fun _ => .junk)) 0 (.rp [.s (.string s), .s (.int .i64 nd), .s (.int .i64 tr), .s (.int .i64 su), .s (.int .i64 re)])) 1 (.s (.int .i64 pr))) 2 (.s (.int .i64 q))) 11 (.s (.int .i64 v))) 12 (.s (.int .i64 f))) 13 (.s (.int .i64 u)), H := fun _ => none }) (fun (f, u) => (re ≤ f ∧ f + 1 ≤ u ∧ u ≤ pr + 1) ∧ mx0 (lesP tr su re pr q (f)) = v ∧ (u = pr + 1 ∨ mx0 (lesP tr su re pr q (u)) < v)) (fun (f, u) => (u - f).toNat) (f0, pr + 1) ?_ ?_ ?_
              · exact ⟨by first | omega | (dsimp only; omega), hv, .inl rfl⟩
              · refine sub_weak ?_ ?_
                · exact weakH_none _
                · refine weakE_upd ?e13 ?r13 (weakE_upd ?e12 ?r12 (weakE_upd ?e11 ?r11 (weakE_upd ?e2 ?r2 (weakE_upd ?e1 ?r1 (weakE_upd ?e0 ?r0 (weakE_junk _ _))))))
                  case e0 => first | rfl | exact fI (by omega) | (simp_all)
                  case r0 => intro h hh; cases hh
                  case e1 => first | rfl | exact fI (by omega) | (simp_all)
                  case r1 => intro h hh; cases hh
                  case e2 => first | rfl | exact fI (by omega) | (simp_all)
                  case r2 => intro h hh; cases hh
                  case e11 => first | rfl | exact fI (by omega) | (first | rfl | exact fI (by grind))
                  case r11 => intro h hh; cases hh
                  case e12 => first | rfl | exact fI (by omega) | (first | rfl | exact fI (by grind))
                  case r12 => intro h hh; cases hh
                  case e13 => first | rfl | exact fI (by omega) | (simp_all)
                  case r13 => intro h hh; cases hh
              · rintro ⟨f, u⟩ ⟨hF, hV, hU⟩
                refine good_seq fun K103 hK103 => ?_
                refine good_seq fun K104 hK104 => ?_
                refine good_region rfl ?_
                refine ev_q rfl (q_move (by conv => lhs; whnf) ?_)
                refine ev_q rfl (q_move (by conv => lhs; whnf) ?_)
                refine ev_q rfl (q_int rfl rfl ?_)
                intro n105 hn105
                replace hn105 := in64 hn105 (by omega) (by omega)
                refine ev_q rfl (q_int rfl rfl ?_)
                intro b106 hb106; cases b106
                · replace hb106 := dF hb106
                  refine ev_nil (hK104 _ ?_); clear hK104
                  refine good_condF rfl ?_
                  refine good_exit ?_
                  repeat (first | refine thenQ_exit ?_ | refine blockQ_pass rfl ?_)
                  refine blockQ_exit (hK102 _ ?_); clear hK102
                  refine good_seq fun K107 hK107 => ?_
                  refine good_region rfl ?_
                  refine ev_q rfl (q_move (by conv => lhs; whnf) ?_)
                  refine ev_q rfl (q_move (by conv => lhs; whnf) ?_)
                  refine ev_q rfl (q_assign (by conv => lhs; whnf) ?_)
                  refine ev_q rfl (q_assign (by conv => lhs; whnf) ?_)
                  refine ev_nil (hK107 _ ?_); clear hK107
                  refine good_ret ?_
                  repeat (first | refine thenQ_ret ?_ | refine blockQ_ret ?_)
                  refine ret_many rfl ?_
                  refine res_tmp (by conv => lhs; whnf) rfl ?_
                  refine res_tmp (by conv => lhs; whnf) rfl ?_
                  refine res_nil ?_
                  clear hK6 hK103
                  have e : f = bB (lesP tr su re pr q) re pr := les_end hm (by omega) hV htop (by rcases hU with h9 | h9; exact .inl (by omega); exact .inr (by rw [show f + 1 = u by omega]; exact h9))
                  exact fTup1 (fI e) (fTup1 (fI (by rw [← e]; exact hV.symm)) rfl)
                · replace hb106 := dT hb106
                  refine ev_nil (hK104 _ ?_); clear hK104
                  refine good_condT rfl ?_
                  refine good_skip (hK103 _ ?_); clear hK103
                  refine good_block ?_
                  refine good_seq fun K108 hK108 => ?_
                  refine good_region rfl ?_
                  refine ev_q rfl (q_move (by conv => lhs; whnf) ?_)
                  refine ev_q rfl (q_move (by conv => lhs; whnf) ?_)
                  refine ev_q rfl (q_int rfl rfl ?_)
                  intro n109 hn109
                  replace hn109 := in64 hn109 (by omega) (by omega)
                  refine ev_q rfl (q_int rfl rfl ⟨by omega, ?_⟩)
                  intro n110 hn110
                  first | replace hn110 := quoE hn110 (by omega) (by omega) | replace hn110 := quoT hn110 (by omega) (by omega)
                  refine ev_q rfl (q_assign (by conv => lhs; whnf) ?_)
                  refine ev_nil (hK108 _ ?_); clear hK108
                  refine good_seq fun K111 hK111 => ?_
                  refine good_region rfl ?_
                  refine ev_q rfl (q_move (by conv => lhs; whnf) ?_)
                  refine ev_q rfl (q_move (by conv => lhs; whnf) ?_)
                  refine ev_q rfl (q_move (by conv => lhs; whnf) ?_)
                  refine ev_q rfl (q_move (by conv => lhs; whnf) ?_)
                  refine ev_q rfl (q_callI rfl rfl (rfl) (D_spec_l12Given s nd tr su re pr q _ hq hp (by omega) ht hsu hre) ?_)
                  intro n112 hn112
                  refine ev_q rfl (q_move (by conv => lhs; whnf) ?_)
                  refine ev_q rfl (q_int rfl rfl ?_)
                  intro b113 hb113; cases b113
                  · replace hb113 := dF hb113
                    refine ev_nil (hK111 _ ?_); clear hK111
                    refine good_condF rfl ?_
                    refine good_region rfl ?_
                    refine ev_q rfl (q_move (by conv => lhs; whnf) ?_)
                    refine ev_q rfl (q_assign (by conv => lhs; whnf) ?_)
                    refine ev_nil ?_
                    clear hK6 hK102
                    refine ⟨(f, n110), ?_, ?_, ?_⟩
                    · exact ⟨by first | omega | (dsimp only; omega), hV, .inr (by first | omega | (dsimp only; omega))⟩
                    · first | omega | (dsimp only; omega)
                    · refine sub_weak ?_ ?_
                      · exact weakH_none _
                      · refine weakE_upd ?e13 ?r13 (weakE_upd ?e12 ?r12 (weakE_upd ?e11 ?r11 (weakE_upd ?e2 ?r2 (weakE_upd ?e1 ?r1 (weakE_upd ?e0 ?r0 (weakE_junk _ _))))))
                        case e0 => first | rfl | exact fI (by omega) | (simp_all)
                        case r0 => intro h hh; cases hh
                        case e1 => first | rfl | exact fI (by omega) | (simp_all)
                        case r1 => intro h hh; cases hh
                        case e2 => first | rfl | exact fI (by omega) | (simp_all)
                        case r2 => intro h hh; cases hh
                        case e11 => first | rfl | exact fI (by omega) | (first | rfl | exact fI (by grind))
                        case r11 => intro h hh; cases hh
                        case e12 => first | rfl | exact fI (by omega) | (first | rfl | exact fI (by grind))
                        case r12 => intro h hh; cases hh
                        case e13 => first | rfl | exact fI (by omega) | (simp_all)
                        case r13 => intro h hh; cases hh
                  · replace hb113 := dT hb113
                    refine ev_nil (hK111 _ ?_); clear hK111
                    refine good_condT rfl ?_
                    refine good_region rfl ?_
                    refine ev_q rfl (q_move (by conv => lhs; whnf) ?_)
                    refine ev_q rfl (q_assign (by conv => lhs; whnf) ?_)
                    refine ev_nil ?_
                    clear hK6 hK102
                    refine ⟨(n110, u), ?_, ?_, ?_⟩
                    · exact ⟨by first | omega | (dsimp only; omega), by have := htop n110 (by omega) (by omega); omega, hU⟩
                    · first | omega | (dsimp only; omega)
                    · refine sub_weak ?_ ?_
                      · exact weakH_none _
                      · refine weakE_upd ?e13 ?r13 (weakE_upd ?e12 ?r12 (weakE_upd ?e11 ?r11 (weakE_upd ?e2 ?r2 (weakE_upd ?e1 ?r1 (weakE_upd ?e0 ?r0 (weakE_junk _ _))))))
                        case e0 => first | rfl | exact fI (by omega) | (simp_all)
                        case r0 => intro h hh; cases hh
                        case e1 => first | rfl | exact fI (by omega) | (simp_all)
                        case r1 => intro h hh; cases hh
                        case e2 => first | rfl | exact fI (by omega) | (simp_all)
                        case r2 => intro h hh; cases hh
                        case e11 => first | rfl | exact fI (by omega) | (first | rfl | exact fI (by grind))
                        case r11 => intro h hh; cases hh
                        case e12 => first | rfl | exact fI (by omega) | (first | rfl | exact fI (by grind))
                        case r12 => intro h hh; cases hh
                        case e13 => first | rfl | exact fI (by omega) | (simp_all)
                        case r13 => intro h hh; cases hh
      · replace hb14 := dT hb14
        refine ev_nil (hK13 _ ?_); clear hK13
        refine good_condT rfl ?_
        refine good_region rfl ?_
        refine ev_q rfl (q_move (by conv => lhs; whnf) ?_)
        refine ev_q rfl (q_move (by conv => lhs; whnf) ?_)
        refine ev_q rfl (q_move (by conv => lhs; whnf) ?_)
        refine ev_q rfl (q_move (by conv => lhs; whnf) ?_)
        refine ev_q rfl (q_move (by conv => lhs; whnf) ?_)
        refine ev_q rfl (q_callI rfl rfl (rfl) (D_spec_l12Given s nd tr su re pr q _ hq hp (by omega) ht hsu hre) ?_)
        intro n114 hn114
        refine ev_q rfl (q_callI rfl rfl (rfl) (D_spec_l00Max ..) ?_)
        intro n115 hn115
        refine ev_q rfl (q_assign (by conv => lhs; whnf) ?_)
        refine ev_nil (hK12 _ ?_); clear hK12
        refine good_seq fun K116 hK116 => ?_
        refine good_region rfl ?_
        refine ev_q rfl (q_move (by conv => lhs; whnf) ?_)
        refine ev_q rfl (q_nilCheck (by conv => lhs; whnf) rfl ?_)
        refine ev_q rfl (q_fieldAddr fO27_4 rfl rfl ?_)
        refine ev_q rfl (q_load tA2 rfl ?_)
        refine ev_q rfl (q_assign (by conv => lhs; whnf) ?_)
        refine ev_nil (hK116 _ ?_); clear hK116
        refine good_seq fun K117 hK117 => ?_
        refine good_seq fun K118 hK118 => ?_
        refine good_region rfl ?_
        refine ev_q rfl (q_move (by conv => lhs; whnf) ?_)
        refine ev_q rfl (q_move (by conv => lhs; whnf) ?_)
        refine ev_q rfl (q_move (by conv => lhs; whnf) ?_)
        refine ev_q rfl (q_move (by conv => lhs; whnf) ?_)
        refine ev_q rfl (q_callI rfl rfl (rfl) (D_spec_l12Given s nd tr su re pr q _ hq hp (by omega) ht hsu hre) ?_)
        intro n119 hn119
        refine ev_q rfl (q_move (by conv => lhs; whnf) ?_)
        refine ev_q rfl (q_int rfl rfl ?_)
        intro b120 hb120; cases b120
        · replace hb120 := eqF hb120
          refine ev_nil (hK118 _ ?_); clear hK118
          refine good_condF rfl ?_
          refine good_skip (hK117 _ ?_); clear hK117
          refine good_seq fun K121 hK121 => ?_
          refine good_seq fun K122 hK122 => ?_
          refine good_region rfl ?_
          refine ev_q rfl (q_move (by conv => lhs; whnf) ?_)
          refine ev_q rfl (q_move (by conv => lhs; whnf) ?_)
          refine ev_q rfl (q_int rfl rfl ?_)
          intro b123 hb123; cases b123
          · replace hb123 := dF hb123
            refine ev_q rfl (q_move (by conv => lhs; whnf) ?_)
            refine ev_skip rfl ?_
            refine ev_skip rfl ?_
            refine ev_skip rfl ?_
            refine ev_skip rfl ?_
            refine ev_skip rfl ?_
            refine ev_skip rfl ?_
            refine ev_skip rfl ?_
            refine ev_q rfl (q_pickF rfl (by conv => lhs; whnf) ?_)
            refine ev_nil (hK122 _ ?_); clear hK122
            refine good_condF rfl ?_
            refine good_skip (hK121 _ ?_); clear hK121
            refine good_seq fun K124 hK124 => ?_
            refine good_region rfl ?_
            refine ev_q rfl (q_move (by conv => lhs; whnf) ?_)
            refine ev_q rfl (q_int rfl rfl ?_)
            intro n125 hn125
            replace hn125 := in64 hn125 (by omega) (by omega)
            refine ev_q rfl (q_assign (by conv => lhs; whnf) ?_)
            refine ev_nil (hK124 _ ?_); clear hK124
            refine good_seq fun K126 hK126 => ?_
            refine good_block ?_
            obtain ⟨v, f0, hvd, hfd, htop, hv, hf1, hf2⟩ := les_v (h := h) hm (by omega) (by omega) hJ hK
            refine good_loop (α := Int × Int) (fun (f, u) => { env := upd (upd (upd (upd (upd (upd ((fun _ => .junk)) 0 (.rp [.s (.string s), .s (.int .i64 nd), .s (.int .i64 tr), .s (.int .i64 su), .s (.int .i64 re)])) 1 (.s (.int .i64 pr))) 2 (.s (.int .i64 q))) 11 (.s (.int .i64 v))) 12 (.s (.int .i64 f))) 13 (.s (.int .i64 u)), H := fun _ => none }) (fun (f, u) => (re ≤ f ∧ f + 1 ≤ u ∧ u ≤ pr + 1) ∧ mx0 (lesP tr su re pr q (f)) = v ∧ (u = pr + 1 ∨ mx0 (lesP tr su re pr q (u)) < v)) (fun (f, u) => (u - f).toNat) (f0, pr + 1) ?_ ?_ ?_
            · exact ⟨by first | omega | (dsimp only; omega), hv, .inl rfl⟩
            · refine sub_weak ?_ ?_
              · exact weakH_none _
              · refine weakE_upd ?e13 ?r13 (weakE_upd ?e12 ?r12 (weakE_upd ?e11 ?r11 (weakE_upd ?e2 ?r2 (weakE_upd ?e1 ?r1 (weakE_upd ?e0 ?r0 (weakE_junk _ _))))))
                case e0 => first | rfl | exact fI (by omega) | (simp_all)
                case r0 => intro h hh; cases hh
                case e1 => first | rfl | exact fI (by omega) | (simp_all)
                case r1 => intro h hh; cases hh
                case e2 => first | rfl | exact fI (by omega) | (simp_all)
                case r2 => intro h hh; cases hh
                case e11 => first | rfl | exact fI (by omega) | (first | rfl | exact fI (by grind))
                case r11 => intro h hh; cases hh
                case e12 => first | rfl | exact fI (by omega) | (first | rfl | exact fI (by grind))
                case r12 => intro h hh; cases hh
                case e13 => first | rfl | exact fI (by omega) | (simp_all)
                case r13 => intro h hh; cases hh
            · rintro ⟨f, u⟩ ⟨hF, hV, hU⟩
              refine good_seq fun K127 hK127 => ?_
              refine good_seq fun K128 hK128 => ?_
              refine good_region rfl ?_
              refine ev_q rfl (q_move (by conv => lhs; whnf) ?_)
              refine ev_q rfl (q_move (by conv => lhs; whnf) ?_)
              refine ev_q rfl (q_int rfl rfl ?_)
              intro n129 hn129
              replace hn129 := in64 hn129 (by omega) (by omega)
              refine ev_q rfl (q_int rfl rfl ?_)
              intro b130 hb130; cases b130
              · replace hb130 := dF hb130
                refine ev_nil (hK128 _ ?_); clear hK128
                refine good_condF rfl ?_
                refine good_exit ?_
                repeat (first | refine thenQ_exit ?_ | refine blockQ_pass rfl ?_)
                refine blockQ_exit (hK126 _ ?_); clear hK126
                refine good_seq fun K131 hK131 => ?_
                refine good_region rfl ?_
                refine ev_q rfl (q_move (by conv => lhs; whnf) ?_)
                refine ev_q rfl (q_move (by conv => lhs; whnf) ?_)
                refine ev_q rfl (q_assign (by conv => lhs; whnf) ?_)
                refine ev_q rfl (q_assign (by conv => lhs; whnf) ?_)
                refine ev_nil (hK131 _ ?_); clear hK131
                refine good_ret ?_
                repeat (first | refine thenQ_ret ?_ | refine blockQ_ret ?_)
                refine ret_many rfl ?_
                refine res_tmp (by conv => lhs; whnf) rfl ?_
                refine res_tmp (by conv => lhs; whnf) rfl ?_
                refine res_nil ?_
                clear hK6 hK127
                have e : f = bB (lesP tr su re pr q) re pr := les_end hm (by omega) hV htop (by rcases hU with h9 | h9; exact .inl (by omega); exact .inr (by rw [show f + 1 = u by omega]; exact h9))
                exact fTup1 (fI e) (fTup1 (fI (by rw [← e]; exact hV.symm)) rfl)
              · replace hb130 := dT hb130
                refine ev_nil (hK128 _ ?_); clear hK128
                refine good_condT rfl ?_
                refine good_skip (hK127 _ ?_); clear hK127
                refine good_block ?_
                refine good_seq fun K132 hK132 => ?_
                refine good_region rfl ?_
                refine ev_q rfl (q_move (by conv => lhs; whnf) ?_)
                refine ev_q rfl (q_move (by conv => lhs; whnf) ?_)
                refine ev_q rfl (q_int rfl rfl ?_)
                intro n133 hn133
                replace hn133 := in64 hn133 (by omega) (by omega)
                refine ev_q rfl (q_int rfl rfl ⟨by omega, ?_⟩)
                intro n134 hn134
                first | replace hn134 := quoE hn134 (by omega) (by omega) | replace hn134 := quoT hn134 (by omega) (by omega)
                refine ev_q rfl (q_assign (by conv => lhs; whnf) ?_)
                refine ev_nil (hK132 _ ?_); clear hK132
                refine good_seq fun K135 hK135 => ?_
                refine good_region rfl ?_
                refine ev_q rfl (q_move (by conv => lhs; whnf) ?_)
                refine ev_q rfl (q_move (by conv => lhs; whnf) ?_)
                refine ev_q rfl (q_move (by conv => lhs; whnf) ?_)
                refine ev_q rfl (q_move (by conv => lhs; whnf) ?_)
                refine ev_q rfl (q_callI rfl rfl (rfl) (D_spec_l12Given s nd tr su re pr q _ hq hp (by omega) ht hsu hre) ?_)
                intro n136 hn136
                refine ev_q rfl (q_move (by conv => lhs; whnf) ?_)
                refine ev_q rfl (q_int rfl rfl ?_)
                intro b137 hb137; cases b137
                · replace hb137 := dF hb137
                  refine ev_nil (hK135 _ ?_); clear hK135
                  refine good_condF rfl ?_
                  refine good_region rfl ?_
                  refine ev_q rfl (q_move (by conv => lhs; whnf) ?_)
                  refine ev_q rfl (q_assign (by conv => lhs; whnf) ?_)
                  refine ev_nil ?_
                  clear hK6 hK126
                  refine ⟨(f, n134), ?_, ?_, ?_⟩
                  · exact ⟨by first | omega | (dsimp only; omega), hV, .inr (by first | omega | (dsimp only; omega))⟩
                  · first | omega | (dsimp only; omega)
                  · refine sub_weak ?_ ?_
                    · exact weakH_none _
                    · refine weakE_upd ?e13 ?r13 (weakE_upd ?e12 ?r12 (weakE_upd ?e11 ?r11 (weakE_upd ?e2 ?r2 (weakE_upd ?e1 ?r1 (weakE_upd ?e0 ?r0 (weakE_junk _ _))))))
                      case e0 => first | rfl | exact fI (by omega) | (simp_all)
                      case r0 => intro h hh; cases hh
                      case e1 => first | rfl | exact fI (by omega) | (simp_all)
                      case r1 => intro h hh; cases hh
                      case e2 => first | rfl | exact fI (by omega) | (simp_all)
                      case r2 => intro h hh; cases hh
                      case e11 => first | rfl | exact fI (by omega) | (first | rfl | exact fI (by grind))
                      case r11 => intro h hh; cases hh
                      case e12 => first | rfl | exact fI (by omega) | (first | rfl | exact fI (by grind))
                      case r12 => intro h hh; cases hh
                      case e13 => first | rfl | exact fI (by omega) | (simp_all)
                      case r13 => intro h hh; cases hh
                · replace hb137 := dT hb137
                  refine ev_nil (hK135 _ ?_); clear hK135
                  refine good_condT rfl ?_
                  refine good_region rfl ?_
                  refine ev_q rfl (q_move (by conv => lhs; whnf) ?_)
                  refine ev_q rfl (q_assign (by conv => lhs; whnf) ?_)
                  refine ev_nil ?_
                  clear hK6 hK126
                  refine ⟨(n134, u), ?_, ?_, ?_⟩
                  · exact ⟨by first | omega | (dsimp only; omega), by have := htop n134 (by omega) (by omega); omega, hU⟩
                  · first | omega | (dsimp only; omega)
                  · refine sub_weak ?_ ?_
                    · exact weakH_none _
                    · refine weakE_upd ?e13 ?r13 (weakE_upd ?e12 ?r12 (weakE_upd ?e11 ?r11 (weakE_upd ?e2 ?r2 (weakE_upd ?e1 ?r1 (weakE_upd ?e0 ?r0 (weakE_junk _ _))))))
                      case e0 => first | rfl | exact fI (by omega) | (simp_all)
                      case r0 => intro h hh; cases hh
                      case e1 => first | rfl | exact fI (by omega) | (simp_all)
                      case r1 => intro h hh; cases hh
                      case e2 => first | rfl | exact fI (by omega) | (simp_all)
                      case r2 => intro h hh; cases hh
                      case e11 => first | rfl | exact fI (by omega) | (first | rfl | exact fI (by grind))
                      case r11 => intro h hh; cases hh
                      case e12 => first | rfl | exact fI (by omega) | (first | rfl | exact fI (by grind))
                      case r12 => intro h hh; cases hh
                      case e13 => first | rfl | exact fI (by omega) | (simp_all)
                      case r13 => intro h hh; cases hh
          · replace hb123 := dT hb123
            refine ev_q rfl (q_move (by conv => lhs; whnf) ?_)
            refine ev_q rfl (q_move (by conv => lhs; whnf) ?_)
            refine ev_q rfl (q_move (by conv => lhs; whnf) ?_)
            refine ev_q rfl (q_move (by conv => lhs; whnf) ?_)
            refine ev_q rfl (q_move (by conv => lhs; whnf) ?_)
            refine ev_q rfl (q_callI rfl rfl (rfl) (D_spec_l12Given s nd tr su re pr q _ hq hp (by omega) ht hsu hre) ?_)
            intro n138 hn138
            refine ev_q rfl (q_move (by conv => lhs; whnf) ?_)
            refine ev_q rfl (q_int rfl rfl ?_)
            intro b139 hb139; cases b139
            · replace hb139 := eqF hb139
              refine ev_q rfl (q_pickT rfl (by conv => lhs; whnf) ?_)
              refine ev_nil (hK122 _ ?_); clear hK122
              refine good_condF rfl ?_
              refine good_skip (hK121 _ ?_); clear hK121
              refine good_seq fun K140 hK140 => ?_
              refine good_region rfl ?_
              refine ev_q rfl (q_move (by conv => lhs; whnf) ?_)
              refine ev_q rfl (q_int rfl rfl ?_)
              intro n141 hn141
              replace hn141 := in64 hn141 (by omega) (by omega)
              refine ev_q rfl (q_assign (by conv => lhs; whnf) ?_)
              refine ev_nil (hK140 _ ?_); clear hK140
              refine good_seq fun K142 hK142 => ?_
              refine good_block ?_
              obtain ⟨v, f0, hvd, hfd, htop, hv, hf1, hf2⟩ := les_v (h := h) hm (by omega) (by omega) hJ hK
              refine good_loop (α := Int × Int) (fun (f, u) => { env := upd (upd (upd (upd (upd (upd ((fun _ => .junk)) 0 (.rp [.s (.string s), .s (.int .i64 nd), .s (.int .i64 tr), .s (.int .i64 su), .s (.int .i64 re)])) 1 (.s (.int .i64 pr))) 2 (.s (.int .i64 q))) 11 (.s (.int .i64 v))) 12 (.s (.int .i64 f))) 13 (.s (.int .i64 u)), H := fun _ => none }) (fun (f, u) => (re ≤ f ∧ f + 1 ≤ u ∧ u ≤ pr + 1) ∧ mx0 (lesP tr su re pr q (f)) = v ∧ (u = pr + 1 ∨ mx0 (lesP tr su re pr q (u)) < v)) (fun (f, u) => (u - f).toNat) (f0, pr + 1) ?_ ?_ ?_
              · exact ⟨by first | omega | (dsimp only; omega), hv, .inl rfl⟩
              · refine sub_weak ?_ ?_
                · exact weakH_none _
                · refine weakE_upd ?e13 ?r13 (weakE_upd ?e12 ?r12 (weakE_upd ?e11 ?r11 (weakE_upd ?e2 ?r2 (weakE_upd ?e1 ?r1 (weakE_upd ?e0 ?r0 (weakE_junk _ _))))))
                  case e0 => first | rfl | exact fI (by omega) | (simp_all)
                  case r0 => intro h hh; cases hh
                  case e1 => first | rfl | exact fI (by omega) | (simp_all)
                  case r1 => intro h hh; cases hh
                  case e2 => first | rfl | exact fI (by omega) | (simp_all)
                  case r2 => intro h hh; cases hh
                  case e11 => first | rfl | exact fI (by omega) | (first | rfl | exact fI (by grind))
                  case r11 => intro h hh; cases hh
                  case e12 => first | rfl | exact fI (by omega) | (first | rfl | exact fI (by grind))
                  case r12 => intro h hh; cases hh
                  case e13 => first | rfl | exact fI (by omega) | (simp_all)
                  case r13 => intro h hh; cases hh
              · rintro ⟨f, u⟩ ⟨hF, hV, hU⟩
                refine good_seq fun K143 hK143 => ?_
                refine good_seq fun K144 hK144 => ?_
                refine good_region rfl ?_
                refine ev_q rfl (q_move (by conv => lhs; whnf) ?_)
                refine ev_q rfl (q_move (by conv => lhs; whnf) ?_)
                refine ev_q rfl (q_int rfl rfl ?_)
                intro n145 hn145
                replace hn145 := in64 hn145 (by omega) (by omega)
                refine ev_q rfl (q_int rfl rfl ?_)
                intro b146 hb146; cases b146
                · replace hb146 := dF hb146
                  refine ev_nil (hK144 _ ?_); clear hK144
                  refine good_condF rfl ?_
                  refine good_exit ?_
                  repeat (first | refine thenQ_exit ?_ | refine blockQ_pass rfl ?_)
                  refine blockQ_exit (hK142 _ ?_); clear hK142
                  refine good_seq fun K147 hK147 => ?_
                  refine good_region rfl ?_
                  refine ev_q rfl (q_move (by conv => lhs; whnf) ?_)
                  refine ev_q rfl (q_move (by conv => lhs; whnf) ?_)
                  refine ev_q rfl (q_assign (by conv => lhs; whnf) ?_)
                  refine ev_q rfl (q_assign (by conv => lhs; whnf) ?_)
                  refine ev_nil (hK147 _ ?_); clear hK147
                  refine good_ret ?_
                  repeat (first | refine thenQ_ret ?_ | refine blockQ_ret ?_)
                  refine ret_many rfl ?_
                  refine res_tmp (by conv => lhs; whnf) rfl ?_
                  refine res_tmp (by conv => lhs; whnf) rfl ?_
                  refine res_nil ?_
                  clear hK6 hK143
                  have e : f = bB (lesP tr su re pr q) re pr := les_end hm (by omega) hV htop (by rcases hU with h9 | h9; exact .inl (by omega); exact .inr (by rw [show f + 1 = u by omega]; exact h9))
                  exact fTup1 (fI e) (fTup1 (fI (by rw [← e]; exact hV.symm)) rfl)
                · replace hb146 := dT hb146
                  refine ev_nil (hK144 _ ?_); clear hK144
                  refine good_condT rfl ?_
                  refine good_skip (hK143 _ ?_); clear hK143
                  refine good_block ?_
                  refine good_seq fun K148 hK148 => ?_
                  refine good_region rfl ?_
                  refine ev_q rfl (q_move (by conv => lhs; whnf) ?_)
                  refine ev_q rfl (q_move (by conv => lhs; whnf) ?_)
                  refine ev_q rfl (q_int rfl rfl ?_)
                  intro n149 hn149
                  replace hn149 := in64 hn149 (by omega) (by omega)
                  refine ev_q rfl (q_int rfl rfl ⟨by omega, ?_⟩)
                  intro n150 hn150
                  first | replace hn150 := quoE hn150 (by omega) (by omega) | replace hn150 := quoT hn150 (by omega) (by omega)
                  refine ev_q rfl (q_assign (by conv => lhs; whnf) ?_)
                  refine ev_nil (hK148 _ ?_); clear hK148
                  refine good_seq fun K151 hK151 => ?_
                  refine good_region rfl ?_
                  refine ev_q rfl (q_move (by conv => lhs; whnf) ?_)
                  refine ev_q rfl (q_move (by conv => lhs; whnf) ?_)
                  refine ev_q rfl (q_move (by conv => lhs; whnf) ?_)
                  refine ev_q rfl (q_move (by conv => lhs; whnf) ?_)
                  refine ev_q rfl (q_callI rfl rfl (rfl) (D_spec_l12Given s nd tr su re pr q _ hq hp (by omega) ht hsu hre) ?_)
                  intro n152 hn152
                  refine ev_q rfl (q_move (by conv => lhs; whnf) ?_)
                  refine ev_q rfl (q_int rfl rfl ?_)
                  intro b153 hb153; cases b153
                  · replace hb153 := dF hb153
                    refine ev_nil (hK151 _ ?_); clear hK151
                    refine good_condF rfl ?_
                    refine good_region rfl ?_
                    refine ev_q rfl (q_move (by conv => lhs; whnf) ?_)
                    refine ev_q rfl (q_assign (by conv => lhs; whnf) ?_)
                    refine ev_nil ?_
                    clear hK6 hK142
                    refine ⟨(f, n150), ?_, ?_, ?_⟩
                    · exact ⟨by first | omega | (dsimp only; omega), hV, .inr (by first | omega | (dsimp only; omega))⟩
                    · first | omega | (dsimp only; omega)
                    · refine sub_weak ?_ ?_
                      · exact weakH_none _
                      · refine weakE_upd ?e13 ?r13 (weakE_upd ?e12 ?r12 (weakE_upd ?e11 ?r11 (weakE_upd ?e2 ?r2 (weakE_upd ?e1 ?r1 (weakE_upd ?e0 ?r0 (weakE_junk _ _))))))
                        case e0 => first | rfl | exact fI (by omega) | (simp_all)
                        case r0 => intro h hh; cases hh
                        case e1 => first | rfl | exact fI (by omega) | (simp_all)
                        case r1 => intro h hh; cases hh
                        case e2 => first | rfl | exact fI (by omega) | (simp_all)
                        case r2 => intro h hh; cases hh
                        case e11 => first | rfl | exact fI (by omega) | (first | rfl | exact fI (by grind))
                        case r11 => intro h hh; cases hh
                        case e12 => first | rfl | exact fI (by omega) | (first | rfl | exact fI (by grind))
                        case r12 => intro h hh; cases hh
                        case e13 => first | rfl | exact fI (by omega) | (simp_all)
                        case r13 => intro h hh; cases hh
                  · replace hb153 := dT hb153
                    refine ev_nil (hK151 _ ?_); clear hK151
                    refine good_condT rfl ?_
                    refine good_region rfl ?_
                    refine ev_q rfl (q_move (by conv => lhs; whnf) ?_)
                    refine ev_q rfl (q_assign (by conv => lhs; whnf) ?_)
                    refine ev_nil ?_
                    clear hK6 hK142
                    refine ⟨(n150, u), ?_, ?_, ?_⟩
                    · exact ⟨by first | omega | (dsimp only; omega), by have := htop n150 (by omega) (by omega); omega, hU⟩
                    · first | omega | (dsimp only; omega)
                    · refine sub_weak ?_ ?_
                      · exact weakH_none _
                      · refine weakE_upd ?e13 ?r13 (weakE_upd ?e12 ?r12 (weakE_upd ?e11 ?r11 (weakE_upd ?e2 ?r2 (weakE_upd ?e1 ?r1 (weakE_upd ?e0 ?r0 (weakE_junk _ _))))))
                        case e0 => first | rfl | exact fI (by omega) | (simp_all)
                        case r0 => intro h hh; cases hh
                        case e1 => first | rfl | exact fI (by omega) | (simp_all)
                        case r1 => intro h hh; cases hh
                        case e2 => first | rfl | exact fI (by omega) | (simp_all)
                        case r2 => intro h hh; cases hh
                        case e11 => first | rfl | exact fI (by omega) | (first | rfl | exact fI (by grind))
                        case r11 => intro h hh; cases hh
                        case e12 => first | rfl | exact fI (by omega) | (first | rfl | exact fI (by grind))
                        case r12 => intro h hh; cases hh
                        case e13 => first | rfl | exact fI (by omega) | (simp_all)
                        case r13 => intro h hh; cases hh
            · replace hb139 := eqT hb139
              refine ev_q rfl (q_pickT rfl (by conv => lhs; whnf) ?_)
              refine ev_nil (hK122 _ ?_); clear hK122
              refine good_condT rfl ?_
              refine good_region rfl ?_
              refine ev_q rfl (q_move (by conv => lhs; whnf) ?_)
              refine ev_q rfl (q_assign (by conv => lhs; whnf) ?_)
              refine ev_nil (hK121 _ ?_); clear hK121
              refine good_seq fun K154 hK154 => ?_
              refine good_region rfl ?_
              refine ev_q rfl (q_move (by conv => lhs; whnf) ?_)
              refine ev_q rfl (q_int rfl rfl ?_)
              intro n155 hn155
              replace hn155 := in64 hn155 (by omega) (by omega)
              refine ev_q rfl (q_assign (by conv => lhs; whnf) ?_)
              refine ev_nil (hK154 _ ?_); clear hK154
              refine good_seq fun K156 hK156 => ?_
              refine good_block ?_
              obtain ⟨v, f0, hvd, hfd, htop, hv, hf1, hf2⟩ := les_v (h := h) hm (by omega) (by omega) hJ hK
              refine good_loop (α := Int × Int) (fun (f, u) => { env := upd (upd (upd (upd (upd (upd ((fun _ => .junk)) 0 (.rp [.s (.string s), .s (.int .i64 nd), .s (.int .i64 tr), .s (.int .i64 su), .s (.int .i64 re)])) 1 (.s (.int .i64 pr))) 2 (.s (.int .i64 q))) 11 (.s (.int .i64 v))) 12 (.s (.int .i64 f))) 13 (.s (.int .i64 u)), H := fun _ => none }) (fun (f, u) => (re ≤ f ∧ f + 1 ≤ u ∧ u ≤ pr + 1) ∧ mx0 (lesP tr su re pr q (f)) = v ∧ (u = pr + 1 ∨ mx0 (lesP tr su re pr q (u)) < v)) (fun (f, u) => (u - f).toNat) (f0, pr + 1) ?_ ?_ ?_
              · exact ⟨by first | omega | (dsimp only; omega), hv, .inl rfl⟩
              · refine sub_weak ?_ ?_
                · exact weakH_none _
                · refine weakE_upd ?e13 ?r13 (weakE_upd ?e12 ?r12 (weakE_upd ?e11 ?r11 (weakE_upd ?e2 ?r2 (weakE_upd ?e1 ?r1 (weakE_upd ?e0 ?r0 (weakE_junk _ _))))))
                  case e0 => first | rfl | exact fI (by omega) | (simp_all)
                  case r0 => intro h hh; cases hh
                  case e1 => first | rfl | exact fI (by omega) | (simp_all)
                  case r1 => intro h hh; cases hh
                  case e2 => first | rfl | exact fI (by omega) | (simp_all)
                  case r2 => intro h hh; cases hh
                  case e11 => first | rfl | exact fI (by omega) | (first | rfl | exact fI (by grind))
                  case r11 => intro h hh; cases hh
                  case e12 => first | rfl | exact fI (by omega) | (first | rfl | exact fI (by grind))
                  case r12 => intro h hh; cases hh
                  case e13 => first | rfl | exact fI (by omega) | (simp_all)
                  case r13 => intro h hh; cases hh
              · rintro ⟨f, u⟩ ⟨hF, hV, hU⟩
                refine good_seq fun K157 hK157 => ?_
                refine good_seq fun K158 hK158 => ?_
                refine good_region rfl ?_
                refine ev_q rfl (q_move (by conv => lhs; whnf) ?_)
                refine ev_q rfl (q_move (by conv => lhs; whnf) ?_)
                refine ev_q rfl (q_int rfl rfl ?_)
                intro n159 hn159
                replace hn159 := in64 hn159 (by omega) (by omega)
                refine ev_q rfl (q_int rfl rfl ?_)
                intro b160 hb160; cases b160
                · replace hb160 := dF hb160
                  refine ev_nil (hK158 _ ?_); clear hK158
                  refine good_condF rfl ?_
                  refine good_exit ?_
                  repeat (first | refine thenQ_exit ?_ | refine blockQ_pass rfl ?_)
                  refine blockQ_exit (hK156 _ ?_); clear hK156
                  refine good_seq fun K161 hK161 => ?_
                  refine good_region rfl ?_
                  refine ev_q rfl (q_move (by conv => lhs; whnf) ?_)
                  refine ev_q rfl (q_move (by conv => lhs; whnf) ?_)
                  refine ev_q rfl (q_assign (by conv => lhs; whnf) ?_)
                  refine ev_q rfl (q_assign (by conv => lhs; whnf) ?_)
                  refine ev_nil (hK161 _ ?_); clear hK161
                  refine good_ret ?_
                  repeat (first | refine thenQ_ret ?_ | refine blockQ_ret ?_)
                  refine ret_many rfl ?_
                  refine res_tmp (by conv => lhs; whnf) rfl ?_
                  refine res_tmp (by conv => lhs; whnf) rfl ?_
                  refine res_nil ?_
                  clear hK6 hK157
                  have e : f = bB (lesP tr su re pr q) re pr := les_end hm (by omega) hV htop (by rcases hU with h9 | h9; exact .inl (by omega); exact .inr (by rw [show f + 1 = u by omega]; exact h9))
                  exact fTup1 (fI e) (fTup1 (fI (by rw [← e]; exact hV.symm)) rfl)
                · replace hb160 := dT hb160
                  refine ev_nil (hK158 _ ?_); clear hK158
                  refine good_condT rfl ?_
                  refine good_skip (hK157 _ ?_); clear hK157
                  refine good_block ?_
                  refine good_seq fun K162 hK162 => ?_
                  refine good_region rfl ?_
                  refine ev_q rfl (q_move (by conv => lhs; whnf) ?_)
                  refine ev_q rfl (q_move (by conv => lhs; whnf) ?_)
                  refine ev_q rfl (q_int rfl rfl ?_)
                  intro n163 hn163
                  replace hn163 := in64 hn163 (by omega) (by omega)
                  refine ev_q rfl (q_int rfl rfl ⟨by omega, ?_⟩)
                  intro n164 hn164
                  first | replace hn164 := quoE hn164 (by omega) (by omega) | replace hn164 := quoT hn164 (by omega) (by omega)
                  refine ev_q rfl (q_assign (by conv => lhs; whnf) ?_)
                  refine ev_nil (hK162 _ ?_); clear hK162
                  refine good_seq fun K165 hK165 => ?_
                  refine good_region rfl ?_
                  refine ev_q rfl (q_move (by conv => lhs; whnf) ?_)
                  refine ev_q rfl (q_move (by conv => lhs; whnf) ?_)
                  refine ev_q rfl (q_move (by conv => lhs; whnf) ?_)
                  refine ev_q rfl (q_move (by conv => lhs; whnf) ?_)
                  refine ev_q rfl (q_callI rfl rfl (rfl) (D_spec_l12Given s nd tr su re pr q _ hq hp (by omega) ht hsu hre) ?_)
                  intro n166 hn166
                  refine ev_q rfl (q_move (by conv => lhs; whnf) ?_)
                  refine ev_q rfl (q_int rfl rfl ?_)
                  intro b167 hb167; cases b167
                  · replace hb167 := dF hb167
                    refine ev_nil (hK165 _ ?_); clear hK165
                    refine good_condF rfl ?_
                    refine good_region rfl ?_
                    refine ev_q rfl (q_move (by conv => lhs; whnf) ?_)
                    refine ev_q rfl (q_assign (by conv => lhs; whnf) ?_)
                    refine ev_nil ?_
                    clear hK6 hK156
                    refine ⟨(f, n164), ?_, ?_, ?_⟩
                    · exact ⟨by first | omega | (dsimp only; omega), hV, .inr (by first | omega | (dsimp only; omega))⟩
                    · first | omega | (dsimp only; omega)
                    · refine sub_weak ?_ ?_
                      · exact weakH_none _
                      · refine weakE_upd ?e13 ?r13 (weakE_upd ?e12 ?r12 (weakE_upd ?e11 ?r11 (weakE_upd ?e2 ?r2 (weakE_upd ?e1 ?r1 (weakE_upd ?e0 ?r0 (weakE_junk _ _))))))
                        case e0 => first | rfl | exact fI (by omega) | (simp_all)
                        case r0 => intro h hh; cases hh
                        case e1 => first | rfl | exact fI (by omega) | (simp_all)
                        case r1 => intro h hh; cases hh
                        case e2 => first | rfl | exact fI (by omega) | (simp_all)
                        case r2 => intro h hh; cases hh
                        case e11 => first | rfl | exact fI (by omega) | (first | rfl | exact fI (by grind))
                        case r11 => intro h hh; cases hh
                        case e12 => first | rfl | exact fI (by omega) | (first | rfl | exact fI (by grind))
                        case r12 => intro h hh; cases hh
                        case e13 => first | rfl | exact fI (by omega) | (simp_all)
                        case r13 => intro h hh; cases hh
                  · replace hb167 := dT hb167
                    refine ev_nil (hK165 _ ?_); clear hK165
                    refine good_condT rfl ?_
                    refine good_region rfl ?_
                    refine ev_q rfl (q_move (by conv => lhs; whnf) ?_)
                    refine ev_q rfl (q_assign (by conv => lhs; whnf) ?_)
                    refine ev_nil ?_
                    clear hK6 hK156
                    refine ⟨(n164, u), ?_, ?_, ?_⟩
                    · exact ⟨by first | omega | (dsimp only; omega), by have := htop n164 (by omega) (by omega); omega, hU⟩
                    · first | omega | (dsimp only; omega)
                    · refine sub_weak ?_ ?_
                      · exact weakH_none _
                      · refine weakE_upd ?e13 ?r13 (weakE_upd ?e12 ?r12 (weakE_upd ?e11 ?r11 (weakE_upd ?e2 ?r2 (weakE_upd ?e1 ?r1 (weakE_upd ?e0 ?r0 (weakE_junk _ _))))))
                        case e0 => first | rfl | exact fI (by omega) | (simp_all)
                        case r0 => intro h hh; cases hh
                        case e1 => first | rfl | exact fI (by omega) | (simp_all)
                        case r1 => intro h hh; cases hh
                        case e2 => first | rfl | exact fI (by omega) | (simp_all)
                        case r2 => intro h hh; cases hh
                        case e11 => first | rfl | exact fI (by omega) | (first | rfl | exact fI (by grind))
                        case r11 => intro h hh; cases hh
                        case e12 => first | rfl | exact fI (by omega) | (first | rfl | exact fI (by grind))
                        case r12 => intro h hh; cases hh
                        case e13 => first | rfl | exact fI (by omega) | (simp_all)
                        case r13 => intro h hh; cases hh
        · replace hb120 := eqT hb120
          refine ev_nil (hK118 _ ?_); clear hK118
          refine good_condT rfl ?_
          refine good_region rfl ?_
          refine ev_q rfl (q_move (by conv => lhs; whnf) ?_)
          refine ev_q rfl (q_assign (by conv => lhs; whnf) ?_)
          refine ev_nil (hK117 _ ?_); clear hK117
          refine good_seq fun K168 hK168 => ?_
          refine good_seq fun K169 hK169 => ?_
          refine good_region rfl ?_
          refine ev_q rfl (q_move (by conv => lhs; whnf) ?_)
          refine ev_q rfl (q_move (by conv => lhs; whnf) ?_)
          refine ev_q rfl (q_int rfl rfl ?_)
          intro b170 hb170; cases b170
          · replace hb170 := dF hb170
            refine ev_q rfl (q_move (by conv => lhs; whnf) ?_)
            refine ev_skip rfl ?_
            refine ev_skip rfl ?_
            refine ev_skip rfl ?_
            refine ev_skip rfl ?_
            refine ev_skip rfl ?_
            refine ev_skip rfl ?_
            refine ev_skip rfl ?_
            refine ev_q rfl (q_pickF rfl (by conv => lhs; whnf) ?_)
            refine ev_nil (hK169 _ ?_); clear hK169
            refine good_condF rfl ?_
            refine good_skip (hK168 _ ?_); clear hK168
            refine good_seq fun K171 hK171 => ?_
            refine good_region rfl ?_
            refine ev_q rfl (q_move (by conv => lhs; whnf) ?_)
            refine ev_q rfl (q_int rfl rfl ?_)
            intro n172 hn172
            replace hn172 := in64 hn172 (by omega) (by omega)
            refine ev_q rfl (q_assign (by conv => lhs; whnf) ?_)
            refine ev_nil (hK171 _ ?_); clear hK171
            refine good_seq fun K173 hK173 => ?_
            refine good_block ?_
            obtain ⟨v, f0, hvd, hfd, htop, hv, hf1, hf2⟩ := les_v (h := h) hm (by omega) (by omega) hJ hK
            refine good_loop (α := Int × Int) (fun (f, u) => { env := upd (upd (upd (upd (upd (upd ((fun _ => .junk)) 0 (.rp [.s (.string s), .s (.int .i64 nd), .s (.int .i64 tr), .s (.int .i64 su), .s (.int .i64 re)])) 1 (.s (.int .i64 pr))) 2 (.s (.int .i64 q))) 11 (.s (.int .i64 v))) 12 (.s (.int .i64 f))) 13 (.s (.int .i64 u)), H := fun _ => none }) (fun (f, u) => (re ≤ f ∧ f + 1 ≤ u ∧ u ≤ pr + 1) ∧ mx0 (lesP tr su re pr q (f)) = v ∧ (u = pr + 1 ∨ mx0 (lesP tr su re pr q (u)) < v)) (fun (f, u) => (u - f).toNat) (f0, pr + 1) ?_ ?_ ?_
            · exact ⟨by first | omega | (dsimp only; omega), hv, .inl rfl⟩
            · refine sub_weak ?_ ?_
              · exact weakH_none _
              · refine weakE_upd ?e13 ?r13 (weakE_upd ?e12 ?r12 (weakE_upd ?e11 ?r11 (weakE_upd ?e2 ?r2 (weakE_upd ?e1 ?r1 (weakE_upd ?e0 ?r0 (weakE_junk _ _))))))
                case e0 => first | rfl | exact fI (by omega) | (simp_all)
                case r0 => intro h hh; cases hh
                case e1 => first | rfl | exact fI (by omega) | (simp_all)
                case r1 => intro h hh; cases hh
                case e2 => first | rfl | exact fI (by omega) | (simp_all)
                case r2 => intro h hh; cases hh
                case e11 => first | rfl | exact fI (by omega) | (first | rfl | exact fI (by grind))
                case r11 => intro h hh; cases hh
                case e12 => first | rfl | exact fI (by omega) | (first | rfl | exact fI (by grind))
                case r12 => intro h hh; cases hh
                case e13 => first | rfl | exact fI (by omega) | (simp_all)
                case r13 => intro h hh; cases hh
            · rintro ⟨f, u⟩ ⟨hF, hV, hU⟩
              refine good_seq fun K174 hK174 => ?_
              refine good_seq fun K175 hK175 => ?_
              refine good_region rfl ?_
              refine ev_q rfl (q_move (by conv => lhs; whnf) ?_)
              refine ev_q rfl (q_move (by conv => lhs; whnf) ?_)
              refine ev_q rfl (q_int rfl rfl ?_)
              intro n176 hn176
              replace hn176 := in64 hn176 (by omega) (by omega)
              refine ev_q rfl (q_int rfl rfl ?_)
              intro b177 hb177; cases b177
              · replace hb177 := dF hb177
                refine ev_nil (hK175 _ ?_); clear hK175
                refine good_condF rfl ?_
                refine good_exit ?_
                repeat (first | refine thenQ_exit ?_ | refine blockQ_pass rfl ?_)
                refine blockQ_exit (hK173 _ ?_); clear hK173
                refine good_seq fun K178 hK178 => ?_
                refine good_region rfl ?_
                refine ev_q rfl (q_move (by conv => lhs; whnf) ?_)
                refine ev_q rfl (q_move (by conv => lhs; whnf) ?_)
                refine ev_q rfl (q_assign (by conv => lhs; whnf) ?_)
                refine ev_q rfl (q_assign (by conv => lhs; whnf) ?_)
                refine ev_nil (hK178 _ ?_); clear hK178
                refine good_ret ?_
                repeat (first | refine thenQ_ret ?_ | refine blockQ_ret ?_)
                refine ret_many rfl ?_
                refine res_tmp (by conv => lhs; whnf) rfl ?_
                refine res_tmp (by conv => lhs; whnf) rfl ?_
                refine res_nil ?_
                clear hK6 hK174
                have e : f = bB (lesP tr su re pr q) re pr := les_end hm (by omega) hV htop (by rcases hU with h9 | h9; exact .inl (by omega); exact .inr (by rw [show f + 1 = u by omega]; exact h9))
                exact fTup1 (fI e) (fTup1 (fI (by rw [← e]; exact hV.symm)) rfl)
              · replace hb177 := dT hb177
                refine ev_nil (hK175 _ ?_); clear hK175
                refine good_condT rfl ?_
                refine good_skip (hK174 _ ?_); clear hK174
                refine good_block ?_
                refine good_seq fun K179 hK179 => ?_
                refine good_region rfl ?_
                refine ev_q rfl (q_move (by conv => lhs; whnf) ?_)
                refine ev_q rfl (q_move (by conv => lhs; whnf) ?_)
                refine ev_q rfl (q_int rfl rfl ?_)
                intro n180 hn180
                replace hn180 := in64 hn180 (by omega) (by omega)
                refine ev_q rfl (q_int rfl rfl ⟨by omega, ?_⟩)
                intro n181 hn181
                first | replace hn181 := quoE hn181 (by omega) (by omega) | replace hn181 := quoT hn181 (by omega) (by omega)
                refine ev_q rfl (q_assign (by conv => lhs; whnf) ?_)
                refine ev_nil (hK179 _ ?_); clear hK179
                refine good_seq fun K182 hK182 => ?_
                refine good_region rfl ?_
                refine ev_q rfl (q_move (by conv => lhs; whnf) ?_)
                refine ev_q rfl (q_move (by conv => lhs; whnf) ?_)
                refine ev_q rfl (q_move (by conv => lhs; whnf) ?_)
                refine ev_q rfl (q_move (by conv => lhs; whnf) ?_)
                refine ev_q rfl (q_callI rfl rfl (rfl) (D_spec_l12Given s nd tr su re pr q _ hq hp (by omega) ht hsu hre) ?_)
                intro n183 hn183
                refine ev_q rfl (q_move (by conv => lhs; whnf) ?_)
                refine ev_q rfl (q_int rfl rfl ?_)
                intro b184 hb184; cases b184
                · replace hb184 := dF hb184
                  refine ev_nil (hK182 _ ?_); clear hK182
                  refine good_condF rfl ?_
                  refine good_region rfl ?_
                  refine ev_q rfl (q_move (by conv => lhs; whnf) ?_)
                  refine ev_q rfl (q_assign (by conv => lhs; whnf) ?_)
                  refine ev_nil ?_
                  clear hK6 hK173
                  refine ⟨(f, n181), ?_, ?_, ?_⟩
                  · exact ⟨by first | omega | (dsimp only; omega), hV, .inr (by first | omega | (dsimp only; omega))⟩
                  · first | omega | (dsimp only; omega)
                  · refine sub_weak ?_ ?_
                    · exact weakH_none _
                    · refine weakE_upd ?e13 ?r13 (weakE_upd ?e12 ?r12 (weakE_upd ?e11 ?r11 (weakE_upd ?e2 ?r2 (weakE_upd ?e1 ?r1 (weakE_upd ?e0 ?r0 (weakE_junk _ _))))))
                      case e0 => first | rfl | exact fI (by omega) | (simp_all)
                      case r0 => intro h hh; cases hh
                      case e1 => first | rfl | exact fI (by omega) | (simp_all)
                      case r1 => intro h hh; cases hh
                      case e2 => first | rfl | exact fI (by omega) | (simp_all)
                      case r2 => intro h hh; cases hh
                      case e11 => first | rfl | exact fI (by omega) | (first | rfl | exact fI (by grind))
                      case r11 => intro h hh; cases hh
                      case e12 => first | rfl | exact fI (by omega) | (first | rfl | exact fI (by grind))
                      case r12 => intro h hh; cases hh
                      case e13 => first | rfl | exact fI (by omega) | (simp_all)
                      case r13 => intro h hh; cases hh
                · replace hb184 := dT hb184
                  refine ev_nil (hK182 _ ?_); clear hK182
                  refine good_condT rfl ?_
                  refine good_region rfl ?_
                  refine ev_q rfl (q_move (by conv => lhs; whnf) ?_)
                  refine ev_q rfl (q_assign (by conv => lhs; whnf) ?_)
                  refine ev_nil ?_
                  clear hK6 hK173
                  refine ⟨(n181, u), ?_, ?_, ?_⟩
                  · exact ⟨by first | omega | (dsimp only; omega), by have := htop n181 (by omega) (by omega); omega, hU⟩
                  · first | omega | (dsimp only; omega)
                  · refine sub_weak ?_ ?_
                    · exact weakH_none _
                    · refine weakE_upd ?e13 ?r13 (weakE_upd ?e12 ?r12 (weakE_upd ?e11 ?r11 (weakE_upd ?e2 ?r2 (weakE_upd ?e1 ?r1 (weakE_upd ?e0 ?r0 (weakE_junk _ _))))))
                      case e0 => first | rfl | exact fI (by omega) | (simp_all)
                      case r0 => intro h hh; cases hh
                      case e1 => first | rfl | exact fI (by omega) | (simp_all)
                      case r1 => intro h hh; cases hh
                      case e2 => first | rfl | exact fI (by omega) | (simp_all)
                      case r2 => intro h hh; cases hh
                      case e11 => first | rfl | exact fI (by omega) | (first | rfl | exact fI (by grind))
                      case r11 => intro h hh; cases hh
                      case e12 => first | rfl | exact fI (by omega) | (first | rfl | exact fI (by grind))
                      case r12 => intro h hh; cases hh
                      case e13 => first | rfl | exact fI (by omega) | (simp_all)
                      case r13 => intro h hh; cases hh
          · replace hb170 := dT hb170
            refine ev_q rfl (q_move (by conv => lhs; whnf) ?_)
            refine ev_q rfl (q_move (by conv => lhs; whnf) ?_)
            refine ev_q rfl (q_move (by conv => lhs; whnf) ?_)
            refine ev_q rfl (q_move (by conv => lhs; whnf) ?_)
            refine ev_q rfl (q_move (by conv => lhs; whnf) ?_)
            refine ev_q rfl (q_callI rfl rfl (rfl) (D_spec_l12Given s nd tr su re pr q _ hq hp (by omega) ht hsu hre) ?_)
            intro n185 hn185
            refine ev_q rfl (q_move (by conv => lhs; whnf) ?_)
            refine ev_q rfl (q_int rfl rfl ?_)
            intro b186 hb186; cases b186
            · replace hb186 := eqF hb186
              refine ev_q rfl (q_pickT rfl (by conv => lhs; whnf) ?_)
              refine ev_nil (hK169 _ ?_); clear hK169
              refine good_condF rfl ?_
              refine good_skip (hK168 _ ?_); clear hK168
              refine good_seq fun K187 hK187 => ?_
              refine good_region rfl ?_
              refine ev_q rfl (q_move (by conv => lhs; whnf) ?_)
              refine ev_q rfl (q_int rfl rfl ?_)
              intro n188 hn188
              replace hn188 := in64 hn188 (by omega) (by omega)
              refine ev_q rfl (q_assign (by conv => lhs; whnf) ?_)
              refine ev_nil (hK187 _ ?_); clear hK187
              refine good_seq fun K189 hK189 => ?_
              refine good_block ?_
              obtain ⟨v, f0, hvd, hfd, htop, hv, hf1, hf2⟩ := les_v (h := h) hm (by omega) (by omega) hJ hK
              refine good_loop (α := Int × Int) (fun (f, u) => { env := upd (upd (upd (upd (upd (upd ((fun _ => .junk)) 0 (.rp [.s (.string s), .s (.int .i64 nd), .s (.int .i64 tr), .s (.int .i64 su), .s (.int .i64 re)])) 1 (.s (.int .i64 pr))) 2 (.s (.int .i64 q))) 11 (.s (.int .i64 v))) 12 (.s (.int .i64 f))) 13 (.s (.int .i64 u)), H := fun _ => none }) (fun (f, u) => (re ≤ f ∧ f + 1 ≤ u ∧ u ≤ pr + 1) ∧ mx0 (lesP tr su re pr q (f)) = v ∧ (u = pr + 1 ∨ mx0 (lesP tr su re pr q (u)) < v)) (fun (f, u) => (u - f).toNat) (f0, pr + 1) ?_ ?_ ?_
              · exact ⟨by first | omega | (dsimp only; omega), hv, .inl rfl⟩
              · refine sub_weak ?_ ?_
                · exact weakH_none _
                · refine weakE_upd ?e13 ?r13 (weakE_upd ?e12 ?r12 (weakE_upd ?e11 ?r11 (weakE_upd ?e2 ?r2 (weakE_upd ?e1 ?r1 (weakE_upd ?e0 ?r0 (weakE_junk _ _))))))
                  case e0 => first | rfl | exact fI (by omega) | (simp_all)
                  case r0 => intro h hh; cases hh
                  case e1 => first | rfl | exact fI (by omega) | (simp_all)
                  case r1 => intro h hh; cases hh
                  case e2 => first | rfl | exact fI (by omega) | (simp_all)
                  case r2 => intro h hh; cases hh
                  case e11 => first | rfl | exact fI (by omega) | (first | rfl | exact fI (by grind))
                  case r11 => intro h hh; cases hh
                  case e12 => first | rfl | exact fI (by omega) | (first | rfl | exact fI (by grind))
                  case r12 => intro h hh; cases hh
                  case e13 => first | rfl | exact fI (by omega) | (simp_all)
                  case r13 => intro h hh; cases hh
              · rintro ⟨f, u⟩ ⟨hF, hV, hU⟩
                refine good_seq fun K190 hK190 => ?_
                refine good_seq fun K191 hK191 => ?_
                refine good_region rfl ?_
                refine ev_q rfl (q_move (by conv => lhs; whnf) ?_)
                refine ev_q rfl (q_move (by conv => lhs; whnf) ?_)
                refine ev_q rfl (q_int rfl rfl ?_)
                intro n192 hn192
                replace hn192 := in64 hn192 (by omega) (by omega)
                refine ev_q rfl (q_int rfl rfl ?_)
                intro b193 hb193; cases b193
                · replace hb193 := dF hb193
                  refine ev_nil (hK191 _ ?_); clear hK191
                  refine good_condF rfl ?_
                  refine good_exit ?_
                  repeat (first | refine thenQ_exit ?_ | refine blockQ_pass rfl ?_)
                  refine blockQ_exit (hK189 _ ?_); clear hK189
                  refine good_seq fun K194 hK194 => ?_
                  refine good_region rfl ?_
                  refine ev_q rfl (q_move (by conv => lhs; whnf) ?_)
                  refine ev_q rfl (q_move (by conv => lhs; whnf) ?_)
                  refine ev_q rfl (q_assign (by conv => lhs; whnf) ?_)
                  refine ev_q rfl (q_assign (by conv => lhs; whnf) ?_)
                  refine ev_nil (hK194 _ ?_); clear hK194
                  refine good_ret ?_
                  repeat (first | refine thenQ_ret ?_ | refine blockQ_ret ?_)
                  refine ret_many rfl ?_
                  refine res_tmp (by conv => lhs; whnf) rfl ?_
                  refine res_tmp (by conv => lhs; whnf) rfl ?_
                  refine res_nil ?_
                  clear hK6 hK190
                  have e : f = bB (lesP tr su re pr q) re pr := les_end hm (by omega) hV htop (by rcases hU with h9 | h9; exact .inl (by omega); exact .inr (by rw [show f + 1 = u by omega]; exact h9))
                  exact fTup1 (fI e) (fTup1 (fI (by rw [← e]; exact hV.symm)) rfl)
                · replace hb193 := dT hb193
                  refine ev_nil (hK191 _ ?_); clear hK191
                  refine good_condT rfl ?_
                  refine good_skip (hK190 _ ?_); clear hK190
                  refine good_block ?_
                  refine good_seq fun K195 hK195 => ?_
                  refine good_region rfl ?_
                  refine ev_q rfl (q_move (by conv => lhs; whnf) ?_)
                  refine ev_q rfl (q_move (by conv => lhs; whnf) ?_)
                  refine ev_q rfl (q_int rfl rfl ?_)
                  intro n196 hn196
                  replace hn196 := in64 hn196 (by omega) (by omega)
                  refine ev_q rfl (q_int rfl rfl ⟨by omega, ?_⟩)
                  intro n197 hn197
                  first | replace hn197 := quoE hn197 (by omega) (by omega) | replace hn197 := quoT hn197 (by omega) (by omega)
                  refine ev_q rfl (q_assign (by conv => lhs; whnf) ?_)
                  refine ev_nil (hK195 _ ?_); clear hK195
                  refine good_seq fun K198 hK198 => ?_
                  refine good_region rfl ?_
                  refine ev_q rfl (q_move (by conv => lhs; whnf) ?_)
                  refine ev_q rfl (q_move (by conv => lhs; whnf) ?_)
                  refine ev_q rfl (q_move (by conv => lhs; whnf) ?_)
                  refine ev_q rfl (q_move (by conv => lhs; whnf) ?_)
                  refine ev_q rfl (q_callI rfl rfl (rfl) (D_spec_l12Given s nd tr su re pr q _ hq hp (by omega) ht hsu hre) ?_)
                  intro n199 hn199
                  refine ev_q rfl (q_move (by conv => lhs; whnf) ?_)
                  refine ev_q rfl (q_int rfl rfl ?_)
                  intro b200 hb200; cases b200
                  · replace hb200 := dF hb200
                    refine ev_nil (hK198 _ ?_); clear hK198
                    refine good_condF rfl ?_
                    refine good_region rfl ?_
                    refine ev_q rfl (q_move (by conv => lhs; whnf) ?_)
                    refine ev_q rfl (q_assign (by conv => lhs; whnf) ?_)
                    refine ev_nil ?_
                    clear hK6 hK189
                    refine ⟨(f, n197), ?_, ?_, ?_⟩
                    · exact ⟨by first | omega | (dsimp only; omega), hV, .inr (by first | omega | (dsimp only; omega))⟩
                    · first | omega | (dsimp only; omega)
                    · refine sub_weak ?_ ?_
                      · exact weakH_none _
                      · refine weakE_upd ?e13 ?r13 (weakE_upd ?e12 ?r12 (weakE_upd ?e11 ?r11 (weakE_upd ?e2 ?r2 (weakE_upd ?e1 ?r1 (weakE_upd ?e0 ?r0 (weakE_junk _ _))))))
                        case e0 => first | rfl | exact fI (by omega) | (simp_all)
                        case r0 => intro h hh; cases hh
                        case e1 => first | rfl | exact fI (by omega) | (simp_all)
                        case r1 => intro h hh; cases hh
                        case e2 => first | rfl | exact fI (by omega) | (simp_all)
                        case r2 => intro h hh; cases hh
                        case e11 => first | rfl | exact fI (by omega) | (first | rfl | exact fI (by grind))
                        case r11 => intro h hh; cases hh
                        case e12 => first | rfl | exact fI (by omega) | (first | rfl | exact fI (by grind))
                        case r12 => intro h hh; cases hh
                        case e13 => first | rfl | exact fI (by omega) | (simp_all)
                        case r13 => intro h hh; cases hh
                  · replace hb200 := dT hb200
                    refine ev_nil (hK198 _ ?_); clear hK198
                    refine good_condT rfl ?_
                    refine good_region rfl ?_
                    refine ev_q rfl (q_move (by conv => lhs; whnf) ?_)
                    refine ev_q rfl (q_assign (by conv => lhs; whnf) ?_)
                    refine ev_nil ?_
                    clear hK6 hK189
                    refine ⟨(n197, u), ?_, ?_, ?_⟩
                    · exact ⟨by first | omega | (dsimp only; omega), by have := htop n197 (by omega) (by omega); omega, hU⟩
                    · first | omega | (dsimp only; omega)
                    · refine sub_weak ?_ ?_
                      · exact weakH_none _
                      · refine weakE_upd ?e13 ?r13 (weakE_upd ?e12 ?r12 (weakE_upd ?e11 ?r11 (weakE_upd ?e2 ?r2 (weakE_upd ?e1 ?r1 (weakE_upd ?e0 ?r0 (weakE_junk _ _))))))
                        case e0 => first | rfl | exact fI (by omega) | (simp_all)
                        case r0 => intro h hh; cases hh
                        case e1 => first | rfl | exact fI (by omega) | (simp_all)
                        case r1 => intro h hh; cases hh
                        case e2 => first | rfl | exact fI (by omega) | (simp_all)
                        case r2 => intro h hh; cases hh
                        case e11 => first | rfl | exact fI (by omega) | (first | rfl | exact fI (by grind))
                        case r11 => intro h hh; cases hh
                        case e12 => first | rfl | exact fI (by omega) | (first | rfl | exact fI (by grind))
                        case r12 => intro h hh; cases hh
                        case e13 => first | rfl | exact fI (by omega) | (simp_all)
                        case r13 => intro h hh; cases hh
            · replace hb186 := eqT hb186
              refine ev_q rfl (q_pickT rfl (by conv => lhs; whnf) ?_)
              refine ev_nil (hK169 _ ?_); clear hK169
              refine good_condT rfl ?_
              refine good_region rfl ?_
              refine ev_q rfl (q_move (by conv => lhs; whnf) ?_)
              refine ev_q rfl (q_assign (by conv => lhs; whnf) ?_)
              refine ev_nil (hK168 _ ?_); clear hK168
              refine good_seq fun K201 hK201 => ?_
              refine good_region rfl ?_
              refine ev_q rfl (q_move (by conv => lhs; whnf) ?_)
              refine ev_q rfl (q_int rfl rfl ?_)
              intro n202 hn202
              replace hn202 := in64 hn202 (by omega) (by omega)
              refine ev_q rfl (q_assign (by conv => lhs; whnf) ?_)
              refine ev_nil (hK201 _ ?_); clear hK201
              refine good_seq fun K203 hK203 => ?_
              refine good_block ?_
              obtain ⟨v, f0, hvd, hfd, htop, hv, hf1, hf2⟩ := les_v (h := h) hm (by omega) (by omega) hJ hK
              refine good_loop (α := Int × Int) (fun (f, u) => { env := upd (upd (upd (upd (upd (upd ((fun _ => .junk)) 0 (.rp [.s (.string s), .s (.int .i64 nd), .s (.int .i64 tr), .s (.int .i64 su), .s (.int .i64 re)])) 1 (.s (.int .i64 pr))) 2 (.s (.int .i64 q))) 11 (.s (.int .i64 v))) 12 (.s (.int .i64 f))) 13 (.s (.int .i64 u)), H := fun _ => none }) (fun (f, u) => (re ≤ f ∧ f + 1 ≤ u ∧ u ≤ pr + 1) ∧ mx0 (lesP tr su re pr q (f)) = v ∧ (u = pr + 1 ∨ mx0 (lesP tr su re pr q (u)) < v)) (fun (f, u) => (u - f).toNat) (f0, pr + 1) ?_ ?_ ?_
              · exact ⟨by first | omega | (dsimp only; omega), hv, .inl rfl⟩
              · refine sub_weak ?_ ?_
                · exact weakH_none _
                · refine weakE_upd ?e13 ?r13 (weakE_upd ?e12 ?r12 (weakE_upd ?e11 ?r11 (weakE_upd ?e2 ?r2 (weakE_upd ?e1 ?r1 (weakE_upd ?e0 ?r0 (weakE_junk _ _))))))
                  case e0 => first | rfl | exact fI (by omega) | (simp_all)
                  case r0 => intro h hh; cases hh
                  case e1 => first | rfl | exact fI (by omega) | (simp_all)
                  case r1 => intro h hh; cases hh
                  case e2 => first | rfl | exact fI (by omega) | (simp_all)
                  case r2 => intro h hh; cases hh
                  case e11 => first | rfl | exact fI (by omega) | (first | rfl | exact fI (by grind))
                  case r11 => intro h hh; cases hh
                  case e12 => first | rfl | exact fI (by omega) | (first | rfl | exact fI (by grind))
                  case r12 => intro h hh; cases hh
                  case e13 => first | rfl | exact fI (by omega) | (simp_all)
                  case r13 => intro h hh; cases hh
              · rintro ⟨f, u⟩ ⟨hF, hV, hU⟩
                refine good_seq fun K204 hK204 => ?_
                refine good_seq fun K205 hK205 => ?_
                refine good_region rfl ?_
                refine ev_q rfl (q_move (by conv => lhs; whnf) ?_)
                refine ev_q rfl (q_move (by conv => lhs; whnf) ?_)
                refine ev_q rfl (q_int rfl rfl ?_)
                intro n206 hn206
                replace hn206 := in64 hn206 (by omega) (by omega)
                refine ev_q rfl (q_int rfl rfl ?_)
                intro b207 hb207; cases b207
                · replace hb207 := dF hb207
                  refine ev_nil (hK205 _ ?_); clear hK205
                  refine good_condF rfl ?_
                  refine good_exit ?_
                  repeat (first | refine thenQ_exit ?_ | refine blockQ_pass rfl ?_)
                  refine blockQ_exit (hK203 _ ?_); clear hK203
                  refine good_seq fun K208 hK208 => ?_
                  refine good_region rfl ?_
                  refine ev_q rfl (q_move (by conv => lhs; whnf) ?_)
                  refine ev_q rfl (q_move (by conv => lhs; whnf) ?_)
                  refine ev_q rfl (q_assign (by conv => lhs; whnf) ?_)
                  refine ev_q rfl (q_assign (by conv => lhs; whnf) ?_)
                  refine ev_nil (hK208 _ ?_); clear hK208
                  refine good_ret ?_
                  repeat (first | refine thenQ_ret ?_ | refine blockQ_ret ?_)
                  refine ret_many rfl ?_
                  refine res_tmp (by conv => lhs; whnf) rfl ?_
                  refine res_tmp (by conv => lhs; whnf) rfl ?_
                  refine res_nil ?_
                  clear hK6 hK204
                  have e : f = bB (lesP tr su re pr q) re pr := les_end hm (by omega) hV htop (by rcases hU with h9 | h9; exact .inl (by omega); exact .inr (by rw [show f + 1 = u by omega]; exact h9))
                  exact fTup1 (fI e) (fTup1 (fI (by rw [← e]; exact hV.symm)) rfl)
                · replace hb207 := dT hb207
                  refine ev_nil (hK205 _ ?_); clear hK205
                  refine good_condT rfl ?_
                  refine good_skip (hK204 _ ?_); clear hK204
                  refine good_block ?_
                  refine good_seq fun K209 hK209 => ?_
                  refine good_region rfl ?_
                  refine ev_q rfl (q_move (by conv => lhs; whnf) ?_)
                  refine ev_q rfl (q_move (by conv => lhs; whnf) ?_)
                  refine ev_q rfl (q_int rfl rfl ?_)
                  intro n210 hn210
                  replace hn210 := in64 hn210 (by omega) (by omega)
                  refine ev_q rfl (q_int rfl rfl ⟨by omega, ?_⟩)
                  intro n211 hn211
                  first | replace hn211 := quoE hn211 (by omega) (by omega) | replace hn211 := quoT hn211 (by omega) (by omega)
                  refine ev_q rfl (q_assign (by conv => lhs; whnf) ?_)
                  refine ev_nil (hK209 _ ?_); clear hK209
                  refine good_seq fun K212 hK212 => ?_
                  refine good_region rfl ?_
                  refine ev_q rfl (q_move (by conv => lhs; whnf) ?_)
                  refine ev_q rfl (q_move (by conv => lhs; whnf) ?_)
                  refine ev_q rfl (q_move (by conv => lhs; whnf) ?_)
                  refine ev_q rfl (q_move (by conv => lhs; whnf) ?_)
                  refine ev_q rfl (q_callI rfl rfl (rfl) (D_spec_l12Given s nd tr su re pr q _ hq hp (by omega) ht hsu hre) ?_)
                  intro n213 hn213
                  refine ev_q rfl (q_move (by conv => lhs; whnf) ?_)
                  refine ev_q rfl (q_int rfl rfl ?_)
                  intro b214 hb214; cases b214
                  · replace hb214 := dF hb214
                    refine ev_nil (hK212 _ ?_); clear hK212
                    refine good_condF rfl ?_
                    refine good_region rfl ?_
                    refine ev_q rfl (q_move (by conv => lhs; whnf) ?_)
                    refine ev_q rfl (q_assign (by conv => lhs; whnf) ?_)
                    refine ev_nil ?_
                    clear hK6 hK203
                    refine ⟨(f, n211), ?_, ?_, ?_⟩
                    · exact ⟨by first | omega | (dsimp only; omega), hV, .inr (by first | omega | (dsimp only; omega))⟩
                    · first | omega | (dsimp only; omega)
                    · refine sub_weak ?_ ?_
                      · exact weakH_none _
                      · refine weakE_upd ?e13 ?r13 (weakE_upd ?e12 ?r12 (weakE_upd ?e11 ?r11 (weakE_upd ?e2 ?r2 (weakE_upd ?e1 ?r1 (weakE_upd ?e0 ?r0 (weakE_junk _ _))))))
                        case e0 => first | rfl | exact fI (by omega) | (simp_all)
                        case r0 => intro h hh; cases hh
                        case e1 => first | rfl | exact fI (by omega) | (simp_all)
                        case r1 => intro h hh; cases hh
                        case e2 => first | rfl | exact fI (by omega) | (simp_all)
                        case r2 => intro h hh; cases hh
                        case e11 => first | rfl | exact fI (by omega) | (first | rfl | exact fI (by grind))
                        case r11 => intro h hh; cases hh
                        case e12 => first | rfl | exact fI (by omega) | (first | rfl | exact fI (by grind))
                        case r12 => intro h hh; cases hh
                        case e13 => first | rfl | exact fI (by omega) | (simp_all)
                        case r13 => intro h hh; cases hh
                  · replace hb214 := dT hb214
                    refine ev_nil (hK212 _ ?_); clear hK212
                    refine good_condT rfl ?_
                    refine good_region rfl ?_
                    refine ev_q rfl (q_move (by conv => lhs; whnf) ?_)
                    refine ev_q rfl (q_assign (by conv => lhs; whnf) ?_)
                    refine ev_nil ?_
                    clear hK6 hK203
                    refine ⟨(n211, u), ?_, ?_, ?_⟩
                    · exact ⟨by first | omega | (dsimp only; omega), by have := htop n211 (by omega) (by omega); omega, hU⟩
                    · first | omega | (dsimp only; omega)
                    · refine sub_weak ?_ ?_
                      · exact weakH_none _
                      · refine weakE_upd ?e13 ?r13 (weakE_upd ?e12 ?r12 (weakE_upd ?e11 ?r11 (weakE_upd ?e2 ?r2 (weakE_upd ?e1 ?r1 (weakE_upd ?e0 ?r0 (weakE_junk _ _))))))
                        case e0 => first | rfl | exact fI (by omega) | (simp_all)
                        case r0 => intro h hh; cases hh
                        case e1 => first | rfl | exact fI (by omega) | (simp_all)
                        case r1 => intro h hh; cases hh
                        case e2 => first | rfl | exact fI (by omega) | (simp_all)
                        case r2 => intro h hh; cases hh
                        case e11 => first | rfl | exact fI (by omega) | (first | rfl | exact fI (by grind))
                        case r11 => intro h hh; cases hh
                        case e12 => first | rfl | exact fI (by omega) | (first | rfl | exact fI (by grind))
                        case r12 => intro h hh; cases hh
                        case e13 => first | rfl | exact fI (by omega) | (simp_all)
                        case r13 => intro h hh; cases hh
    · replace hb9 := dT hb9
      refine ev_nil (hK7 _ ?_); clear hK7
      refine good_condT rfl ?_
      refine good_skip (hK6 _ ?_); clear hK6
      refine good_block ?_
      refine good_seq fun K215 hK215 => ?_
      refine good_region rfl ?_
      refine ev_q rfl (q_move (by conv => lhs; whnf) ?_)
      refine ev_q rfl (q_move (by conv => lhs; whnf) ?_)
      refine ev_q rfl (q_int rfl rfl ?_)
      intro n216 hn216
      replace hn216 := in64 hn216 (by omega) (by omega)
      refine ev_q rfl (q_int rfl rfl ⟨by omega, ?_⟩)
      intro n217 hn217
      first | replace hn217 := quoE hn217 (by omega) (by omega) | replace hn217 := quoT hn217 (by omega) (by omega)
      have hbd : 0 ≤ n217 ∧ n217 ≤ 18001 := by omega
      have hc := cB (tr := tr) (su := su) (re := re) ht hp hbd hsu hre
      refine ev_q rfl (q_assign (by conv => lhs; whnf) ?_)
      refine ev_nil (hK215 _ ?_); clear hK215
      refine good_seq fun K218 hK218 => ?_
      refine good_draw 15 hmix (by kernel_rfl) rfl ?_
      refine qo_q rfl (q_move (by conv => lhs; whnf) ?_)
      refine qo_q rfl (q_move (by conv => lhs; whnf) ?_)
      refine qo_q rfl (q_move (by conv => lhs; whnf) ?_)
      refine qo_q rfl (q_callI rfl rfl (rfl) (D_spec_l02Power _ _ _ hq hp (by omega)) ?_)
      intro n219 hn219
      refine qo_q rfl (q_move (by conv => lhs; whnf) ?_)
      refine qo_q rfl (q_nilCheck (by conv => lhs; whnf) rfl ?_)
      refine qo_q rfl (q_fieldAddr fO27_2 rfl rfl ?_)
      refine qo_q rfl (q_load tA2 rfl ?_)
      refine qo_q rfl (q_move (by conv => lhs; whnf) ?_)
      refine qo_q rfl (q_move (by conv => lhs; whnf) ?_)
      refine qo_q rfl (q_move (by conv => lhs; whnf) ?_)
      refine qo_q rfl (q_callI rfl rfl (rfl) (D_spec_l12Mean _ _ _ _ _ _ _ (by omega) (by omega) (by omega) (by omega)) ?_)
      intro n220 hn220
      replace hn220 : n220 = mdP su re pr n217 := hn220
      refine qo_q rfl (q_int rfl rfl ?_)
      intro n221 hn221
      rw [hn220] at hn221
      replace hn221 := in64 hn221 (by omega) (by omega)
      refine qo_q rfl (q_callI rfl rfl (rfl) (D_spec_l01Div _ _ (by omega) (by omega)) ?_)
      intro n222 hn222
      rw [hn221] at hn222
      replace hn222 : n222 = cP tr su re pr n217 := hn222
      refine qo_q rfl (q_int rfl rfl ?_)
      intro b223 hb223; cases b223
      · replace hb223 := dF hb223
        refine qo_nil ?_
        refine ev_nil (hK218 _ ?_); clear hK218
        refine good_condF rfl ?_
        refine good_region rfl ?_
        refine ev_q rfl (q_move (by conv => lhs; whnf) ?_)
        refine ev_q rfl (q_assign (by conv => lhs; whnf) ?_)
        refine ev_nil ?_
        clear hK5
        refine ⟨(l, n217), ?_, ?_, ?_⟩
        · exact ⟨by first | omega | (dsimp only; omega), hJ, .inr (by first | omega | (dsimp only; omega))⟩
        · first | omega | (dsimp only; omega)
        · refine sub_weak ?_ ?_
          · exact weakH_none _
          · refine weakE_upd ?e9 ?r9 (weakE_upd ?e8 ?r8 (weakE_upd ?e2 ?r2 (weakE_upd ?e1 ?r1 (weakE_upd ?e0 ?r0 (weakE_junk _ _)))))
            case e0 => first | rfl | exact fI (by omega) | (simp_all)
            case r0 => intro h hh; cases hh
            case e1 => first | rfl | exact fI (by omega) | (simp_all)
            case r1 => intro h hh; cases hh
            case e2 => first | rfl | exact fI (by omega) | (simp_all)
            case r2 => intro h hh; cases hh
            case e8 => first | rfl | exact fI (by omega) | (simp_all)
            case r8 => intro h hh; cases hh
            case e9 => first | rfl | exact fI (by omega) | (simp_all)
            case r9 => intro h hh; cases hh
      · replace hb223 := dT hb223
        refine qo_nil ?_
        refine ev_nil (hK218 _ ?_); clear hK218
        refine good_condT rfl ?_
        refine good_region rfl ?_
        refine ev_q rfl (q_move (by conv => lhs; whnf) ?_)
        refine ev_q rfl (q_assign (by conv => lhs; whnf) ?_)
        refine ev_nil ?_
        clear hK5
        refine ⟨(n217, h), ?_, ?_, ?_⟩
        · exact ⟨by first | omega | (dsimp only; omega), .inr (by first | omega | (dsimp only; omega)), hK⟩
        · first | omega | (dsimp only; omega)
        · refine sub_weak ?_ ?_
          · exact weakH_none _
          · refine weakE_upd ?e9 ?r9 (weakE_upd ?e8 ?r8 (weakE_upd ?e2 ?r2 (weakE_upd ?e1 ?r1 (weakE_upd ?e0 ?r0 (weakE_junk _ _)))))
            case e0 => first | rfl | exact fI (by omega) | (simp_all)
            case r0 => intro h hh; cases hh
            case e1 => first | rfl | exact fI (by omega) | (simp_all)
            case r1 => intro h hh; cases hh
            case e2 => first | rfl | exact fI (by omega) | (simp_all)
            case r2 => intro h hh; cases hh
            case e8 => first | rfl | exact fI (by omega) | (simp_all)
            case r8 => intro h hh; cases hh
            case e9 => first | rfl | exact fI (by omega) | (simp_all)
            case r9 => intro h hh; cases hh

-- spec.l12Power
set_option maxRecDepth 20000 in
set_option maxHeartbeats 2000000 in
theorem D_spec_l12Power (s : ByteArray) (nd tr su re : Int) (pr q : Int) (hq : 0 ≤ q ∧ q ≤ 100000) (hp : 0 ≤ pr ∧ pr ≤ 18000) (ht : 0 ≤ tr ∧ tr ≤ 100000) (hsu : 0 ≤ su ∧ su ≤ 18000) (hre : 0 ≤ re ∧ re ≤ 18000) : Den Try.prog 58 [.rp [.s (.string s), .s (.int .i64 nd), .s (.int .i64 tr), .s (.int .i64 su), .s (.int .i64 re)], .s (.int .i64 pr), .s (.int .i64 q)] (.s (.int .i64 (pwP tr su re pr q))) := by
  refine den_of_good Try.func58 (by decide) rfl (Nat.le_of_ble_eq_true rfl) (Nat.le_of_ble_eq_true rfl) ?_
  refine good_seq fun K1 hK1 => ?_
  refine good_region rfl ?_
  refine ev_q rfl (q_assign (by conv => lhs; whnf) ?_)
  refine ev_nil (hK1 _ ?_); clear hK1
  refine good_seq fun K2 hK2 => ?_
  refine good_seq fun K3 hK3 => ?_
  refine good_region rfl ?_
  refine ev_q rfl (q_move (by conv => lhs; whnf) ?_)
  refine ev_q rfl (q_move (by conv => lhs; whnf) ?_)
  refine ev_q rfl (q_nilCheck (by conv => lhs; whnf) rfl ?_)
  refine ev_q rfl (q_fieldAddr fO27_4 rfl rfl ?_)
  refine ev_q rfl (q_load tA2 rfl ?_)
  refine ev_q rfl (q_int rfl rfl ?_)
  intro b4 hb4; cases b4
  · replace hb4 := dF hb4
    refine ev_nil (hK3 _ ?_); clear hK3
    refine good_condF rfl ?_
    refine good_skip (hK2 _ ?_); clear hK2
    refine good_seq fun K5 hK5 => ?_
    refine good_region rfl ?_
    refine ev_q rfl (q_move (by conv => lhs; whnf) ?_)
    refine ev_q rfl (q_move (by conv => lhs; whnf) ?_)
    refine ev_q rfl (q_move (by conv => lhs; whnf) ?_)
    refine ev_q rfl (q_call rfl rfl (rfl) (D_spec_l12Back s nd tr su re pr q hq hp ht hsu hre (by omega)) rfl ?_)
    refine ev_q rfl (q_move (by conv => lhs; whnf) ?_)
    refine ev_q rfl (q_extractI rfl rfl ?_)
    intro n6 hn6
    refine ev_q rfl (q_extractI rfl rfl ?_)
    intro n7 hn7
    refine ev_q rfl (q_assign (by conv => lhs; whnf) ?_)
    refine ev_q rfl (q_assign (by conv => lhs; whnf) ?_)
    refine ev_nil (hK5 _ ?_); clear hK5
    refine good_seq fun K8 hK8 => ?_
    refine good_region rfl ?_
    refine ev_q rfl (q_move (by conv => lhs; whnf) ?_)
    refine ev_q rfl (q_assign (by conv => lhs; whnf) ?_)
    refine ev_nil (hK8 _ ?_); clear hK8
    refine good_ret ?_
    repeat (first | refine thenQ_ret ?_ | refine blockQ_ret ?_)
    refine ret_tmp (st := _) rfl (by conv => lhs; whnf) rfl ?_
    first | exact fI (by unfold pwP; rw [if_pos (by omega)]) | exact fI (by unfold pwP; rw [if_neg (by omega)]; assumption)
  · replace hb4 := dT hb4
    refine ev_nil (hK3 _ ?_); clear hK3
    refine good_condT rfl ?_
    refine good_seq fun K9 hK9 => ?_
    refine good_region rfl ?_
    refine ev_q rfl (q_assign (by conv => lhs; whnf) ?_)
    refine ev_nil (hK9 _ ?_); clear hK9
    refine good_ret ?_
    repeat (first | refine thenQ_ret ?_ | refine blockQ_ret ?_)
    refine ret_tmp (st := _) rfl (by conv => lhs; whnf) rfl ?_
    clear hK2
    first | exact fI (by unfold pwP; rw [if_pos (by omega)]) | exact fI (by unfold pwP; rw [if_neg (by omega)]; assumption)

-- spec.l02Watts
set_option maxRecDepth 20000 in
set_option maxHeartbeats 2000000 in
theorem D_spec_l02Watts (a : Int)  : Den Try.prog 60 [.s (.int .i64 a)] (.s (.bool (decide (0 ≤ a ∧ a ≤ 100000000)))) := by
  refine den_of_good Try.func60 (by decide) rfl (Nat.le_of_ble_eq_true rfl) (Nat.le_of_ble_eq_true rfl) ?_
  refine good_seq fun K1 hK1 => ?_
  refine good_region rfl ?_
  refine ev_q rfl (q_assign (by conv => lhs; whnf) ?_)
  refine ev_nil (hK1 _ ?_); clear hK1
  refine good_seq fun K2 hK2 => ?_
  refine good_region rfl ?_
  refine ev_q rfl (q_move (by conv => lhs; whnf) ?_)
  refine ev_q rfl (q_callB rfl rfl (rfl) (D_spec_l00In ..) ?_)
  intro b3 hb3; cases b3
  · first | replace hb3 := dF hb3 | skip
    refine ev_q rfl (q_assign (by conv => lhs; whnf) ?_)
    refine ev_nil (hK2 _ ?_); clear hK2
    refine good_ret ?_
    repeat (first | refine thenQ_ret ?_ | refine blockQ_ret ?_)
    refine ret_tmp (st := _) rfl (by conv => lhs; whnf) rfl ?_
    first | rfl | exact fT (by first | omega | grind) | exact fF (by first | omega | grind) | exact fT' (by first | omega | grind) | (exfalso; first | omega | grind)
  · first | replace hb3 := dT hb3 | skip
    refine ev_q rfl (q_assign (by conv => lhs; whnf) ?_)
    refine ev_nil (hK2 _ ?_); clear hK2
    refine good_ret ?_
    repeat (first | refine thenQ_ret ?_ | refine blockQ_ret ?_)
    refine ret_tmp (st := _) rfl (by conv => lhs; whnf) rfl ?_
    first | rfl | exact fT (by first | omega | grind) | exact fF (by first | omega | grind) | exact fT' (by first | omega | grind) | (exfalso; first | omega | grind)

-- impl.pressureOk
set_option maxRecDepth 20000 in
set_option maxHeartbeats 2000000 in
theorem D_impl_pressureOk (a : Int)  : Den Try.prog 61 [.s (.int .i64 a)] (.s (.bool (decide (0 ≤ a ∧ a ≤ 100000000)))) := by
  refine den_of_good Try.func61 (by decide) rfl (Nat.le_of_ble_eq_true rfl) (Nat.le_of_ble_eq_true rfl) ?_
  refine good_seq fun K1 hK1 => ?_
  refine good_region rfl ?_
  refine ev_q rfl (q_assign (by conv => lhs; whnf) ?_)
  refine ev_nil (hK1 _ ?_); clear hK1
  refine good_seq fun K2 hK2 => ?_
  refine good_region rfl ?_
  refine ev_q rfl (q_move (by conv => lhs; whnf) ?_)
  refine ev_q rfl (q_callB rfl rfl (rfl) (D_impl_within ..) ?_)
  intro b3 hb3; cases b3
  · first | replace hb3 := dF hb3 | skip
    refine ev_q rfl (q_assign (by conv => lhs; whnf) ?_)
    refine ev_nil (hK2 _ ?_); clear hK2
    refine good_ret ?_
    repeat (first | refine thenQ_ret ?_ | refine blockQ_ret ?_)
    refine ret_tmp (st := _) rfl (by conv => lhs; whnf) rfl ?_
    first | rfl | exact fT (by first | omega | grind) | exact fF (by first | omega | grind) | exact fT' (by first | omega | grind) | (exfalso; first | omega | grind)
  · first | replace hb3 := dT hb3 | skip
    refine ev_q rfl (q_assign (by conv => lhs; whnf) ?_)
    refine ev_nil (hK2 _ ?_); clear hK2
    refine good_ret ?_
    repeat (first | refine thenQ_ret ?_ | refine blockQ_ret ?_)
    refine ret_tmp (st := _) rfl (by conv => lhs; whnf) rfl ?_
    first | rfl | exact fT (by first | omega | grind) | exact fF (by first | omega | grind) | exact fT' (by first | omega | grind) | (exfalso; first | omega | grind)

-- impl.orState
set_option maxRecDepth 20000 in
set_option maxHeartbeats 2000000 in
theorem D_impl_orState_F (n : Int)  : Den Try.prog 62 [.s (.int .i64 n), .s (.bool false)] (.tup [.s (.int .i64 0), .s (.int .i64 6)]) := by
  refine den_of_good Try.func62 (by decide) rfl (Nat.le_of_ble_eq_true rfl) (Nat.le_of_ble_eq_true rfl) ?_
  refine good_seq fun K1 hK1 => ?_
  refine good_region rfl ?_
  refine ev_q rfl (q_assign (by conv => lhs; whnf) ?_)
  refine ev_q rfl (q_assign (by conv => lhs; whnf) ?_)
  refine ev_nil (hK1 _ ?_); clear hK1
  refine good_seq fun K2 hK2 => ?_
  refine good_seq fun K3 hK3 => ?_
  refine good_region rfl ?_
  refine ev_q rfl (q_move (by conv => lhs; whnf) ?_)
  refine ev_q rfl (q_not rfl rfl ?_)
  refine ev_nil (hK3 _ ?_); clear hK3
  refine good_condT rfl ?_
  refine good_seq fun K4 hK4 => ?_
  refine good_region rfl ?_
  refine ev_q rfl (q_assign (by conv => lhs; whnf) ?_)
  refine ev_q rfl (q_assign (by conv => lhs; whnf) ?_)
  refine ev_nil (hK4 _ ?_); clear hK4
  refine good_ret ?_
  repeat (first | refine thenQ_ret ?_ | refine blockQ_ret ?_)
  refine ret_many rfl ?_
  refine res_tmp (by conv => lhs; whnf) rfl ?_
  refine res_tmp (by conv => lhs; whnf) rfl ?_
  refine res_nil ?_
  clear hK2
  exact fTup1 (by first | rfl | exact fI (by first | omega | grind) | (exfalso; first | omega | grind)) (fTup1 (by first | rfl | exact fI (by first | omega | grind) | (exfalso; first | omega | grind)) (rfl))
set_option maxRecDepth 20000 in
set_option maxHeartbeats 2000000 in
theorem D_impl_orState_T (n : Int)  : Den Try.prog 62 [.s (.int .i64 n), .s (.bool true)] (.tup [.s (.int .i64 n), .s (.int .i64 0)]) := by
  refine den_of_good Try.func62 (by decide) rfl (Nat.le_of_ble_eq_true rfl) (Nat.le_of_ble_eq_true rfl) ?_
  refine good_seq fun K1 hK1 => ?_
  refine good_region rfl ?_
  refine ev_q rfl (q_assign (by conv => lhs; whnf) ?_)
  refine ev_q rfl (q_assign (by conv => lhs; whnf) ?_)
  refine ev_nil (hK1 _ ?_); clear hK1
  refine good_seq fun K2 hK2 => ?_
  refine good_seq fun K3 hK3 => ?_
  refine good_region rfl ?_
  refine ev_q rfl (q_move (by conv => lhs; whnf) ?_)
  refine ev_q rfl (q_not rfl rfl ?_)
  refine ev_nil (hK3 _ ?_); clear hK3
  refine good_condF rfl ?_
  refine good_skip (hK2 _ ?_); clear hK2
  refine good_seq fun K4 hK4 => ?_
  refine good_region rfl ?_
  refine ev_q rfl (q_move (by conv => lhs; whnf) ?_)
  refine ev_q rfl (q_assign (by conv => lhs; whnf) ?_)
  refine ev_q rfl (q_assign (by conv => lhs; whnf) ?_)
  refine ev_nil (hK4 _ ?_); clear hK4
  refine good_ret ?_
  repeat (first | refine thenQ_ret ?_ | refine blockQ_ret ?_)
  refine ret_many rfl ?_
  refine res_tmp (by conv => lhs; whnf) rfl ?_
  refine res_tmp (by conv => lhs; whnf) rfl ?_
  refine res_nil ?_
  exact fTup1 (by first | rfl | exact fI (by first | omega | grind) | (exfalso; first | omega | grind)) (fTup1 (by first | rfl | exact fI (by first | omega | grind) | (exfalso; first | omega | grind)) (rfl))

-- impl.LeastTransfer$1
set_option maxRecDepth 20000 in
set_option maxHeartbeats 2000000 in
theorem D_impl_LeastTransfer_1 (s : ByteArray) (nd su re pr ld : Int) (t n : Int) (hp : 0 ≤ pr ∧ pr ≤ 18000) (hsu : 0 ≤ su ∧ su ≤ 18000) (hre : 0 ≤ re ∧ re ≤ 18000) (hn : 0 ≤ n ∧ n ≤ 100000) : DenX Try.prog 65 [(1000000, .box 27 [.s (.string s), .s (.int .i64 nd), .s (.int .i64 t), .s (.int .i64 su), .s (.int .i64 re)]), (1000001, .box 2 [.s (.int .i64 pr)]), (1000002, .box 2 [.s (.int .i64 ld)])] [.s (.int .i64 n), .ptr 1000000 0, .ptr 1000001 0, .ptr 1000002 0] [(1000000, .box 27 [.s (.string s), .s (.int .i64 nd), .s (.int .i64 n), .s (.int .i64 su), .s (.int .i64 re)]), (1000001, .box 2 [.s (.int .i64 pr)]), (1000002, .box 2 [.s (.int .i64 ld)])] (.s (.bool (decide (pwP n su re pr 100000 ≥ ld)))) := by
  refine denX_of_good Try.func65 (by decide) rfl (Nat.le_of_ble_eq_true rfl) (Nat.le_of_ble_eq_true rfl) rfl ?_
  refine good_seq fun K1 hK1 => ?_
  refine good_region rfl ?_
  refine ev_q rfl (q_assign (by conv => lhs; whnf) ?_)
  refine ev_nil (hK1 _ ?_); clear hK1
  refine good_seq fun K2 hK2 => ?_
  refine good_region rfl ?_
  refine ev_q rfl (q_move (by conv => lhs; whnf) ?_)
  refine ev_q rfl (q_fieldAddrP fO27_2 rfl rfl ?_)
  refine ev_k rfl (k_store sz2 rfl (by conv => lhs; whnf) rfl rfl rfl (Nat.le_of_ble_eq_true rfl) rfl ?_)
  refine ev_nil (hK2 _ ?_); clear hK2
  refine good_seq fun K3 hK3 => ?_
  refine good_draw 6 hmix (by kernel_rfl) rfl ?_
  refine qo_q rfl (q_loadA tA27 rfl rfl rfl ?_)
  refine qo_q rfl (q_load tA2 rfl ?_)
  refine qo_q rfl (q_callI rfl rfl (rfl) (D_impl_Substation_power s nd n su re pr 100000 (by omega) hp hn hsu hre) ?_)
  intro n4 hn4
  refine qo_q rfl (q_load tA2 rfl ?_)
  refine qo_q rfl (q_int rfl rfl ?_)
  intro b5 hb5; cases b5
  · replace hb5 := dF hb5
    refine qo_q rfl (q_assign (by conv => lhs; whnf) ?_)
    refine qo_nil ?_
    refine ev_nil (hK3 _ ?_); clear hK3
    refine good_ret ?_
    repeat (first | refine thenQ_ret ?_ | refine blockQ_ret ?_)
    refine fx_tmp rfl (by conv => lhs; whnf) ?_
    exact ⟨_, conv_eq (by first | rfl | exact fT (by first | omega | grind) | exact fF (by first | omega | grind) | exact fT' (by first | omega | grind) | (exfalso; first | omega | grind)), weakH_box (boxEq (by first | rfl | (rw [e]; done) | (rw [e]; rfl) | (simp_all; done))) rfl (weakH_box (boxEq (by first | rfl | (rw [e]; done) | (rw [e]; rfl) | (simp_all; done))) rfl (weakH_box (boxEq (by first | rfl | (rw [e]; done) | (rw [e]; rfl) | (simp_all; done))) rfl (weakH_none _))), refsIn_ok rfl⟩
  · replace hb5 := dT hb5
    refine qo_q rfl (q_assign (by conv => lhs; whnf) ?_)
    refine qo_nil ?_
    refine ev_nil (hK3 _ ?_); clear hK3
    refine good_ret ?_
    repeat (first | refine thenQ_ret ?_ | refine blockQ_ret ?_)
    refine fx_tmp rfl (by conv => lhs; whnf) ?_
    exact ⟨_, conv_eq (by first | rfl | exact fT (by first | omega | grind) | exact fF (by first | omega | grind) | exact fT' (by first | omega | grind) | (exfalso; first | omega | grind)), weakH_box (boxEq (by first | rfl | (rw [e]; done) | (rw [e]; rfl) | (simp_all; done))) rfl (weakH_box (boxEq (by first | rfl | (rw [e]; done) | (rw [e]; rfl) | (simp_all; done))) rfl (weakH_box (boxEq (by first | rfl | (rw [e]; done) | (rw [e]; rfl) | (simp_all; done))) rfl (weakH_none _))), refsIn_ok rfl⟩

-- impl.firstIn$1
set_option maxRecDepth 20000 in
set_option maxHeartbeats 2000000 in
theorem D_impl_firstIn_1_X (s : ByteArray) (nd su re pr ld : Int) (t i : Int) (hp : 0 ≤ pr ∧ pr ≤ 18000) (hsu : 0 ≤ su ∧ su ≤ 18000) (hre : 0 ≤ re ∧ re ≤ 18000) (hi : 0 ≤ i ∧ i ≤ 99999) : DenX Try.prog 88 [(1000003, .box 53 [.clo 65 [1000000, 1000001, 1000002]]), (1000000, .box 27 [.s (.string s), .s (.int .i64 nd), .s (.int .i64 t), .s (.int .i64 su), .s (.int .i64 re)]), (1000001, .box 2 [.s (.int .i64 pr)]), (1000002, .box 2 [.s (.int .i64 ld)]), (1000004, .box 2 [.s (.int .i64 1)])] [.s (.int .i64 i), .ptr 1000003 0, .ptr 1000004 0] [(1000003, .box 53 [.clo 65 [1000000, 1000001, 1000002]]), (1000000, .box 27 [.s (.string s), .s (.int .i64 nd), .s (.int .i64 ((1 + i))), .s (.int .i64 su), .s (.int .i64 re)]), (1000001, .box 2 [.s (.int .i64 pr)]), (1000002, .box 2 [.s (.int .i64 ld)]), (1000004, .box 2 [.s (.int .i64 1)])] (.s (.bool (decide (pwP (1 + i) su re pr 100000 ≥ ld)))) := by
  refine denX_of_good Try.func88 (by decide) rfl (Nat.le_of_ble_eq_true rfl) (Nat.le_of_ble_eq_true rfl) rfl ?_
  refine good_seq fun K1 hK1 => ?_
  refine good_region rfl ?_
  refine ev_q rfl (q_assign (by conv => lhs; whnf) ?_)
  refine ev_nil (hK1 _ ?_); clear hK1
  refine good_seq fun K2 hK2 => ?_
  refine good_region rfl ?_
  refine ev_q rfl (q_load tA53 rfl ?_)
  refine ev_q rfl (q_load tA2 rfl ?_)
  refine ev_q rfl (q_move (by conv => lhs; whnf) ?_)
  refine ev_q rfl (q_int rfl rfl ?_)
  intro n3 hn3
  replace hn3 : n3 = 1 + i := in64 hn3 (by omega) (by omega)
  subst hn3
  refine ev_k rfl (k_callXB [(1000000, 1000000), (1000001, 1000001), (1000002, 1000002)] (D_impl_LeastTransfer_1 s nd su re pr ld t (1 + i) hp hsu hre (by omega)) rfl (rfl) (rfl) ⟨rfl, ⟨rfl, ⟨rfl, trivial⟩⟩⟩ ⟨rfl, rfl, ⟨rfl, rfl, ⟨rfl, rfl, trivial⟩⟩⟩ rfl rfl rfl ?_)
  intro b4 hb4; cases b4
  · first | replace hb4 := dF hb4 | skip
    refine ev_q rfl (q_assign (by conv => lhs; whnf) ?_)
    refine ev_nil (hK2 _ ?_); clear hK2
    refine good_ret ?_
    repeat (first | refine thenQ_ret ?_ | refine blockQ_ret ?_)
    refine fx_tmp rfl (by conv => lhs; whnf) ?_
    exact ⟨_, conv_eq (by first | rfl | exact fT (by first | omega | grind) | exact fF (by first | omega | grind) | exact fT' (by first | omega | grind) | (exfalso; first | omega | grind)), weakH_boxR (boxEq (by first | rfl | (rw [e]; done) | (rw [e]; rfl) | (simp_all; done))) rfl (weakH_box (boxEq (by first | rfl | (rw [e]; done) | (rw [e]; rfl) | (simp_all; done))) rfl (weakH_box (boxEq (by first | rfl | (rw [e]; done) | (rw [e]; rfl) | (simp_all; done))) rfl (weakH_box (boxEq (by first | rfl | (rw [e]; done) | (rw [e]; rfl) | (simp_all; done))) rfl (weakH_box (boxEq (by first | rfl | (rw [e]; done) | (rw [e]; rfl) | (simp_all; done))) rfl (weakH_none _))))), refsIn_ok rfl⟩
  · first | replace hb4 := dT hb4 | skip
    refine ev_q rfl (q_assign (by conv => lhs; whnf) ?_)
    refine ev_nil (hK2 _ ?_); clear hK2
    refine good_ret ?_
    repeat (first | refine thenQ_ret ?_ | refine blockQ_ret ?_)
    refine fx_tmp rfl (by conv => lhs; whnf) ?_
    exact ⟨_, conv_eq (by first | rfl | exact fT (by first | omega | grind) | exact fF (by first | omega | grind) | exact fT' (by first | omega | grind) | (exfalso; first | omega | grind)), weakH_boxR (boxEq (by first | rfl | (rw [e]; done) | (rw [e]; rfl) | (simp_all; done))) rfl (weakH_box (boxEq (by first | rfl | (rw [e]; done) | (rw [e]; rfl) | (simp_all; done))) rfl (weakH_box (boxEq (by first | rfl | (rw [e]; done) | (rw [e]; rfl) | (simp_all; done))) rfl (weakH_box (boxEq (by first | rfl | (rw [e]; done) | (rw [e]; rfl) | (simp_all; done))) rfl (weakH_box (boxEq (by first | rfl | (rw [e]; done) | (rw [e]; rfl) | (simp_all; done))) rfl (weakH_none _))))), refsIn_ok rfl⟩

-- sort.Search
set_option maxRecDepth 20000 in
set_option maxHeartbeats 2000000 in
theorem D_sort_Search_X (s : ByteArray) (nd su re pr ld : Int) (t0 : Int) (hp : 0 ≤ pr ∧ pr ≤ 18000) (hsu : 0 ≤ su ∧ su ≤ 18000) (hre : 0 ≤ re ∧ re ≤ 18000) : DenX Try.prog 87 [(1000003, .box 53 [.clo 65 [1000000, 1000001, 1000002]]), (1000000, .box 27 [.s (.string s), .s (.int .i64 nd), .s (.int .i64 t0), .s (.int .i64 su), .s (.int .i64 re)]), (1000001, .box 2 [.s (.int .i64 pr)]), (1000002, .box 2 [.s (.int .i64 ld)]), (1000004, .box 2 [.s (.int .i64 1)])] [.s (.int .i64 100000), .clo 88 [1000003, 1000004]] [(1000003, .box 53 [.clo 65 [1000000, 1000001, 1000002]]), (1000000, .box 27 [.s (.string s), .s (.int .i64 nd), .s (.int .i64 ((srT (fun n => pwP n su re pr 100000 ≥ ld) 0 100000 t0))), .s (.int .i64 su), .s (.int .i64 re)]), (1000001, .box 2 [.s (.int .i64 pr)]), (1000002, .box 2 [.s (.int .i64 ld)]), (1000004, .box 2 [.s (.int .i64 1)])] (.s (.int .i64 (srN (fun i => pwP (1 + i) su re pr 100000 ≥ ld) 100000))) := by
  have mono : ∀ i j : Nat, i ≤ j → j < 100000 → pwP (1 + (i : Int)) su re pr 100000 ≥ ld → pwP (1 + (j : Int)) su re pr 100000 ≥ ld := fun a b h1 _ h2 => Int.le_trans h2 (pw_t (by omega) (by omega))
  refine denX_of_good Try.func87 (by decide) rfl (Nat.le_of_ble_eq_true rfl) (Nat.le_of_ble_eq_true rfl) rfl ?_
  refine good_seq fun K1 hK1 => ?_
  refine good_region rfl ?_
  refine ev_q rfl (q_assign (by conv => lhs; whnf) ?_)
  refine ev_nil (hK1 _ ?_); clear hK1
  refine good_seq fun K2 hK2 => ?_
  refine good_region rfl ?_
  refine ev_q rfl (q_move (by conv => lhs; whnf) ?_)
  refine ev_q rfl (q_assign (by conv => lhs; whnf) ?_)
  refine ev_q rfl (q_assign (by conv => lhs; whnf) ?_)
  refine ev_nil (hK2 _ ?_); clear hK2
  refine good_seq fun K3 hK3 => ?_
  refine good_block ?_
  refine good_loop (α := Nat × Nat × Int) (fun (i, j, t) => { env := upd (upd (upd ((fun _ => .junk)) 1 (.clo 88 [1000003, 1000004])) 5 (.s (.int .i64 i))) 6 (.s (.int .i64 j)), H := upd (upd (upd (upd (upd ((fun _ => none)) 1000004 (some (.box 2 [.s (.int .i64 1)]))) 1000002 (some (.box 2 [.s (.int .i64 ld)]))) 1000001 (some (.box 2 [.s (.int .i64 pr)]))) 1000000 (some (.box 27 [.s (.string s), .s (.int .i64 nd), .s (.int .i64 t), .s (.int .i64 su), .s (.int .i64 re)]))) 1000003 (some (.box 53 [.clo 65 [1000000, 1000001, 1000002]])) }) (fun (i, j, t) => (i ≤ j ∧ j ≤ 100000 ∧ (∀ k : Nat, k < i → ¬ pwP (1 + (k : Int)) su re pr 100000 ≥ ld) ∧ (∀ k : Nat, j ≤ k → k < 100000 → pwP (1 + (k : Int)) su re pr 100000 ≥ ld)) ∧ srT (fun n => pwP n su re pr 100000 ≥ ld) i j t = srT (fun n => pwP n su re pr 100000 ≥ ld) 0 100000 t0) (fun (i, j, t) => j - i) (0, 100000, t0) ?_ ?_ ?_
  · exact ⟨⟨Nat.zero_le _, Nat.le_refl _, fun k h => absurd h (Nat.not_lt_zero _), fun k h1 h2 => absurd h1 (Nat.not_le_of_lt h2)⟩, rfl⟩
  · refine sub_weak ?_ ?_
    · exact weakH_boxR (boxEq (rfl)) rfl (weakH_box (boxEq (rfl)) rfl (weakH_box (boxEq (rfl)) rfl (weakH_box (boxEq (rfl)) rfl (weakH_box (boxEq (rfl)) rfl (weakH_none _)))))
    · refine weakE_upd ?e6 ?r6 (weakE_upd ?e5 ?r5 (weakE_upd ?e1 ?r1 (weakE_junk _ _)))
      case e1 => first | rfl | exact fI (by omega) | (simp_all)
      case r1 => intro h hh; simp [refs] at hh; rcases hh with rfl | rfl <;> rfl
      case e5 => first | rfl | exact fI (by omega) | (simp_all)
      case r5 => intro h hh; cases hh
      case e6 => first | rfl | exact fI (by omega) | (simp_all)
      case r6 => intro h hh; cases hh
  · rintro ⟨i, j, t⟩ ⟨⟨hI1, hI2, hI3, hI4⟩, hI5⟩
    refine good_seq fun K4 hK4 => ?_
    refine good_seq fun K5 hK5 => ?_
    refine good_region rfl ?_
    refine ev_q rfl (q_move (by conv => lhs; whnf) ?_)
    refine ev_q rfl (q_move (by conv => lhs; whnf) ?_)
    refine ev_q rfl (q_int rfl rfl ?_)
    intro b6 hb6; cases b6
    · replace hb6 := dF hb6
      refine ev_nil (hK5 _ ?_); clear hK5
      refine good_condF rfl ?_
      refine good_exit ?_
      repeat (first | refine thenQ_exit ?_ | refine blockQ_pass rfl ?_)
      refine blockQ_exit (hK3 _ ?_); clear hK3
      refine good_seq fun K7 hK7 => ?_
      refine good_region rfl ?_
      refine ev_q rfl (q_move (by conv => lhs; whnf) ?_)
      refine ev_q rfl (q_assign (by conv => lhs; whnf) ?_)
      refine ev_nil (hK7 _ ?_); clear hK7
      refine good_ret ?_
      repeat (first | refine thenQ_ret ?_ | refine blockQ_ret ?_)
      refine fx_tmp rfl (by conv => lhs; whnf) ?_
      clear hK4
      have es := srN_uniq (p := fun i => pwP (1 + i) su re pr 100000 ≥ ld) (n := 100000) (k := i) (by omega) hI3 (fun h => hI4 i (by omega) h)
      have et := srT_0 (p := (fun n => pwP n su re pr 100000 ≥ ld)) (l := i) (h := j) (t := t) (by omega)
      rw [hI5] at et
      exact ⟨_, conv_eq (by first | rfl | exact fI (by rw [es]) | (exfalso; first | omega | grind)), weakH_boxR (boxEq (by first | rfl | (rw [e]; done) | (rw [e]; rfl) | (simp_all; done))) rfl (weakH_box (boxEq (by rw [et])) rfl (weakH_box (boxEq (by first | rfl | (rw [e]; done) | (rw [e]; rfl) | (simp_all; done))) rfl (weakH_box (boxEq (by first | rfl | (rw [e]; done) | (rw [e]; rfl) | (simp_all; done))) rfl (weakH_box (boxEq (by first | rfl | (rw [e]; done) | (rw [e]; rfl) | (simp_all; done))) rfl (weakH_none _))))), refsIn_ok rfl⟩
    · replace hb6 := dT hb6
      refine ev_nil (hK5 _ ?_); clear hK5
      refine good_condT rfl ?_
      refine good_skip (hK4 _ ?_); clear hK4
      refine good_block ?_
      refine good_seq fun K8 hK8 => ?_
      refine good_region rfl ?_
      refine ev_q rfl (q_move (by conv => lhs; whnf) ?_)
      refine ev_q rfl (q_move (by conv => lhs; whnf) ?_)
      refine ev_q rfl (q_int rfl rfl ?_)
      intro n9 hn9
      replace hn9 := in64 hn9 (by omega) (by omega)
      refine ev_q rfl (q_conv tK3 tK84 rfl ?_)
      intro n10 hn10
      replace hn10 := wrapU hn10 (by omega) (by omega)
      refine ev_q rfl (q_shr rfl rfl ⟨by omega, ?_⟩)
      intro n11 hn11
      replace hn11 := shr1 hn11 (by omega)
      refine ev_q rfl (q_conv tK84 tK3 rfl ?_)
      intro n12 hn12
      replace hn12 := in64 hn12 (by omega) (by omega)
      obtain ⟨k, hk⟩ : ∃ k : Nat, n12 = (k : Int) := ⟨n12.toNat, by omega⟩
      subst hk
      have hkj : i ≤ k ∧ k < j := by omega
      have hke : (i + j) / 2 = k := by omega
      refine ev_q rfl (q_assign (by conv => lhs; whnf) ?_)
      refine ev_nil (hK8 _ ?_); clear hK8
      refine good_seq fun K13 hK13 => ?_
      refine good_region rfl ?_
      refine ev_q rfl (q_move (by conv => lhs; whnf) ?_)
      refine ev_q rfl (q_move (by conv => lhs; whnf) ?_)
      refine ev_k rfl (k_callXB [(1000003, 1000003), (1000000, 1000000), (1000001, 1000001), (1000002, 1000002), (1000004, 1000004)] (D_impl_firstIn_1_X s nd su re pr ld t k hp hsu hre (by omega)) rfl (rfl) (rfl) ⟨rfl, ⟨rfl, ⟨rfl, ⟨rfl, ⟨rfl, trivial⟩⟩⟩⟩⟩ ⟨rfl, rfl, ⟨rfl, rfl, ⟨rfl, rfl, ⟨rfl, rfl, ⟨rfl, rfl, trivial⟩⟩⟩⟩⟩ rfl rfl rfl ?_)
      intro b14 hb14; cases b14
      · first | replace hb14 := dF hb14 | skip
        refine ev_q rfl (q_not rfl rfl ?_)
        refine ev_nil (hK13 _ ?_); clear hK13
        refine good_condT rfl ?_
        refine good_region rfl ?_
        refine ev_q rfl (q_move (by conv => lhs; whnf) ?_)
        refine ev_q rfl (q_int rfl rfl ?_)
        intro n15 hn15
        replace hn15 := in64 hn15 (by omega) (by omega)
        refine ev_q rfl (q_assign (by conv => lhs; whnf) ?_)
        refine ev_nil ?_
        clear hK3
        refine ⟨(k + 1, j, 1 + (k : Int)), ?_, ?_, ?_⟩
        · exact ⟨⟨(show k + 1 ≤ j by omega), hI2, fun q hq hp => absurd (mono q k (Nat.le_of_lt_succ hq) (by omega) hp) (by assumption), hI4⟩, (srT_F (p := (fun n => pwP n su re pr 100000 ≥ ld)) (by omega) hke (by assumption)).trans hI5⟩
        · first | (show j - (k + 1) < j - i; omega) | (show k - i < j - i; omega)
        · refine sub_weak ?_ ?_
          · exact weakH_boxR (boxEq (rfl)) rfl (weakH_box (boxEq (rfl)) rfl (weakH_box (boxEq (rfl)) rfl (weakH_box (boxEq (rfl)) rfl (weakH_box (boxEq (rfl)) rfl (weakH_none _)))))
          · refine weakE_upd ?e6 ?r6 (weakE_upd ?e5 ?r5 (weakE_upd ?e1 ?r1 (weakE_junk _ _)))
            case e1 => first | rfl | exact fI (by omega) | (simp_all)
            case r1 => intro h hh; simp [refs] at hh; rcases hh with rfl | rfl <;> rfl
            case e5 => first | rfl | exact fI (by omega) | (simp_all)
            case r5 => intro h hh; cases hh
            case e6 => first | rfl | exact fI (by omega) | (simp_all)
            case r6 => intro h hh; cases hh
      · first | replace hb14 := dT hb14 | skip
        refine ev_q rfl (q_not rfl rfl ?_)
        refine ev_nil (hK13 _ ?_); clear hK13
        refine good_condF rfl ?_
        refine good_region rfl ?_
        refine ev_q rfl (q_move (by conv => lhs; whnf) ?_)
        refine ev_q rfl (q_assign (by conv => lhs; whnf) ?_)
        refine ev_nil ?_
        clear hK3
        refine ⟨(i, k, 1 + (k : Int)), ?_, ?_, ?_⟩
        · exact ⟨⟨hkj.1, (show k ≤ 100000 by omega), hI3, fun q hq hqn => mono k q hq hqn (by assumption)⟩, (srT_T (p := (fun n => pwP n su re pr 100000 ≥ ld)) (by omega) hke (by assumption)).trans hI5⟩
        · first | (show j - (k + 1) < j - i; omega) | (show k - i < j - i; omega)
        · refine sub_weak ?_ ?_
          · exact weakH_boxR (boxEq (rfl)) rfl (weakH_box (boxEq (rfl)) rfl (weakH_box (boxEq (rfl)) rfl (weakH_box (boxEq (rfl)) rfl (weakH_box (boxEq (rfl)) rfl (weakH_none _)))))
          · refine weakE_upd ?e6 ?r6 (weakE_upd ?e5 ?r5 (weakE_upd ?e1 ?r1 (weakE_junk _ _)))
            case e1 => first | rfl | exact fI (by omega) | (simp_all)
            case r1 => intro h hh; simp [refs] at hh; rcases hh with rfl | rfl <;> rfl
            case e5 => first | rfl | exact fI (by omega) | (simp_all)
            case r5 => intro h hh; cases hh
            case e6 => first | rfl | exact fI (by omega) | (simp_all)
            case r6 => intro h hh; cases hh

-- impl.firstIn
set_option maxRecDepth 20000 in
set_option maxHeartbeats 2000000 in
theorem D_impl_firstIn_X (s : ByteArray) (nd su re pr ld : Int) (t0 : Int) (hp : 0 ≤ pr ∧ pr ≤ 18000) (hsu : 0 ≤ su ∧ su ≤ 18000) (hre : 0 ≤ re ∧ re ≤ 18000) : DenX Try.prog 63 [(1000000, .box 27 [.s (.string s), .s (.int .i64 nd), .s (.int .i64 t0), .s (.int .i64 su), .s (.int .i64 re)]), (1000001, .box 2 [.s (.int .i64 pr)]), (1000002, .box 2 [.s (.int .i64 ld)])] [.s (.int .i64 1), .s (.int .i64 100000), .clo 65 [1000000, 1000001, 1000002]] [(1000000, .box 27 [.s (.string s), .s (.int .i64 nd), .s (.int .i64 ((srT (fun n => pwP n su re pr 100000 ≥ ld) 0 100000 t0))), .s (.int .i64 su), .s (.int .i64 re)]), (1000001, .box 2 [.s (.int .i64 pr)]), (1000002, .box 2 [.s (.int .i64 ld)])] (.tup [.s (.int .i64 (lst (fun n => pwP n su re pr 100000 ≥ ld) 1 100000)), .s (.bool (decide (lst (fun n => pwP n su re pr 100000 ≥ ld) 1 100000 ≤ 100000)))]) := by
  have hl : lst (fun n => pwP n su re pr 100000 ≥ ld) 1 100000 = 1 + srN (fun i => pwP (1 + i) su re pr 100000 ≥ ld) 100000 := rfl
  have hs := lst_spec (fun n => pwP n su re pr 100000 ≥ ld) (lo := 1) (hi := 100000) (by omega)
  refine denX_of_good Try.func63 (by decide) rfl (Nat.le_of_ble_eq_true rfl) (Nat.le_of_ble_eq_true rfl) rfl ?_
  refine good_seq fun K1 hK1 => ?_
  refine good_region rfl ?_
  refine ev_k rfl (k_box (by conv => lhs; whnf) rfl rfl rfl ?_)
  refine ev_k rfl (k_box (by conv => lhs; whnf) rfl rfl rfl ?_)
  refine ev_q rfl (q_assign (by conv => lhs; whnf) ?_)
  refine ev_q rfl (q_assign (by conv => lhs; whnf) ?_)
  refine ev_nil (hK1 _ ?_); clear hK1
  refine good_seq fun K2 hK2 => ?_
  refine good_region rfl ?_
  refine ev_q rfl (q_move (by conv => lhs; whnf) ?_)
  refine ev_q rfl (q_load tA2 rfl ?_)
  refine ev_q rfl (q_int rfl rfl ?_)
  intro n3 hn3
  replace hn3 := in64 hn3 (by omega) (by omega)
  refine ev_q rfl (q_int rfl rfl ?_)
  intro n4 hn4
  replace hn4 := in64 hn4 (by omega) (by omega)
  rw [hn3] at hn4
  replace hn4 : n4 = 100000 := hn4
  subst hn4
  refine ev_q rfl (q_assign (by conv => lhs; whnf) ?_)
  refine ev_nil (hK2 _ ?_); clear hK2
  refine good_seq fun K5 hK5 => ?_
  refine good_region rfl ?_
  refine ev_q rfl (q_move (by conv => lhs; whnf) ?_)
  refine ev_q rfl (q_clo rfl rfl ?_)
  refine ev_k rfl (k_callXI [(1000003, 5), (1000000, 1000000), (1000001, 1000001), (1000002, 1000002), (1000004, 3)] (D_sort_Search_X s nd su re pr ld t0 hp hsu hre) rfl (rfl) (rfl) ⟨rfl, ⟨rfl, ⟨rfl, ⟨rfl, ⟨rfl, trivial⟩⟩⟩⟩⟩ ⟨rfl, rfl, ⟨rfl, rfl, ⟨rfl, rfl, ⟨rfl, rfl, ⟨rfl, rfl, trivial⟩⟩⟩⟩⟩ rfl rfl rfl ?_)
  intro n6 hn6
  refine ev_q rfl (q_assign (by conv => lhs; whnf) ?_)
  refine ev_nil (hK5 _ ?_); clear hK5
  refine good_seq fun K7 hK7 => ?_
  refine good_region rfl ?_
  refine ev_q rfl (q_load tA2 rfl ?_)
  refine ev_q rfl (q_move (by conv => lhs; whnf) ?_)
  refine ev_q rfl (q_int rfl rfl ?_)
  intro n8 hn8
  replace hn8 := in64 hn8 (by omega) (by omega)
  refine ev_q rfl (q_move (by conv => lhs; whnf) ?_)
  refine ev_q rfl (q_move (by conv => lhs; whnf) ?_)
  refine ev_q rfl (q_int rfl rfl ?_)
  intro b9 hb9; cases b9
  · replace hb9 := dF hb9
    refine ev_q rfl (q_assign (by conv => lhs; whnf) ?_)
    refine ev_q rfl (q_assign (by conv => lhs; whnf) ?_)
    refine ev_nil (hK7 _ ?_); clear hK7
    refine good_ret ?_
    repeat (first | refine thenQ_ret ?_ | refine blockQ_ret ?_)
    refine fx_many rfl ?_
    refine fxs_tmp (by conv => lhs; whnf) ?_
    refine fxs_tmp (by conv => lhs; whnf) ?_
    refine fx_nil ?_
    exact ⟨_, .tup (.cons (conv_eq (by first | rfl | exact fI (by first | omega | grind) | (exfalso; first | omega | grind))) (.cons (conv_eq (by first | rfl | exact fT (by first | omega | grind) | exact fF (by first | omega | grind) | exact fT' (by first | omega | grind) | (exfalso; first | omega | grind))) (.nil))), weakH_box (boxEq (by first | rfl | (rw [e]; done) | (rw [e]; rfl) | (simp_all; done))) rfl (weakH_box (boxEq (by first | rfl | (rw [e]; done) | (rw [e]; rfl) | (simp_all; done))) rfl (weakH_box (boxEq (by first | rfl | (rw [e]; done) | (rw [e]; rfl) | (simp_all; done))) rfl (weakH_none _))), refsIn_ok rfl⟩
  · replace hb9 := dT hb9
    refine ev_q rfl (q_assign (by conv => lhs; whnf) ?_)
    refine ev_q rfl (q_assign (by conv => lhs; whnf) ?_)
    refine ev_nil (hK7 _ ?_); clear hK7
    refine good_ret ?_
    repeat (first | refine thenQ_ret ?_ | refine blockQ_ret ?_)
    refine fx_many rfl ?_
    refine fxs_tmp (by conv => lhs; whnf) ?_
    refine fxs_tmp (by conv => lhs; whnf) ?_
    refine fx_nil ?_
    exact ⟨_, .tup (.cons (conv_eq (by first | rfl | exact fI (by first | omega | grind) | (exfalso; first | omega | grind))) (.cons (conv_eq (by first | rfl | exact fT (by first | omega | grind) | exact fF (by first | omega | grind) | exact fT' (by first | omega | grind) | (exfalso; first | omega | grind))) (.nil))), weakH_box (boxEq (by first | rfl | (rw [e]; done) | (rw [e]; rfl) | (simp_all; done))) rfl (weakH_box (boxEq (by first | rfl | (rw [e]; done) | (rw [e]; rfl) | (simp_all; done))) rfl (weakH_box (boxEq (by first | rfl | (rw [e]; done) | (rw [e]; rfl) | (simp_all; done))) rfl (weakH_none _))), refsIn_ok rfl⟩

-- impl.LeastTransfer
set_option maxRecDepth 20000 in
set_option maxHeartbeats 2000000 in
theorem D_impl_LeastTransfer (s : ByteArray) (nd tr su re : Int) (pr ld : Int) (hs : s.size ≤ 140737488351232) : Den Try.prog 29 [.agg [.s (.string s), .s (.int .i64 nd), .s (.int .i64 tr), .s (.int .i64 su), .s (.int .i64 re)], .s (.int .i64 pr), .s (.int .i64 ld)] (.tup [.s (.int .i64 (if isName s = true ∧ (0 ≤ nd ∧ nd ≤ 15) ∧ (1 ≤ tr ∧ tr ≤ 100000) ∧ (0 ≤ su ∧ su ≤ 18000) ∧ (0 ≤ re ∧ re ≤ su - 1) then (if (0 ≤ pr ∧ pr ≤ 18000) ∧ (0 ≤ ld ∧ ld ≤ 100000000) then (if ltP su re pr ld ≤ 100000 then ltP su re pr ld else 0) else 0) else 0)), .s (.int .i64 (if isName s = true ∧ (0 ≤ nd ∧ nd ≤ 15) ∧ (1 ≤ tr ∧ tr ≤ 100000) ∧ (0 ≤ su ∧ su ≤ 18000) ∧ (0 ≤ re ∧ re ≤ su - 1) then (if (0 ≤ pr ∧ pr ≤ 18000) ∧ (0 ≤ ld ∧ ld ≤ 100000000) then (if ltP su re pr ld ≤ 100000 then 0 else 6) else 2) else 1))]) := by
  refine den_of_good Try.func29 (by decide) rfl (Nat.le_of_ble_eq_true rfl) (Nat.le_of_ble_eq_true rfl) ?_
  refine good_seq fun K1 hK1 => ?_
  refine good_region rfl ?_
  refine ev_k rfl (k_box (by conv => lhs; whnf) rfl rfl rfl ?_)
  refine ev_k rfl (k_box (by conv => lhs; whnf) rfl rfl rfl ?_)
  refine ev_k rfl (k_box (by conv => lhs; whnf) rfl rfl rfl ?_)
  refine ev_q rfl (q_assign (by conv => lhs; whnf) ?_)
  refine ev_q rfl (q_assign (by conv => lhs; whnf) ?_)
  refine ev_nil (hK1 _ ?_); clear hK1
  refine good_seq fun K2 hK2 => ?_
  refine good_block ?_
  refine good_seq fun K3 hK3 => ?_
  refine good_region rfl ?_
  refine ev_q rfl (q_loadA tA27 rfl rfl rfl ?_)
  refine ev_q rfl (q_callB rfl rfl (rfl) (D_impl_ValidSubstation _ _ _ _ _ hs) ?_)
  intro b4 hb4; cases b4
  · first | replace hb4 := dF hb4 | skip
    refine ev_q rfl (q_not rfl rfl ?_)
    refine ev_q rfl (q_assign (by conv => lhs; whnf) ?_)
    refine ev_nil (hK3 _ ?_); clear hK3
    refine good_condT rfl ?_
    refine good_seq fun K5 hK5 => ?_
    refine good_region rfl ?_
    refine ev_q rfl (q_assign (by conv => lhs; whnf) ?_)
    refine ev_q rfl (q_assign (by conv => lhs; whnf) ?_)
    refine ev_nil (hK5 _ ?_); clear hK5
    refine good_ret ?_
    repeat (first | refine thenQ_ret ?_ | refine blockQ_ret ?_)
    refine ret_many rfl ?_
    refine res_tmp (by conv => lhs; whnf) rfl ?_
    refine res_tmp (by conv => lhs; whnf) rfl ?_
    refine res_nil ?_
    clear hK2
    exact fTup1 (by first | rfl | exact fI (by first | omega | grind) | (exfalso; first | omega | grind)) (fTup1 (by first | rfl | exact fI (by first | omega | grind) | (exfalso; first | omega | grind)) (rfl))
  · first | replace hb4 := dT hb4 | skip
    refine ev_q rfl (q_not rfl rfl ?_)
    refine ev_q rfl (q_assign (by conv => lhs; whnf) ?_)
    refine ev_nil (hK3 _ ?_); clear hK3
    refine good_condF rfl ?_
    refine good_seq fun K6 hK6 => ?_
    refine good_region rfl ?_
    refine ev_q rfl (q_load tA2 rfl ?_)
    refine ev_q rfl (q_callB rfl rfl (rfl) (D_impl_waterOk ..) ?_)
    intro b7 hb7; cases b7
    · first | replace hb7 := dF hb7 | skip
      refine ev_q rfl (q_not rfl rfl ?_)
      refine ev_q rfl (q_move (by conv => lhs; whnf) ?_)
      refine ev_skip rfl ?_
      refine ev_skip rfl ?_
      refine ev_skip rfl ?_
      refine ev_q rfl (q_pickT rfl (by conv => lhs; whnf) ?_)
      refine ev_q rfl (q_assign (by conv => lhs; whnf) ?_)
      refine ev_nil (hK6 _ ?_); clear hK6
      refine good_condT rfl ?_
      refine good_seq fun K8 hK8 => ?_
      refine good_region rfl ?_
      refine ev_q rfl (q_assign (by conv => lhs; whnf) ?_)
      refine ev_q rfl (q_assign (by conv => lhs; whnf) ?_)
      refine ev_nil (hK8 _ ?_); clear hK8
      refine good_ret ?_
      repeat (first | refine thenQ_ret ?_ | refine blockQ_ret ?_)
      refine ret_many rfl ?_
      refine res_tmp (by conv => lhs; whnf) rfl ?_
      refine res_tmp (by conv => lhs; whnf) rfl ?_
      refine res_nil ?_
      clear hK2
      exact fTup1 (by first | rfl | exact fI (by first | omega | grind) | (exfalso; first | omega | grind)) (fTup1 (by first | rfl | exact fI (by first | omega | grind) | (exfalso; first | omega | grind)) (rfl))
    · first | replace hb7 := dT hb7 | skip
      refine ev_q rfl (q_not rfl rfl ?_)
      refine ev_q rfl (q_move (by conv => lhs; whnf) ?_)
      refine ev_q rfl (q_load tA2 rfl ?_)
      refine ev_q rfl (q_callB rfl rfl (rfl) (D_impl_pressureOk ..) ?_)
      intro b9 hb9; cases b9
      · first | replace hb9 := dF hb9 | skip
        refine ev_q rfl (q_not rfl rfl ?_)
        refine ev_q rfl (q_pickF rfl (by conv => lhs; whnf) ?_)
        refine ev_q rfl (q_assign (by conv => lhs; whnf) ?_)
        refine ev_nil (hK6 _ ?_); clear hK6
        refine good_condT rfl ?_
        refine good_seq fun K10 hK10 => ?_
        refine good_region rfl ?_
        refine ev_q rfl (q_assign (by conv => lhs; whnf) ?_)
        refine ev_q rfl (q_assign (by conv => lhs; whnf) ?_)
        refine ev_nil (hK10 _ ?_); clear hK10
        refine good_ret ?_
        repeat (first | refine thenQ_ret ?_ | refine blockQ_ret ?_)
        refine ret_many rfl ?_
        refine res_tmp (by conv => lhs; whnf) rfl ?_
        refine res_tmp (by conv => lhs; whnf) rfl ?_
        refine res_nil ?_
        clear hK2
        exact fTup1 (by first | rfl | exact fI (by first | omega | grind) | (exfalso; first | omega | grind)) (fTup1 (by first | rfl | exact fI (by first | omega | grind) | (exfalso; first | omega | grind)) (rfl))
      · first | replace hb9 := dT hb9 | skip
        refine ev_q rfl (q_not rfl rfl ?_)
        refine ev_q rfl (q_pickF rfl (by conv => lhs; whnf) ?_)
        refine ev_q rfl (q_assign (by conv => lhs; whnf) ?_)
        refine ev_nil (hK6 _ ?_); clear hK6
        refine good_condF rfl ?_
        refine good_skip (hK2 _ ?_); clear hK2
        refine good_seq fun K11 hK11 => ?_
        refine good_region rfl ?_
        refine ev_q rfl (q_clo rfl rfl ?_)
        refine ev_k rfl (k_callX [(1000000, 3), (1000001, 4), (1000002, 5)] (D_impl_firstIn_X s nd su re pr ld tr (by omega) (by omega) (by omega)) rfl (rfl) (rfl) ⟨rfl, ⟨rfl, ⟨rfl, trivial⟩⟩⟩ ⟨rfl, rfl, ⟨rfl, rfl, ⟨rfl, rfl, trivial⟩⟩⟩ rfl rfl rfl ?_)
        refine ev_q rfl (q_extractI rfl rfl ?_)
        intro n12 hn12
        refine ev_q rfl (q_extractB rfl rfl ?_)
        intro b13 hb13; cases b13
        · first | replace hb13 := dF hb13 | skip
          replace hb13 : ¬ ltP su re pr ld ≤ 100000 := hb13
          replace hn12 : n12 = ltP su re pr ld := hn12
          refine ev_q rfl (q_call rfl rfl (rfl) (by first | exact (D_impl_orState_T _) | exact (D_impl_orState_F _)) rfl ?_)
          refine ev_q rfl (q_extractI rfl rfl ?_)
          intro n14 hn14
          refine ev_q rfl (q_extractI rfl rfl ?_)
          intro n15 hn15
          refine ev_q rfl (q_assign (by conv => lhs; whnf) ?_)
          refine ev_q rfl (q_assign (by conv => lhs; whnf) ?_)
          refine ev_nil (hK11 _ ?_); clear hK11
          refine good_ret ?_
          repeat (first | refine thenQ_ret ?_ | refine blockQ_ret ?_)
          refine ret_many rfl ?_
          refine res_tmp (by conv => lhs; whnf) rfl ?_
          refine res_tmp (by conv => lhs; whnf) rfl ?_
          refine res_nil ?_
          exact fTup1 (by first | rfl | exact fI (by first | omega | grind) | (exfalso; first | omega | grind)) (fTup1 (by first | rfl | exact fI (by first | omega | grind) | (exfalso; first | omega | grind)) (rfl))
        · first | replace hb13 := dT hb13 | skip
          replace hb13 : ltP su re pr ld ≤ 100000 := hb13
          replace hn12 : n12 = ltP su re pr ld := hn12
          refine ev_q rfl (q_call rfl rfl (rfl) (by first | exact (D_impl_orState_T _) | exact (D_impl_orState_F _)) rfl ?_)
          refine ev_q rfl (q_extractI rfl rfl ?_)
          intro n16 hn16
          refine ev_q rfl (q_extractI rfl rfl ?_)
          intro n17 hn17
          refine ev_q rfl (q_assign (by conv => lhs; whnf) ?_)
          refine ev_q rfl (q_assign (by conv => lhs; whnf) ?_)
          refine ev_nil (hK11 _ ?_); clear hK11
          refine good_ret ?_
          repeat (first | refine thenQ_ret ?_ | refine blockQ_ret ?_)
          refine ret_many rfl ?_
          refine res_tmp (by conv => lhs; whnf) rfl ?_
          refine res_tmp (by conv => lhs; whnf) rfl ?_
          refine res_nil ?_
          exact fTup1 (by first | rfl | exact fI (by first | omega | grind) | (exfalso; first | omega | grind)) (fTup1 (by first | rfl | exact fI (by first | omega | grind) | (exfalso; first | omega | grind)) (rfl))

-- sort.Search
set_option maxRecDepth 20000 in
set_option maxHeartbeats 2000000 in
theorem D_sort_Search (f : Nat) (caps : List AV) (p : Int → Prop) [DecidablePred p] (n : Nat) (hn : n ≤ 4611686018427387903) (mono : ∀ i j : Nat, i ≤ j → j < n → p i → p j) (hf : ∀ i : Nat, i < n → Den Try.prog f (.s (.int .i64 i) :: caps) (.s (.bool (decide (p i))))) : Den Try.prog 87 [.s (.int .i64 n), .fn f caps] (.s (.int .i64 (srN p n))) := by
  refine den_of_good Try.func87 (by decide) rfl (Nat.le_of_ble_eq_true rfl) (Nat.le_of_ble_eq_true rfl) ?_
  refine good_seq fun K1 hK1 => ?_
  refine good_region rfl ?_
  refine ev_q rfl (q_assign (by conv => lhs; whnf) ?_)
  refine ev_nil (hK1 _ ?_); clear hK1
  refine good_seq fun K2 hK2 => ?_
  refine good_region rfl ?_
  refine ev_q rfl (q_move (by conv => lhs; whnf) ?_)
  refine ev_q rfl (q_assign (by conv => lhs; whnf) ?_)
  refine ev_q rfl (q_assign (by conv => lhs; whnf) ?_)
  refine ev_nil (hK2 _ ?_); clear hK2
  refine good_seq fun K3 hK3 => ?_
  refine good_block ?_
  refine good_loop (α := Nat × Nat) (fun (i, j) => { env := upd (upd (upd ((fun _ => .junk)) 1 (.fn f caps)) 5 (.s (.int .i64 i))) 6 (.s (.int .i64 j)), H := fun _ => none }) (fun (i, j) => i ≤ j ∧ j ≤ n ∧ (∀ k : Nat, k < i → ¬ p k) ∧ (∀ k : Nat, j ≤ k → k < n → p k)) (fun (i, j) => j - i) (0, n) ?_ ?_ ?_
  · exact ⟨Nat.zero_le _, Nat.le_refl _, fun k h => absurd h (Nat.not_lt_zero _), fun k h1 h2 => absurd h1 (Nat.not_le_of_lt h2)⟩
  · refine sub_weak ?_ ?_
    · exact weakH_none _
    · refine weakE_upd ?e6 ?r6 (weakE_upd ?e5 ?r5 (weakE_upd ?e1 ?r1 (weakE_junk _ _)))
      case e1 => first | rfl | exact fI (by omega) | (simp_all)
      case r1 => intro h hh; cases hh
      case e5 => first | rfl | exact fI (by omega) | (simp_all)
      case r5 => intro h hh; cases hh
      case e6 => first | rfl | exact fI (by omega) | (simp_all)
      case r6 => intro h hh; cases hh
  · rintro ⟨i, j⟩ ⟨hI1, hI2, hI3, hI4⟩
    refine good_seq fun K4 hK4 => ?_
    refine good_seq fun K5 hK5 => ?_
    refine good_region rfl ?_
    refine ev_q rfl (q_move (by conv => lhs; whnf) ?_)
    refine ev_q rfl (q_move (by conv => lhs; whnf) ?_)
    refine ev_q rfl (q_int rfl rfl ?_)
    intro b6 hb6; cases b6
    · replace hb6 := dF hb6
      refine ev_nil (hK5 _ ?_); clear hK5
      refine good_condF rfl ?_
      refine good_exit ?_
      repeat (first | refine thenQ_exit ?_ | refine blockQ_pass rfl ?_)
      refine blockQ_exit (hK3 _ ?_); clear hK3
      refine good_seq fun K7 hK7 => ?_
      refine good_region rfl ?_
      refine ev_q rfl (q_move (by conv => lhs; whnf) ?_)
      refine ev_q rfl (q_assign (by conv => lhs; whnf) ?_)
      refine ev_nil (hK7 _ ?_); clear hK7
      refine good_ret ?_
      repeat (first | refine thenQ_ret ?_ | refine blockQ_ret ?_)
      refine ret_tmp (st := _) rfl (by conv => lhs; whnf) rfl ?_
      clear hK4
      exact fI (by rw [srN_uniq (p := p) (n := n) (k := i) (by omega) hI3 (fun h => hI4 i (by omega) h)])
    · replace hb6 := dT hb6
      refine ev_nil (hK5 _ ?_); clear hK5
      refine good_condT rfl ?_
      refine good_skip (hK4 _ ?_); clear hK4
      refine good_block ?_
      refine good_seq fun K8 hK8 => ?_
      refine good_region rfl ?_
      refine ev_q rfl (q_move (by conv => lhs; whnf) ?_)
      refine ev_q rfl (q_move (by conv => lhs; whnf) ?_)
      refine ev_q rfl (q_int rfl rfl ?_)
      intro n9 hn9
      replace hn9 := in64 hn9 (by omega) (by omega)
      refine ev_q rfl (q_conv tK3 tK84 rfl ?_)
      intro n10 hn10
      replace hn10 := wrapU hn10 (by omega) (by omega)
      refine ev_q rfl (q_shr rfl rfl ⟨by omega, ?_⟩)
      intro n11 hn11
      replace hn11 := shr1 hn11 (by omega)
      refine ev_q rfl (q_conv tK84 tK3 rfl ?_)
      intro n12 hn12
      replace hn12 := in64 hn12 (by omega) (by omega)
      obtain ⟨k, hk⟩ : ∃ k : Nat, n12 = (k : Int) := ⟨n12.toNat, by omega⟩
      subst hk
      have hkj : i ≤ k ∧ k < j := by omega
      refine ev_q rfl (q_assign (by conv => lhs; whnf) ?_)
      refine ev_nil (hK8 _ ?_); clear hK8
      refine good_seq fun K13 hK13 => ?_
      refine good_region rfl ?_
      refine ev_q rfl (q_move (by conv => lhs; whnf) ?_)
      refine ev_q rfl (q_move (by conv => lhs; whnf) ?_)
      refine ev_q rfl (q_callB rfl rfl (rfl) (hf _ (by omega)) ?_)
      intro b14 hb14; cases b14
      · first | replace hb14 := dF hb14 | skip
        refine ev_q rfl (q_not rfl rfl ?_)
        refine ev_nil (hK13 _ ?_); clear hK13
        refine good_condT rfl ?_
        refine good_region rfl ?_
        refine ev_q rfl (q_move (by conv => lhs; whnf) ?_)
        refine ev_q rfl (q_int rfl rfl ?_)
        intro n15 hn15
        replace hn15 := in64 hn15 (by omega) (by omega)
        refine ev_q rfl (q_assign (by conv => lhs; whnf) ?_)
        refine ev_nil ?_
        clear hK3
        refine ⟨(k + 1, j), ?_, ?_, ?_⟩
        · exact ⟨(show k + 1 ≤ j by omega), hI2, fun q hq hp => absurd (mono q k (Nat.le_of_lt_succ hq) (by omega) hp) (by assumption), hI4⟩
        · first | (show j - (k + 1) < j - i; omega) | (show k - i < j - i; omega)
        · refine sub_weak ?_ ?_
          · exact weakH_none _
          · refine weakE_upd ?e6 ?r6 (weakE_upd ?e5 ?r5 (weakE_upd ?e1 ?r1 (weakE_junk _ _)))
            case e1 => first | rfl | exact fI (by omega) | (simp_all)
            case r1 => intro h hh; cases hh
            case e5 => first | rfl | exact fI (by omega) | (simp_all)
            case r5 => intro h hh; cases hh
            case e6 => first | rfl | exact fI (by omega) | (simp_all)
            case r6 => intro h hh; cases hh
      · first | replace hb14 := dT hb14 | skip
        refine ev_q rfl (q_not rfl rfl ?_)
        refine ev_nil (hK13 _ ?_); clear hK13
        refine good_condF rfl ?_
        refine good_region rfl ?_
        refine ev_q rfl (q_move (by conv => lhs; whnf) ?_)
        refine ev_q rfl (q_assign (by conv => lhs; whnf) ?_)
        refine ev_nil ?_
        clear hK3
        refine ⟨(i, k), ?_, ?_, ?_⟩
        · exact ⟨hkj.1, (show k ≤ n by omega), hI3, fun q hq hqn => mono k q hq hqn (by assumption)⟩
        · first | (show j - (k + 1) < j - i; omega) | (show k - i < j - i; omega)
        · refine sub_weak ?_ ?_
          · exact weakH_none _
          · refine weakE_upd ?e6 ?r6 (weakE_upd ?e5 ?r5 (weakE_upd ?e1 ?r1 (weakE_junk _ _)))
            case e1 => first | rfl | exact fI (by omega) | (simp_all)
            case r1 => intro h hh; cases hh
            case e5 => first | rfl | exact fI (by omega) | (simp_all)
            case r5 => intro h hh; cases hh
            case e6 => first | rfl | exact fI (by omega) | (simp_all)
            case r6 => intro h hh; cases hh

-- impl.firstIn$1
set_option maxRecDepth 20000 in
set_option maxHeartbeats 2000000 in
theorem D_impl_firstIn_1 (f : Nat) (caps : List AV) (p : Int → Prop) [DecidablePred p] (i lo : Int) (h1 : -4000000000000 ≤ i ∧ i ≤ 4000000000000) (h2 : -1000000000000 ≤ lo ∧ lo ≤ 1000000000000) (hf : Den Try.prog f (.s (.int .i64 (lo + i)) :: caps) (.s (.bool (decide (p (lo + i)))))) : Den Try.prog 88 [.s (.int .i64 i), .rp [.fn f caps], .rp [.s (.int .i64 lo)]] (.s (.bool (decide (p (lo + i))))) := by
  refine den_of_good Try.func88 (by decide) rfl (Nat.le_of_ble_eq_true rfl) (Nat.le_of_ble_eq_true rfl) ?_
  refine good_seq fun K1 hK1 => ?_
  refine good_region rfl ?_
  refine ev_q rfl (q_assign (by conv => lhs; whnf) ?_)
  refine ev_nil (hK1 _ ?_); clear hK1
  refine good_seq fun K2 hK2 => ?_
  refine good_region rfl ?_
  refine ev_q rfl (q_load tA53 rfl ?_)
  refine ev_q rfl (q_load tA2 rfl ?_)
  refine ev_q rfl (q_move (by conv => lhs; whnf) ?_)
  refine ev_q rfl (q_int rfl rfl ?_)
  intro n3 hn3
  replace hn3 := in64 hn3 (by omega) (by omega)
  subst hn3
  refine ev_q rfl (q_callB rfl rfl (rfl) hf ?_)
  intro b4 hb4; cases b4
  · first | replace hb4 := dF hb4 | skip
    refine ev_q rfl (q_assign (by conv => lhs; whnf) ?_)
    refine ev_nil (hK2 _ ?_); clear hK2
    refine good_ret ?_
    repeat (first | refine thenQ_ret ?_ | refine blockQ_ret ?_)
    refine ret_tmp (st := _) rfl (by conv => lhs; whnf) rfl ?_
    first | exact fT (by assumption) | exact fF (by assumption)
  · first | replace hb4 := dT hb4 | skip
    refine ev_q rfl (q_assign (by conv => lhs; whnf) ?_)
    refine ev_nil (hK2 _ ?_); clear hK2
    refine good_ret ?_
    repeat (first | refine thenQ_ret ?_ | refine blockQ_ret ?_)
    refine ret_tmp (st := _) rfl (by conv => lhs; whnf) rfl ?_
    first | exact fT (by assumption) | exact fF (by assumption)

-- impl.firstIn
set_option maxRecDepth 20000 in
set_option maxHeartbeats 2000000 in
theorem D_impl_firstIn (f : Nat) (caps : List AV) (p : Int → Prop) [DecidablePred p] (lo hi : Int) (h1 : -1000000000000 ≤ lo ∧ lo ≤ 1000000000000) (h2 : -1000000000000 ≤ hi ∧ hi ≤ 1000000000000) (h3 : lo ≤ hi + 1) (mono : ∀ a b : Int, lo ≤ a → a ≤ b → b ≤ hi → p a → p b) (hf : ∀ a : Int, lo ≤ a → a ≤ hi → Den Try.prog f (.s (.int .i64 a) :: caps) (.s (.bool (decide (p a))))) : Den Try.prog 63 [.s (.int .i64 lo), .s (.int .i64 hi), .fn f caps] (.tup [.s (.int .i64 (lst p lo hi)), .s (.bool (decide (lst p lo hi ≤ hi)))]) := by
  have hs := lst_spec p h3
  obtain ⟨m, hm⟩ : ∃ m : Nat, hi - lo + 1 = (m : Int) := ⟨(hi - lo + 1).toNat, by omega⟩
  have hm2 : (hi - lo + 1).toNat = m := by omega
  have hl : lst p lo hi = lo + srN (fun i => p (lo + i)) m := by unfold lst; rw [hm2]
  refine den_of_good Try.func63 (by decide) rfl (Nat.le_of_ble_eq_true rfl) (Nat.le_of_ble_eq_true rfl) ?_
  refine good_seq fun K1 hK1 => ?_
  refine good_region rfl ?_
  refine ev_k rfl (k_box (by conv => lhs; whnf) rfl rfl rfl ?_)
  refine ev_k rfl (k_box (by conv => lhs; whnf) rfl rfl rfl ?_)
  refine ev_q rfl (q_assign (by conv => lhs; whnf) ?_)
  refine ev_q rfl (q_assign (by conv => lhs; whnf) ?_)
  refine ev_nil (hK1 _ ?_); clear hK1
  refine good_seq fun K2 hK2 => ?_
  refine good_region rfl ?_
  refine ev_q rfl (q_move (by conv => lhs; whnf) ?_)
  refine ev_q rfl (q_load tA2 rfl ?_)
  refine ev_q rfl (q_int rfl rfl ?_)
  intro n3 hn3
  replace hn3 := in64 hn3 (by omega) (by omega)
  refine ev_q rfl (q_int rfl rfl ?_)
  intro n4 hn4
  replace hn4 := in64 hn4 (by omega) (by omega)
  rw [hn3, hm] at hn4
  subst hn4
  refine ev_q rfl (q_assign (by conv => lhs; whnf) ?_)
  refine ev_nil (hK2 _ ?_); clear hK2
  refine good_seq fun K5 hK5 => ?_
  refine good_region rfl ?_
  refine ev_q rfl (q_move (by conv => lhs; whnf) ?_)
  refine ev_q rfl (q_clo rfl rfl ?_)
  refine ev_q rfl (q_callI rfl rfl (rfl) (D_sort_Search _ _ (fun i => p (lo + i)) m (by omega) (fun i j h1 h2 h3 => mono _ _ (by omega) (by omega) (by omega) h3) (fun i h => D_impl_firstIn_1 f caps p i lo (by omega) (by omega) (hf _ (by omega) (by omega)))) ?_)
  intro n6 hn6
  refine ev_q rfl (q_assign (by conv => lhs; whnf) ?_)
  refine ev_nil (hK5 _ ?_); clear hK5
  refine good_seq fun K7 hK7 => ?_
  refine good_region rfl ?_
  refine ev_q rfl (q_load tA2 rfl ?_)
  refine ev_q rfl (q_move (by conv => lhs; whnf) ?_)
  refine ev_q rfl (q_int rfl rfl ?_)
  intro n8 hn8
  replace hn8 := in64 hn8 (by omega) (by omega)
  refine ev_q rfl (q_move (by conv => lhs; whnf) ?_)
  refine ev_q rfl (q_move (by conv => lhs; whnf) ?_)
  refine ev_q rfl (q_int rfl rfl ?_)
  intro b9 hb9; cases b9
  · replace hb9 := dF hb9
    refine ev_q rfl (q_assign (by conv => lhs; whnf) ?_)
    refine ev_q rfl (q_assign (by conv => lhs; whnf) ?_)
    refine ev_nil (hK7 _ ?_); clear hK7
    refine good_ret ?_
    repeat (first | refine thenQ_ret ?_ | refine blockQ_ret ?_)
    refine ret_many rfl ?_
    refine res_tmp (by conv => lhs; whnf) rfl ?_
    refine res_tmp (by conv => lhs; whnf) rfl ?_
    refine res_nil ?_
    exact fTup1 (by first | rfl | exact fI (by first | omega | grind) | (exfalso; first | omega | grind)) (fTup1 (by first | rfl | exact fT (by first | omega | grind) | exact fF (by first | omega | grind) | exact fT' (by first | omega | grind) | (exfalso; first | omega | grind)) (rfl))
  · replace hb9 := dT hb9
    refine ev_q rfl (q_assign (by conv => lhs; whnf) ?_)
    refine ev_q rfl (q_assign (by conv => lhs; whnf) ?_)
    refine ev_nil (hK7 _ ?_); clear hK7
    refine good_ret ?_
    repeat (first | refine thenQ_ret ?_ | refine blockQ_ret ?_)
    refine ret_many rfl ?_
    refine res_tmp (by conv => lhs; whnf) rfl ?_
    refine res_tmp (by conv => lhs; whnf) rfl ?_
    refine res_nil ?_
    exact fTup1 (by first | rfl | exact fI (by first | omega | grind) | (exfalso; first | omega | grind)) (fTup1 (by first | rfl | exact fT (by first | omega | grind) | exact fF (by first | omega | grind) | exact fT' (by first | omega | grind) | (exfalso; first | omega | grind)) (rfl))

-- (impl.Substation).primaryFlow$1
set_option maxRecDepth 20000 in
set_option maxHeartbeats 2000000 in
theorem D_impl_Substation_primaryFlow_1 (s : ByteArray) (nd tr su re : Int) (pr ld q : Int) (hq : 0 ≤ q ∧ q ≤ 100000) (hp : 0 ≤ pr ∧ pr ≤ 18000) (ht : 0 ≤ tr ∧ tr ≤ 100000) (hsu : 0 ≤ su ∧ su ≤ 18000) (hre : 0 ≤ re ∧ re ≤ 18000) : Den Try.prog 89 [.s (.int .i64 q), .rp [.s (.string s), .s (.int .i64 nd), .s (.int .i64 tr), .s (.int .i64 su), .s (.int .i64 re)], .rp [.s (.int .i64 pr)], .rp [.s (.int .i64 ld)]] (.s (.bool (decide (pwP tr su re pr q ≥ ld)))) := by
  refine den_of_good Try.func89 (by decide) rfl (Nat.le_of_ble_eq_true rfl) (Nat.le_of_ble_eq_true rfl) ?_
  refine good_seq fun K1 hK1 => ?_
  refine good_region rfl ?_
  refine ev_q rfl (q_assign (by conv => lhs; whnf) ?_)
  refine ev_nil (hK1 _ ?_); clear hK1
  refine good_seq fun K2 hK2 => ?_
  refine good_draw 7 hmix (by kernel_rfl) rfl ?_
  refine qo_q rfl (q_loadA tA27 rfl rfl rfl ?_)
  refine qo_q rfl (q_load tA2 rfl ?_)
  refine qo_q rfl (q_move (by conv => lhs; whnf) ?_)
  refine qo_q rfl (q_callI rfl rfl (rfl) (D_impl_Substation_power s nd tr su re pr q hq hp ht hsu hre) ?_)
  intro n3 hn3
  refine qo_q rfl (q_load tA2 rfl ?_)
  refine qo_q rfl (q_int rfl rfl ?_)
  intro b4 hb4; cases b4
  · replace hb4 := dF hb4
    refine qo_q rfl (q_assign (by conv => lhs; whnf) ?_)
    refine qo_nil ?_
    refine ev_nil (hK2 _ ?_); clear hK2
    refine good_ret ?_
    repeat (first | refine thenQ_ret ?_ | refine blockQ_ret ?_)
    refine ret_tmp (st := _) rfl (by conv => lhs; whnf) rfl ?_
    first | exact fT (by omega) | exact fF (by omega)
  · replace hb4 := dT hb4
    refine qo_q rfl (q_assign (by conv => lhs; whnf) ?_)
    refine qo_nil ?_
    refine ev_nil (hK2 _ ?_); clear hK2
    refine good_ret ?_
    repeat (first | refine thenQ_ret ?_ | refine blockQ_ret ?_)
    refine ret_tmp (st := _) rfl (by conv => lhs; whnf) rfl ?_
    first | exact fT (by omega) | exact fF (by omega)

-- (impl.Substation).primaryFlow
set_option maxRecDepth 20000 in
set_option maxHeartbeats 2000000 in
theorem D_impl_Substation_primaryFlow (s : ByteArray) (nd tr su re : Int) (pr ld : Int) (hp : 0 ≤ pr ∧ pr ≤ 18000) (ht : 0 ≤ tr ∧ tr ≤ 100000) (hsu : 0 ≤ su ∧ su ≤ 18000) (hre : 0 ≤ re ∧ re ≤ 18000) : Den Try.prog 67 [.agg [.s (.string s), .s (.int .i64 nd), .s (.int .i64 tr), .s (.int .i64 su), .s (.int .i64 re)], .s (.int .i64 pr), .s (.int .i64 ld)] (.tup [.s (.int .i64 (pfP tr su re pr ld)), .s (.bool (decide (pfP tr su re pr ld ≤ 100000)))]) := by
  refine den_of_good Try.func67 (by decide) rfl (Nat.le_of_ble_eq_true rfl) (Nat.le_of_ble_eq_true rfl) ?_
  refine good_seq fun K1 hK1 => ?_
  refine good_region rfl ?_
  refine ev_k rfl (k_box (by conv => lhs; whnf) rfl rfl rfl ?_)
  refine ev_k rfl (k_box (by conv => lhs; whnf) rfl rfl rfl ?_)
  refine ev_k rfl (k_box (by conv => lhs; whnf) rfl rfl rfl ?_)
  refine ev_q rfl (q_assign (by conv => lhs; whnf) ?_)
  refine ev_q rfl (q_assign (by conv => lhs; whnf) ?_)
  refine ev_nil (hK1 _ ?_); clear hK1
  refine good_seq fun K2 hK2 => ?_
  refine good_region rfl ?_
  refine ev_q rfl (q_clo rfl rfl ?_)
  refine ev_q rfl (q_call rfl rfl (rfl) (D_impl_firstIn _ _ (fun n => pwP tr su re pr n ≥ ld) 0 100000 (by omega) (by omega) (by omega) (fun a b h1 h2 h3 h4 => Int.le_trans h4 (pw_q h2)) (fun a h1 h2 => D_impl_Substation_primaryFlow_1 s nd tr su re pr ld a ⟨h1, h2⟩ hp ht hsu hre)) rfl ?_)
  refine ev_q rfl (q_extractI rfl rfl ?_)
  intro n3 hn3
  refine ev_q rfl (q_extractB rfl rfl ?_)
  intro b4 hb4; cases b4
  · first | replace hb4 := dF hb4 | skip
    refine ev_q rfl (q_assign (by conv => lhs; whnf) ?_)
    refine ev_q rfl (q_assign (by conv => lhs; whnf) ?_)
    refine ev_nil (hK2 _ ?_); clear hK2
    refine good_ret ?_
    repeat (first | refine thenQ_ret ?_ | refine blockQ_ret ?_)
    refine ret_many rfl ?_
    refine res_tmp (by conv => lhs; whnf) rfl ?_
    refine res_tmp (by conv => lhs; whnf) rfl ?_
    refine res_nil ?_
    first | exact fTup1 (fI (by assumption)) (fTup1 (fT (by assumption)) rfl) | exact fTup1 (fI (by assumption)) (fTup1 (fF (by assumption)) rfl)
  · first | replace hb4 := dT hb4 | skip
    refine ev_q rfl (q_assign (by conv => lhs; whnf) ?_)
    refine ev_q rfl (q_assign (by conv => lhs; whnf) ?_)
    refine ev_nil (hK2 _ ?_); clear hK2
    refine good_ret ?_
    repeat (first | refine thenQ_ret ?_ | refine blockQ_ret ?_)
    refine ret_many rfl ?_
    refine res_tmp (by conv => lhs; whnf) rfl ?_
    refine res_tmp (by conv => lhs; whnf) rfl ?_
    refine res_nil ?_
    first | exact fTup1 (fI (by assumption)) (fTup1 (fT (by assumption)) rfl) | exact fTup1 (fI (by assumption)) (fTup1 (fF (by assumption)) rfl)

-- impl.PrimaryFlow
set_option maxRecDepth 20000 in
set_option maxHeartbeats 2000000 in
theorem D_impl_PrimaryFlow (s : ByteArray) (nd tr su re : Int) (pr ld : Int) (hs : s.size ≤ 140737488351232) : Den Try.prog 31 [.agg [.s (.string s), .s (.int .i64 nd), .s (.int .i64 tr), .s (.int .i64 su), .s (.int .i64 re)], .s (.int .i64 pr), .s (.int .i64 ld)] (.tup [.s (.int .i64 (if isName s = true ∧ (0 ≤ nd ∧ nd ≤ 15) ∧ (1 ≤ tr ∧ tr ≤ 100000) ∧ (0 ≤ su ∧ su ≤ 18000) ∧ (0 ≤ re ∧ re ≤ su - 1) then (if (0 ≤ pr ∧ pr ≤ 18000) ∧ (0 ≤ ld ∧ ld ≤ 100000000) then (if pfP tr su re pr ld ≤ 100000 then pfP tr su re pr ld else 0) else 0) else 0)), .s (.int .i64 (if isName s = true ∧ (0 ≤ nd ∧ nd ≤ 15) ∧ (1 ≤ tr ∧ tr ≤ 100000) ∧ (0 ≤ su ∧ su ≤ 18000) ∧ (0 ≤ re ∧ re ≤ su - 1) then (if (0 ≤ pr ∧ pr ≤ 18000) ∧ (0 ≤ ld ∧ ld ≤ 100000000) then (if pfP tr su re pr ld ≤ 100000 then 0 else 6) else 2) else 1))]) := by
  refine den_of_good Try.func31 (by decide) rfl (Nat.le_of_ble_eq_true rfl) (Nat.le_of_ble_eq_true rfl) ?_
  refine good_seq fun K1 hK1 => ?_
  refine good_region rfl ?_
  refine ev_k rfl (k_box (by conv => lhs; whnf) rfl rfl rfl ?_)
  refine ev_q rfl (q_assign (by conv => lhs; whnf) ?_)
  refine ev_q rfl (q_assign (by conv => lhs; whnf) ?_)
  refine ev_nil (hK1 _ ?_); clear hK1
  refine good_seq fun K2 hK2 => ?_
  refine good_block ?_
  refine good_seq fun K3 hK3 => ?_
  refine good_region rfl ?_
  refine ev_q rfl (q_loadA tA27 rfl rfl rfl ?_)
  refine ev_q rfl (q_callB rfl rfl (rfl) (D_impl_ValidSubstation _ _ _ _ _ hs) ?_)
  intro b4 hb4; cases b4
  · first | replace hb4 := dF hb4 | skip
    refine ev_q rfl (q_not rfl rfl ?_)
    refine ev_q rfl (q_assign (by conv => lhs; whnf) ?_)
    refine ev_nil (hK3 _ ?_); clear hK3
    refine good_condT rfl ?_
    refine good_seq fun K5 hK5 => ?_
    refine good_region rfl ?_
    refine ev_q rfl (q_assign (by conv => lhs; whnf) ?_)
    refine ev_q rfl (q_assign (by conv => lhs; whnf) ?_)
    refine ev_nil (hK5 _ ?_); clear hK5
    refine good_ret ?_
    repeat (first | refine thenQ_ret ?_ | refine blockQ_ret ?_)
    refine ret_many rfl ?_
    refine res_tmp (by conv => lhs; whnf) rfl ?_
    refine res_tmp (by conv => lhs; whnf) rfl ?_
    refine res_nil ?_
    clear hK2
    exact fTup1 (by first | rfl | exact fI (by first | omega | grind) | (exfalso; first | omega | grind)) (fTup1 (by first | rfl | exact fI (by first | omega | grind) | (exfalso; first | omega | grind)) (rfl))
  · first | replace hb4 := dT hb4 | skip
    refine ev_q rfl (q_not rfl rfl ?_)
    refine ev_q rfl (q_assign (by conv => lhs; whnf) ?_)
    refine ev_nil (hK3 _ ?_); clear hK3
    refine good_condF rfl ?_
    refine good_seq fun K6 hK6 => ?_
    refine good_region rfl ?_
    refine ev_q rfl (q_move (by conv => lhs; whnf) ?_)
    refine ev_q rfl (q_callB rfl rfl (rfl) (D_impl_waterOk ..) ?_)
    intro b7 hb7; cases b7
    · first | replace hb7 := dF hb7 | skip
      refine ev_q rfl (q_not rfl rfl ?_)
      refine ev_q rfl (q_move (by conv => lhs; whnf) ?_)
      refine ev_skip rfl ?_
      refine ev_skip rfl ?_
      refine ev_skip rfl ?_
      refine ev_q rfl (q_pickT rfl (by conv => lhs; whnf) ?_)
      refine ev_q rfl (q_assign (by conv => lhs; whnf) ?_)
      refine ev_nil (hK6 _ ?_); clear hK6
      refine good_condT rfl ?_
      refine good_seq fun K8 hK8 => ?_
      refine good_region rfl ?_
      refine ev_q rfl (q_assign (by conv => lhs; whnf) ?_)
      refine ev_q rfl (q_assign (by conv => lhs; whnf) ?_)
      refine ev_nil (hK8 _ ?_); clear hK8
      refine good_ret ?_
      repeat (first | refine thenQ_ret ?_ | refine blockQ_ret ?_)
      refine ret_many rfl ?_
      refine res_tmp (by conv => lhs; whnf) rfl ?_
      refine res_tmp (by conv => lhs; whnf) rfl ?_
      refine res_nil ?_
      clear hK2
      exact fTup1 (by first | rfl | exact fI (by first | omega | grind) | (exfalso; first | omega | grind)) (fTup1 (by first | rfl | exact fI (by first | omega | grind) | (exfalso; first | omega | grind)) (rfl))
    · first | replace hb7 := dT hb7 | skip
      refine ev_q rfl (q_not rfl rfl ?_)
      refine ev_q rfl (q_move (by conv => lhs; whnf) ?_)
      refine ev_q rfl (q_move (by conv => lhs; whnf) ?_)
      refine ev_q rfl (q_callB rfl rfl (rfl) (D_impl_pressureOk ..) ?_)
      intro b9 hb9; cases b9
      · first | replace hb9 := dF hb9 | skip
        refine ev_q rfl (q_not rfl rfl ?_)
        refine ev_q rfl (q_pickF rfl (by conv => lhs; whnf) ?_)
        refine ev_q rfl (q_assign (by conv => lhs; whnf) ?_)
        refine ev_nil (hK6 _ ?_); clear hK6
        refine good_condT rfl ?_
        refine good_seq fun K10 hK10 => ?_
        refine good_region rfl ?_
        refine ev_q rfl (q_assign (by conv => lhs; whnf) ?_)
        refine ev_q rfl (q_assign (by conv => lhs; whnf) ?_)
        refine ev_nil (hK10 _ ?_); clear hK10
        refine good_ret ?_
        repeat (first | refine thenQ_ret ?_ | refine blockQ_ret ?_)
        refine ret_many rfl ?_
        refine res_tmp (by conv => lhs; whnf) rfl ?_
        refine res_tmp (by conv => lhs; whnf) rfl ?_
        refine res_nil ?_
        clear hK2
        exact fTup1 (by first | rfl | exact fI (by first | omega | grind) | (exfalso; first | omega | grind)) (fTup1 (by first | rfl | exact fI (by first | omega | grind) | (exfalso; first | omega | grind)) (rfl))
      · first | replace hb9 := dT hb9 | skip
        refine ev_q rfl (q_not rfl rfl ?_)
        refine ev_q rfl (q_pickF rfl (by conv => lhs; whnf) ?_)
        refine ev_q rfl (q_assign (by conv => lhs; whnf) ?_)
        refine ev_nil (hK6 _ ?_); clear hK6
        refine good_condF rfl ?_
        refine good_skip (hK2 _ ?_); clear hK2
        refine good_seq fun K11 hK11 => ?_
        refine good_region rfl ?_
        refine ev_q rfl (q_loadA tA27 rfl rfl rfl ?_)
        refine ev_q rfl (q_move (by conv => lhs; whnf) ?_)
        refine ev_q rfl (q_move (by conv => lhs; whnf) ?_)
        refine ev_q rfl (q_call rfl rfl (rfl) (D_impl_Substation_primaryFlow s nd tr su re pr ld (by omega) (by omega) (by omega) (by omega)) rfl ?_)
        refine ev_q rfl (q_extractI rfl rfl ?_)
        intro n12 hn12
        refine ev_q rfl (q_extractB rfl rfl ?_)
        intro b13 hb13; cases b13
        · first | replace hb13 := dF hb13 | skip
          refine ev_q rfl (q_call rfl rfl (rfl) (by first | exact (D_impl_orState_T _) | exact (D_impl_orState_F _)) rfl ?_)
          refine ev_q rfl (q_extractI rfl rfl ?_)
          intro n14 hn14
          refine ev_q rfl (q_extractI rfl rfl ?_)
          intro n15 hn15
          refine ev_q rfl (q_assign (by conv => lhs; whnf) ?_)
          refine ev_q rfl (q_assign (by conv => lhs; whnf) ?_)
          refine ev_nil (hK11 _ ?_); clear hK11
          refine good_ret ?_
          repeat (first | refine thenQ_ret ?_ | refine blockQ_ret ?_)
          refine ret_many rfl ?_
          refine res_tmp (by conv => lhs; whnf) rfl ?_
          refine res_tmp (by conv => lhs; whnf) rfl ?_
          refine res_nil ?_
          exact fTup1 (by first | rfl | exact fI (by first | omega | grind) | (exfalso; first | omega | grind)) (fTup1 (by first | rfl | exact fI (by first | omega | grind) | (exfalso; first | omega | grind)) (rfl))
        · first | replace hb13 := dT hb13 | skip
          refine ev_q rfl (q_call rfl rfl (rfl) (by first | exact (D_impl_orState_T _) | exact (D_impl_orState_F _)) rfl ?_)
          refine ev_q rfl (q_extractI rfl rfl ?_)
          intro n16 hn16
          refine ev_q rfl (q_extractI rfl rfl ?_)
          intro n17 hn17
          refine ev_q rfl (q_assign (by conv => lhs; whnf) ?_)
          refine ev_q rfl (q_assign (by conv => lhs; whnf) ?_)
          refine ev_nil (hK11 _ ?_); clear hK11
          refine good_ret ?_
          repeat (first | refine thenQ_ret ?_ | refine blockQ_ret ?_)
          refine ret_many rfl ?_
          refine res_tmp (by conv => lhs; whnf) rfl ?_
          refine res_tmp (by conv => lhs; whnf) rfl ?_
          refine res_nil ?_
          exact fTup1 (by first | rfl | exact fI (by first | omega | grind) | (exfalso; first | omega | grind)) (fTup1 (by first | rfl | exact fI (by first | omega | grind) | (exfalso; first | omega | grind)) (rfl))

-- impl.PowerAt
set_option maxRecDepth 20000 in
set_option maxHeartbeats 2000000 in
theorem D_impl_PowerAt (s : ByteArray) (nd tr su re : Int) (pr q : Int) (hs : s.size ≤ 140737488351232) : Den Try.prog 25 [.agg [.s (.string s), .s (.int .i64 nd), .s (.int .i64 tr), .s (.int .i64 su), .s (.int .i64 re)], .s (.int .i64 pr), .s (.int .i64 q)] (.tup [.s (.int .i64 (if isName s = true ∧ (0 ≤ nd ∧ nd ≤ 15) ∧ (1 ≤ tr ∧ tr ≤ 100000) ∧ (0 ≤ su ∧ su ≤ 18000) ∧ (0 ≤ re ∧ re ≤ su - 1) then (if (0 ≤ pr ∧ pr ≤ 18000) ∧ (0 ≤ q ∧ q ≤ 100000) then pwP tr su re pr q else 0) else 0)), .s (.int .i64 (if isName s = true ∧ (0 ≤ nd ∧ nd ≤ 15) ∧ (1 ≤ tr ∧ tr ≤ 100000) ∧ (0 ≤ su ∧ su ≤ 18000) ∧ (0 ≤ re ∧ re ≤ su - 1) then (if (0 ≤ pr ∧ pr ≤ 18000) ∧ (0 ≤ q ∧ q ≤ 100000) then 0 else 2) else 1))]) := by
  refine den_of_good Try.func25 (by decide) rfl (Nat.le_of_ble_eq_true rfl) (Nat.le_of_ble_eq_true rfl) ?_
  refine good_seq fun K1 hK1 => ?_
  refine good_region rfl ?_
  refine ev_k rfl (k_box (by conv => lhs; whnf) rfl rfl rfl ?_)
  refine ev_q rfl (q_assign (by conv => lhs; whnf) ?_)
  refine ev_q rfl (q_assign (by conv => lhs; whnf) ?_)
  refine ev_nil (hK1 _ ?_); clear hK1
  refine good_seq fun K2 hK2 => ?_
  refine good_block ?_
  refine good_seq fun K3 hK3 => ?_
  refine good_region rfl ?_
  refine ev_q rfl (q_loadA tA27 rfl rfl rfl ?_)
  refine ev_q rfl (q_callB rfl rfl (rfl) (D_impl_ValidSubstation _ _ _ _ _ hs) ?_)
  intro b4 hb4; cases b4
  · first | replace hb4 := dF hb4 | skip
    refine ev_q rfl (q_not rfl rfl ?_)
    refine ev_q rfl (q_assign (by conv => lhs; whnf) ?_)
    refine ev_nil (hK3 _ ?_); clear hK3
    refine good_condT rfl ?_
    refine good_seq fun K5 hK5 => ?_
    refine good_region rfl ?_
    refine ev_q rfl (q_assign (by conv => lhs; whnf) ?_)
    refine ev_q rfl (q_assign (by conv => lhs; whnf) ?_)
    refine ev_nil (hK5 _ ?_); clear hK5
    refine good_ret ?_
    repeat (first | refine thenQ_ret ?_ | refine blockQ_ret ?_)
    refine ret_many rfl ?_
    refine res_tmp (by conv => lhs; whnf) rfl ?_
    refine res_tmp (by conv => lhs; whnf) rfl ?_
    refine res_nil ?_
    clear hK2
    exact fTup1 (by first | rfl | exact fI (by first | omega | grind) | (exfalso; first | omega | grind)) (fTup1 (by first | rfl | exact fI (by first | omega | grind) | (exfalso; first | omega | grind)) (rfl))
  · first | replace hb4 := dT hb4 | skip
    refine ev_q rfl (q_not rfl rfl ?_)
    refine ev_q rfl (q_assign (by conv => lhs; whnf) ?_)
    refine ev_nil (hK3 _ ?_); clear hK3
    refine good_condF rfl ?_
    refine good_seq fun K6 hK6 => ?_
    refine good_region rfl ?_
    refine ev_q rfl (q_move (by conv => lhs; whnf) ?_)
    refine ev_q rfl (q_callB rfl rfl (rfl) (D_impl_waterOk ..) ?_)
    intro b7 hb7; cases b7
    · first | replace hb7 := dF hb7 | skip
      refine ev_q rfl (q_not rfl rfl ?_)
      refine ev_q rfl (q_move (by conv => lhs; whnf) ?_)
      refine ev_skip rfl ?_
      refine ev_skip rfl ?_
      refine ev_skip rfl ?_
      refine ev_q rfl (q_pickT rfl (by conv => lhs; whnf) ?_)
      refine ev_q rfl (q_assign (by conv => lhs; whnf) ?_)
      refine ev_nil (hK6 _ ?_); clear hK6
      refine good_condT rfl ?_
      refine good_seq fun K8 hK8 => ?_
      refine good_region rfl ?_
      refine ev_q rfl (q_assign (by conv => lhs; whnf) ?_)
      refine ev_q rfl (q_assign (by conv => lhs; whnf) ?_)
      refine ev_nil (hK8 _ ?_); clear hK8
      refine good_ret ?_
      repeat (first | refine thenQ_ret ?_ | refine blockQ_ret ?_)
      refine ret_many rfl ?_
      refine res_tmp (by conv => lhs; whnf) rfl ?_
      refine res_tmp (by conv => lhs; whnf) rfl ?_
      refine res_nil ?_
      clear hK2
      exact fTup1 (by first | rfl | exact fI (by first | omega | grind) | (exfalso; first | omega | grind)) (fTup1 (by first | rfl | exact fI (by first | omega | grind) | (exfalso; first | omega | grind)) (rfl))
    · first | replace hb7 := dT hb7 | skip
      refine ev_q rfl (q_not rfl rfl ?_)
      refine ev_q rfl (q_move (by conv => lhs; whnf) ?_)
      refine ev_q rfl (q_move (by conv => lhs; whnf) ?_)
      refine ev_q rfl (q_callB rfl rfl (rfl) (D_impl_within ..) ?_)
      intro b9 hb9; cases b9
      · first | replace hb9 := dF hb9 | skip
        refine ev_q rfl (q_not rfl rfl ?_)
        refine ev_q rfl (q_pickF rfl (by conv => lhs; whnf) ?_)
        refine ev_q rfl (q_assign (by conv => lhs; whnf) ?_)
        refine ev_nil (hK6 _ ?_); clear hK6
        refine good_condT rfl ?_
        refine good_seq fun K10 hK10 => ?_
        refine good_region rfl ?_
        refine ev_q rfl (q_assign (by conv => lhs; whnf) ?_)
        refine ev_q rfl (q_assign (by conv => lhs; whnf) ?_)
        refine ev_nil (hK10 _ ?_); clear hK10
        refine good_ret ?_
        repeat (first | refine thenQ_ret ?_ | refine blockQ_ret ?_)
        refine ret_many rfl ?_
        refine res_tmp (by conv => lhs; whnf) rfl ?_
        refine res_tmp (by conv => lhs; whnf) rfl ?_
        refine res_nil ?_
        clear hK2
        exact fTup1 (by first | rfl | exact fI (by first | omega | grind) | (exfalso; first | omega | grind)) (fTup1 (by first | rfl | exact fI (by first | omega | grind) | (exfalso; first | omega | grind)) (rfl))
      · first | replace hb9 := dT hb9 | skip
        refine ev_q rfl (q_not rfl rfl ?_)
        refine ev_q rfl (q_pickF rfl (by conv => lhs; whnf) ?_)
        refine ev_q rfl (q_assign (by conv => lhs; whnf) ?_)
        refine ev_nil (hK6 _ ?_); clear hK6
        refine good_condF rfl ?_
        refine good_skip (hK2 _ ?_); clear hK2
        refine good_seq fun K11 hK11 => ?_
        refine good_region rfl ?_
        refine ev_q rfl (q_loadA tA27 rfl rfl rfl ?_)
        refine ev_q rfl (q_move (by conv => lhs; whnf) ?_)
        refine ev_q rfl (q_move (by conv => lhs; whnf) ?_)
        refine ev_q rfl (q_callI rfl rfl (rfl) (D_impl_Substation_power s nd tr su re pr q (by omega) (by omega) (by omega) (by omega) (by omega)) ?_)
        intro n12 hn12
        refine ev_q rfl (q_assign (by conv => lhs; whnf) ?_)
        refine ev_q rfl (q_assign (by conv => lhs; whnf) ?_)
        refine ev_nil (hK11 _ ?_); clear hK11
        refine good_ret ?_
        repeat (first | refine thenQ_ret ?_ | refine blockQ_ret ?_)
        refine ret_many rfl ?_
        refine res_tmp (by conv => lhs; whnf) rfl ?_
        refine res_tmp (by conv => lhs; whnf) rfl ?_
        refine res_nil ?_
        exact fTup1 (by first | rfl | exact fI (by first | omega | grind) | (exfalso; first | omega | grind)) (fTup1 (by first | rfl | exact fI (by first | omega | grind) | (exfalso; first | omega | grind)) (rfl))

-- impl.LeastPrimary$1
set_option maxRecDepth 20000 in
set_option maxHeartbeats 2000000 in
theorem D_impl_LeastPrimary_1 (s : ByteArray) (nd tr su re : Int) (ld q n : Int) (hq : 0 ≤ q ∧ q ≤ 100000) (ht : 0 ≤ tr ∧ tr ≤ 100000) (hsu : 0 ≤ su ∧ su ≤ 18000) (hre : 0 ≤ re ∧ re ≤ 18000) (hn : 0 ≤ n ∧ n ≤ 18000) : Den Try.prog 64 [.s (.int .i64 n), .rp [.s (.string s), .s (.int .i64 nd), .s (.int .i64 tr), .s (.int .i64 su), .s (.int .i64 re)], .rp [.s (.int .i64 q)], .rp [.s (.int .i64 ld)]] (.s (.bool (decide (pwP tr su re n q ≥ ld)))) := by
  refine den_of_good Try.func64 (by decide) rfl (Nat.le_of_ble_eq_true rfl) (Nat.le_of_ble_eq_true rfl) ?_
  refine good_seq fun K1 hK1 => ?_
  refine good_region rfl ?_
  refine ev_q rfl (q_assign (by conv => lhs; whnf) ?_)
  refine ev_nil (hK1 _ ?_); clear hK1
  refine good_seq fun K2 hK2 => ?_
  refine good_draw 7 hmix (by kernel_rfl) rfl ?_
  refine qo_q rfl (q_loadA tA27 rfl rfl rfl ?_)
  refine qo_q rfl (q_move (by conv => lhs; whnf) ?_)
  refine qo_q rfl (q_load tA2 rfl ?_)
  refine qo_q rfl (q_callI rfl rfl (rfl) (D_impl_Substation_power s nd tr su re n q hq hn ht hsu hre) ?_)
  intro n3 hn3
  refine qo_q rfl (q_load tA2 rfl ?_)
  refine qo_q rfl (q_int rfl rfl ?_)
  intro b4 hb4; cases b4
  · replace hb4 := dF hb4
    refine qo_q rfl (q_assign (by conv => lhs; whnf) ?_)
    refine qo_nil ?_
    refine ev_nil (hK2 _ ?_); clear hK2
    refine good_ret ?_
    repeat (first | refine thenQ_ret ?_ | refine blockQ_ret ?_)
    refine ret_tmp (st := _) rfl (by conv => lhs; whnf) rfl ?_
    first | exact fT (by omega) | exact fF (by omega)
  · replace hb4 := dT hb4
    refine qo_q rfl (q_assign (by conv => lhs; whnf) ?_)
    refine qo_nil ?_
    refine ev_nil (hK2 _ ?_); clear hK2
    refine good_ret ?_
    repeat (first | refine thenQ_ret ?_ | refine blockQ_ret ?_)
    refine ret_tmp (st := _) rfl (by conv => lhs; whnf) rfl ?_
    first | exact fT (by omega) | exact fF (by omega)

-- impl.LeastPrimary
set_option maxRecDepth 20000 in
set_option maxHeartbeats 2000000 in
theorem D_impl_LeastPrimary (s : ByteArray) (nd tr su re : Int) (ld q : Int) (hs : s.size ≤ 140737488351232) : Den Try.prog 27 [.agg [.s (.string s), .s (.int .i64 nd), .s (.int .i64 tr), .s (.int .i64 su), .s (.int .i64 re)], .s (.int .i64 ld), .s (.int .i64 q)] (.tup [.s (.int .i64 (if isName s = true ∧ (0 ≤ nd ∧ nd ≤ 15) ∧ (1 ≤ tr ∧ tr ≤ 100000) ∧ (0 ≤ su ∧ su ≤ 18000) ∧ (0 ≤ re ∧ re ≤ su - 1) then (if (0 ≤ ld ∧ ld ≤ 100000000) ∧ (0 ≤ q ∧ q ≤ 100000) then (if lpP tr su re ld q ≤ 18000 then lpP tr su re ld q else 0) else 0) else 0)), .s (.int .i64 (if isName s = true ∧ (0 ≤ nd ∧ nd ≤ 15) ∧ (1 ≤ tr ∧ tr ≤ 100000) ∧ (0 ≤ su ∧ su ≤ 18000) ∧ (0 ≤ re ∧ re ≤ su - 1) then (if (0 ≤ ld ∧ ld ≤ 100000000) ∧ (0 ≤ q ∧ q ≤ 100000) then (if lpP tr su re ld q ≤ 18000 then 0 else 6) else 2) else 1))]) := by
  refine den_of_good Try.func27 (by decide) rfl (Nat.le_of_ble_eq_true rfl) (Nat.le_of_ble_eq_true rfl) ?_
  refine good_seq fun K1 hK1 => ?_
  refine good_region rfl ?_
  refine ev_k rfl (k_box (by conv => lhs; whnf) rfl rfl rfl ?_)
  refine ev_k rfl (k_box (by conv => lhs; whnf) rfl rfl rfl ?_)
  refine ev_k rfl (k_box (by conv => lhs; whnf) rfl rfl rfl ?_)
  refine ev_q rfl (q_assign (by conv => lhs; whnf) ?_)
  refine ev_q rfl (q_assign (by conv => lhs; whnf) ?_)
  refine ev_nil (hK1 _ ?_); clear hK1
  refine good_seq fun K2 hK2 => ?_
  refine good_block ?_
  refine good_seq fun K3 hK3 => ?_
  refine good_region rfl ?_
  refine ev_q rfl (q_loadA tA27 rfl rfl rfl ?_)
  refine ev_q rfl (q_callB rfl rfl (rfl) (D_impl_ValidSubstation _ _ _ _ _ hs) ?_)
  intro b4 hb4; cases b4
  · first | replace hb4 := dF hb4 | skip
    refine ev_q rfl (q_not rfl rfl ?_)
    refine ev_q rfl (q_assign (by conv => lhs; whnf) ?_)
    refine ev_nil (hK3 _ ?_); clear hK3
    refine good_condT rfl ?_
    refine good_seq fun K5 hK5 => ?_
    refine good_region rfl ?_
    refine ev_q rfl (q_assign (by conv => lhs; whnf) ?_)
    refine ev_q rfl (q_assign (by conv => lhs; whnf) ?_)
    refine ev_nil (hK5 _ ?_); clear hK5
    refine good_ret ?_
    repeat (first | refine thenQ_ret ?_ | refine blockQ_ret ?_)
    refine ret_many rfl ?_
    refine res_tmp (by conv => lhs; whnf) rfl ?_
    refine res_tmp (by conv => lhs; whnf) rfl ?_
    refine res_nil ?_
    clear hK2
    exact fTup1 (by first | rfl | exact fI (by first | omega | grind) | (exfalso; first | omega | grind)) (fTup1 (by first | rfl | exact fI (by first | omega | grind) | (exfalso; first | omega | grind)) (rfl))
  · first | replace hb4 := dT hb4 | skip
    refine ev_q rfl (q_not rfl rfl ?_)
    refine ev_q rfl (q_assign (by conv => lhs; whnf) ?_)
    refine ev_nil (hK3 _ ?_); clear hK3
    refine good_condF rfl ?_
    refine good_seq fun K6 hK6 => ?_
    refine good_region rfl ?_
    refine ev_q rfl (q_load tA2 rfl ?_)
    refine ev_q rfl (q_callB rfl rfl (rfl) (D_impl_pressureOk ..) ?_)
    intro b7 hb7; cases b7
    · first | replace hb7 := dF hb7 | skip
      refine ev_q rfl (q_not rfl rfl ?_)
      refine ev_q rfl (q_move (by conv => lhs; whnf) ?_)
      refine ev_skip rfl ?_
      refine ev_skip rfl ?_
      refine ev_skip rfl ?_
      refine ev_q rfl (q_pickT rfl (by conv => lhs; whnf) ?_)
      refine ev_q rfl (q_assign (by conv => lhs; whnf) ?_)
      refine ev_nil (hK6 _ ?_); clear hK6
      refine good_condT rfl ?_
      refine good_seq fun K8 hK8 => ?_
      refine good_region rfl ?_
      refine ev_q rfl (q_assign (by conv => lhs; whnf) ?_)
      refine ev_q rfl (q_assign (by conv => lhs; whnf) ?_)
      refine ev_nil (hK8 _ ?_); clear hK8
      refine good_ret ?_
      repeat (first | refine thenQ_ret ?_ | refine blockQ_ret ?_)
      refine ret_many rfl ?_
      refine res_tmp (by conv => lhs; whnf) rfl ?_
      refine res_tmp (by conv => lhs; whnf) rfl ?_
      refine res_nil ?_
      clear hK2
      exact fTup1 (by first | rfl | exact fI (by first | omega | grind) | (exfalso; first | omega | grind)) (fTup1 (by first | rfl | exact fI (by first | omega | grind) | (exfalso; first | omega | grind)) (rfl))
    · first | replace hb7 := dT hb7 | skip
      refine ev_q rfl (q_not rfl rfl ?_)
      refine ev_q rfl (q_move (by conv => lhs; whnf) ?_)
      refine ev_q rfl (q_load tA2 rfl ?_)
      refine ev_q rfl (q_callB rfl rfl (rfl) (D_impl_within ..) ?_)
      intro b9 hb9; cases b9
      · first | replace hb9 := dF hb9 | skip
        refine ev_q rfl (q_not rfl rfl ?_)
        refine ev_q rfl (q_pickF rfl (by conv => lhs; whnf) ?_)
        refine ev_q rfl (q_assign (by conv => lhs; whnf) ?_)
        refine ev_nil (hK6 _ ?_); clear hK6
        refine good_condT rfl ?_
        refine good_seq fun K10 hK10 => ?_
        refine good_region rfl ?_
        refine ev_q rfl (q_assign (by conv => lhs; whnf) ?_)
        refine ev_q rfl (q_assign (by conv => lhs; whnf) ?_)
        refine ev_nil (hK10 _ ?_); clear hK10
        refine good_ret ?_
        repeat (first | refine thenQ_ret ?_ | refine blockQ_ret ?_)
        refine ret_many rfl ?_
        refine res_tmp (by conv => lhs; whnf) rfl ?_
        refine res_tmp (by conv => lhs; whnf) rfl ?_
        refine res_nil ?_
        clear hK2
        exact fTup1 (by first | rfl | exact fI (by first | omega | grind) | (exfalso; first | omega | grind)) (fTup1 (by first | rfl | exact fI (by first | omega | grind) | (exfalso; first | omega | grind)) (rfl))
      · first | replace hb9 := dT hb9 | skip
        refine ev_q rfl (q_not rfl rfl ?_)
        refine ev_q rfl (q_pickF rfl (by conv => lhs; whnf) ?_)
        refine ev_q rfl (q_assign (by conv => lhs; whnf) ?_)
        refine ev_nil (hK6 _ ?_); clear hK6
        refine good_condF rfl ?_
        refine good_skip (hK2 _ ?_); clear hK2
        refine good_seq fun K11 hK11 => ?_
        refine good_region rfl ?_
        refine ev_q rfl (q_clo rfl rfl ?_)
        refine ev_q rfl (q_call rfl rfl (rfl) (D_impl_firstIn _ _ (fun n => pwP tr su re n q ≥ ld) 0 18000 (by omega) (by omega) (by omega) (fun a b h1 h2 h3 h4 => Int.le_trans h4 (pw_p (by omega) (by omega) h2)) (fun a h1 h2 => D_impl_LeastPrimary_1 s nd tr su re ld q a (by omega) (by omega) (by omega) (by omega) ⟨h1, h2⟩)) rfl ?_)
        refine ev_q rfl (q_extractI rfl rfl ?_)
        intro n12 hn12
        refine ev_q rfl (q_extractB rfl rfl ?_)
        intro b13 hb13; cases b13
        · first | replace hb13 := dF hb13 | skip
          replace hb13 : ¬ lpP tr su re ld q ≤ 18000 := hb13
          replace hn12 : n12 = lpP tr su re ld q := hn12
          refine ev_q rfl (q_call rfl rfl (rfl) (by first | exact (D_impl_orState_T _) | exact (D_impl_orState_F _)) rfl ?_)
          refine ev_q rfl (q_extractI rfl rfl ?_)
          intro n14 hn14
          refine ev_q rfl (q_extractI rfl rfl ?_)
          intro n15 hn15
          refine ev_q rfl (q_assign (by conv => lhs; whnf) ?_)
          refine ev_q rfl (q_assign (by conv => lhs; whnf) ?_)
          refine ev_nil (hK11 _ ?_); clear hK11
          refine good_ret ?_
          repeat (first | refine thenQ_ret ?_ | refine blockQ_ret ?_)
          refine ret_many rfl ?_
          refine res_tmp (by conv => lhs; whnf) rfl ?_
          refine res_tmp (by conv => lhs; whnf) rfl ?_
          refine res_nil ?_
          exact fTup1 (by first | rfl | exact fI (by first | omega | grind) | (exfalso; first | omega | grind)) (fTup1 (by first | rfl | exact fI (by first | omega | grind) | (exfalso; first | omega | grind)) (rfl))
        · first | replace hb13 := dT hb13 | skip
          replace hb13 : lpP tr su re ld q ≤ 18000 := hb13
          replace hn12 : n12 = lpP tr su re ld q := hn12
          refine ev_q rfl (q_call rfl rfl (rfl) (by first | exact (D_impl_orState_T _) | exact (D_impl_orState_F _)) rfl ?_)
          refine ev_q rfl (q_extractI rfl rfl ?_)
          intro n16 hn16
          refine ev_q rfl (q_extractI rfl rfl ?_)
          intro n17 hn17
          refine ev_q rfl (q_assign (by conv => lhs; whnf) ?_)
          refine ev_q rfl (q_assign (by conv => lhs; whnf) ?_)
          refine ev_nil (hK11 _ ?_); clear hK11
          refine good_ret ?_
          repeat (first | refine thenQ_ret ?_ | refine blockQ_ret ?_)
          refine ret_many rfl ?_
          refine res_tmp (by conv => lhs; whnf) rfl ?_
          refine res_tmp (by conv => lhs; whnf) rfl ?_
          refine res_nil ?_
          exact fTup1 (by first | rfl | exact fI (by first | omega | grind) | (exfalso; first | omega | grind)) (fTup1 (by first | rfl | exact fI (by first | omega | grind) | (exfalso; first | omega | grind)) (rfl))

-- (*spec.l00Src).next
set_option maxRecDepth 20000 in
set_option maxHeartbeats 2000000 in
theorem D_spec_l00Src_next (cs : List Int) (a s : Int) (hc : cs.length ≤ 17592186044416) (hb : byteL cs) (ha : 0 ≤ a ∧ a ≤ 3999999999999999999)  : DenXR Try.prog 101 [(1000000, .box 81 (src cs a s))] [.ptr 1000000 0] (τ := Int × Int × Int) (fun (v, a1, s1) => (0 ≤ v ∧ v ≤ 255) ∧ (a ≤ a1 ∧ a1 ≤ a + 1)) (fun (v, a1, s1) => [(1000000, .box 81 (src cs a1 s1))]) (fun (v, a1, s1) => .s (.int .i64 v)) := by
  refine denXR_of_good Try.func101 (by decide) rfl (Nat.le_of_ble_eq_true rfl) (Nat.le_of_ble_eq_true rfl) rfl ?_
  refine good_seq fun K1 hK1 => ?_
  refine good_region rfl ?_
  refine ev_q rfl (q_assign (by conv => lhs; whnf) ?_)
  refine ev_nil (hK1 _ ?_); clear hK1
  refine good_seq fun K2 hK2 => ?_
  refine good_region rfl ?_
  refine ev_q rfl (q_assign (by conv => lhs; whnf) ?_)
  refine ev_nil (hK2 _ ?_); clear hK2
  refine good_seq fun K3 hK3 => ?_
  refine good_seq fun K4 hK4 => ?_
  refine good_draw 10 hmix (by kernel_rfl) rfl ?_
  refine qo_q rfl (q_move (by conv => lhs; whnf) ?_)
  refine qo_q rfl (q_nilCheck (by conv => lhs; whnf) rfl ?_)
  refine qo_q rfl (q_fieldAddrP fO81_1 rfl rfl ?_)
  refine qo_q rfl (q_load tA3 rfl ?_)
  refine qo_q rfl (q_move (by conv => lhs; whnf) ?_)
  refine qo_q rfl (q_nilCheck (by conv => lhs; whnf) rfl ?_)
  refine qo_q rfl (q_fieldAddrP fO81_0 rfl rfl ?_)
  refine qo_q rfl (q_load tA46 rfl ?_)
  refine qo_q rfl (q_len tEs46 rfl ?_)
  intro n5 hn5
  try simp only [List.length_map] at hn5
  refine qo_q rfl (q_int rfl rfl ?_)
  intro b6 hb6; cases b6
  · replace hb6 := dF hb6
    refine qo_nil ?_
    refine ev_nil (hK4 _ ?_); clear hK4
    refine good_condF rfl ?_
    refine good_skip (hK3 _ ?_); clear hK3
    refine good_seq fun K7 hK7 => ?_
    refine good_region rfl ?_
    refine ev_q rfl (q_move (by conv => lhs; whnf) ?_)
    refine ev_q rfl (q_nilCheck (by conv => lhs; whnf) rfl ?_)
    refine ev_q rfl (q_fieldAddrP fO81_1 rfl rfl ?_)
    refine ev_q rfl (q_load tA3 rfl ?_)
    refine ev_q rfl (q_int rfl rfl ?_)
    intro n8 hn8
    replace hn8 := in64 hn8 (by omega) (by omega)
    refine ev_q rfl (q_nilCheck (by conv => lhs; whnf) rfl ?_)
    refine ev_q rfl (q_fieldAddrP fO81_1 rfl rfl ?_)
    refine ev_k rfl (k_store sz3 rfl (by conv => lhs; whnf) rfl rfl rfl (Nat.le_of_ble_eq_true rfl) rfl ?_)
    refine ev_nil (hK7 _ ?_); clear hK7
    refine good_seq fun K9 hK9 => ?_
    refine good_region rfl ?_
    refine ev_q rfl (q_move (by conv => lhs; whnf) ?_)
    refine ev_q rfl (q_move (by conv => lhs; whnf) ?_)
    refine ev_q rfl (q_nilCheck (by conv => lhs; whnf) rfl ?_)
    refine ev_q rfl (q_fieldAddrP fO81_2 rfl rfl ?_)
    refine ev_q rfl (q_load tA79 rfl ?_)
    refine ev_q rfl (q_int rfl rfl ?_)
    intro n10 hn10
    skip
    refine ev_q rfl (q_move (by conv => lhs; whnf) ?_)
    refine ev_q rfl (q_conv tK3 tK79 rfl ?_)
    intro n11 hn11
    skip
    refine ev_q rfl (q_int rfl rfl ?_)
    intro n12 hn12
    skip
    refine ev_q rfl (q_int rfl rfl ?_)
    intro n13 hn13
    skip
    refine ev_q rfl (q_nilCheck (by conv => lhs; whnf) rfl ?_)
    refine ev_q rfl (q_fieldAddrP fO81_2 rfl rfl ?_)
    refine ev_k rfl (k_store sz79 rfl (by conv => lhs; whnf) rfl rfl rfl (Nat.le_of_ble_eq_true rfl) rfl ?_)
    refine ev_nil (hK9 _ ?_); clear hK9
    refine good_seq fun K14 hK14 => ?_
    refine good_seq fun K15 hK15 => ?_
    refine good_draw 10 hmix (by kernel_rfl) rfl ?_
    refine qo_q rfl (q_move (by conv => lhs; whnf) ?_)
    refine qo_q rfl (q_nilCheck (by conv => lhs; whnf) rfl ?_)
    refine qo_q rfl (q_fieldAddrP fO81_1 rfl rfl ?_)
    refine qo_q rfl (q_load tA3 rfl ?_)
    refine qo_q rfl (q_move (by conv => lhs; whnf) ?_)
    refine qo_q rfl (q_nilCheck (by conv => lhs; whnf) rfl ?_)
    refine qo_q rfl (q_fieldAddrP fO81_0 rfl rfl ?_)
    refine qo_q rfl (q_load tA46 rfl ?_)
    refine qo_q rfl (q_len tEs46 rfl ?_)
    intro n16 hn16
    try simp only [List.length_map] at hn16
    refine qo_q rfl (q_int rfl rfl ?_)
    intro b17 hb17; cases b17
    · replace hb17 := dF hb17
      refine qo_nil ?_
      refine ev_nil (hK15 _ ?_); clear hK15
      refine good_condF rfl ?_
      refine good_skip (hK14 _ ?_); clear hK14
      refine good_seq fun K18 hK18 => ?_
      refine good_region rfl ?_
      refine ev_q rfl (q_move (by conv => lhs; whnf) ?_)
      refine ev_q rfl (q_nilCheck (by conv => lhs; whnf) rfl ?_)
      refine ev_q rfl (q_fieldAddrP fO81_2 rfl rfl ?_)
      refine ev_q rfl (q_load tA79 rfl ?_)
      refine ev_q rfl (q_shr rfl rfl ⟨by omega, ?_⟩)
      intro n19 hn19
      skip
      refine ev_q rfl (q_int rfl rfl ?_)
      intro n20 hn20
      have hv := and255 hn20
      refine ev_q rfl (q_conv tK79 tK2 rfl ?_)
      intro n21 hn21
      replace hn21 := in64 hn21 (by omega) (by omega)
      refine ev_q rfl (q_assign (by conv => lhs; whnf) ?_)
      refine ev_nil (hK18 _ ?_); clear hK18
      refine good_ret ?_
      repeat (first | refine thenQ_ret ?_ | refine blockQ_ret ?_)
      apply ex_3
      case hF =>
        refine fx_tmp rfl (by conv => lhs; whnf) ?_
        exact ⟨_, conv_eq (by first | rfl | exact fI (by first | omega | grind) | (exfalso; first | omega | grind)), weakH_box (boxEq (by first | rfl | (rw [e]; done) | (rw [e]; rfl) | (simp_all; done))) rfl (weakH_none _), refsIn_ok rfl⟩
      case hR =>
        exact ⟨by omega, by omega⟩
    · replace hb17 := dT hb17
      refine qo_nil ?_
      refine ev_nil (hK15 _ ?_); clear hK15
      refine good_condT rfl ?_
      refine good_seq fun K22 hK22 => ?_
      refine good_region rfl ?_
      refine ev_q rfl (q_move (by conv => lhs; whnf) ?_)
      refine ev_q rfl (q_assign (by conv => lhs; whnf) ?_)
      refine ev_nil (hK22 _ ?_); clear hK22
      refine good_ret ?_
      repeat (first | refine thenQ_ret ?_ | refine blockQ_ret ?_)
      clear hK14
      apply ex_3
      case hF =>
        refine fx_tmp rfl (by conv => lhs; whnf) ?_
        exact ⟨_, conv_eq (by first | rfl | exact fI (by first | omega | grind) | (exfalso; first | omega | grind)), weakH_box (boxEq (by first | rfl | (rw [e]; done) | (rw [e]; rfl) | (simp_all; done))) rfl (weakH_none _), refsIn_ok rfl⟩
      case hR =>
        exact ⟨by omega, by omega⟩
  · replace hb6 := dT hb6
    obtain ⟨p, hp⟩ := getL (xs := cs) (n := a) (by omega) (by omega)
    have hpb := hb p (List.mem_of_getElem? hp)
    refine qo_nil ?_
    refine ev_nil (hK4 _ ?_); clear hK4
    refine good_condT rfl ?_
    refine good_draw 12 hmix (by kernel_rfl) rfl ?_
    refine qo_q rfl (q_move (by conv => lhs; whnf) ?_)
    refine qo_q rfl (q_nilCheck (by conv => lhs; whnf) rfl ?_)
    refine qo_q rfl (q_fieldAddrP fO81_0 rfl rfl ?_)
    refine qo_q rfl (q_load tA46 rfl ?_)
    refine qo_q rfl (q_move (by conv => lhs; whnf) ?_)
    refine qo_q rfl (q_nilCheck (by conv => lhs; whnf) rfl ?_)
    refine qo_q rfl (q_fieldAddrP fO81_1 rfl rfl ?_)
    refine qo_q rfl (q_load tA3 rfl ?_)
    refine qo_q rfl (q_idx tE46 rfl rfl (by omega) (by exact map_get hp) rfl ?_)
    refine qo_q rfl (q_load tA5 rfl ?_)
    refine qo_q rfl (q_conv tK5 tK3 rfl ?_)
    intro n23 hn23
    replace hn23 := in64 hn23 (by omega) (by omega)
    refine qo_q rfl (q_assign (by conv => lhs; whnf) ?_)
    refine qo_nil ?_
    refine ev_nil (hK3 _ ?_); clear hK3
    refine good_seq fun K24 hK24 => ?_
    refine good_region rfl ?_
    refine ev_q rfl (q_move (by conv => lhs; whnf) ?_)
    refine ev_q rfl (q_nilCheck (by conv => lhs; whnf) rfl ?_)
    refine ev_q rfl (q_fieldAddrP fO81_1 rfl rfl ?_)
    refine ev_q rfl (q_load tA3 rfl ?_)
    refine ev_q rfl (q_int rfl rfl ?_)
    intro n25 hn25
    replace hn25 := in64 hn25 (by omega) (by omega)
    refine ev_q rfl (q_nilCheck (by conv => lhs; whnf) rfl ?_)
    refine ev_q rfl (q_fieldAddrP fO81_1 rfl rfl ?_)
    refine ev_k rfl (k_store sz3 rfl (by conv => lhs; whnf) rfl rfl rfl (Nat.le_of_ble_eq_true rfl) rfl ?_)
    refine ev_nil (hK24 _ ?_); clear hK24
    refine good_seq fun K26 hK26 => ?_
    refine good_region rfl ?_
    refine ev_q rfl (q_move (by conv => lhs; whnf) ?_)
    refine ev_q rfl (q_move (by conv => lhs; whnf) ?_)
    refine ev_q rfl (q_nilCheck (by conv => lhs; whnf) rfl ?_)
    refine ev_q rfl (q_fieldAddrP fO81_2 rfl rfl ?_)
    refine ev_q rfl (q_load tA79 rfl ?_)
    refine ev_q rfl (q_int rfl rfl ?_)
    intro n27 hn27
    skip
    refine ev_q rfl (q_move (by conv => lhs; whnf) ?_)
    refine ev_q rfl (q_conv tK3 tK79 rfl ?_)
    intro n28 hn28
    skip
    refine ev_q rfl (q_int rfl rfl ?_)
    intro n29 hn29
    skip
    refine ev_q rfl (q_int rfl rfl ?_)
    intro n30 hn30
    skip
    refine ev_q rfl (q_nilCheck (by conv => lhs; whnf) rfl ?_)
    refine ev_q rfl (q_fieldAddrP fO81_2 rfl rfl ?_)
    refine ev_k rfl (k_store sz79 rfl (by conv => lhs; whnf) rfl rfl rfl (Nat.le_of_ble_eq_true rfl) rfl ?_)
    refine ev_nil (hK26 _ ?_); clear hK26
    refine good_seq fun K31 hK31 => ?_
    refine good_seq fun K32 hK32 => ?_
    refine good_draw 10 hmix (by kernel_rfl) rfl ?_
    refine qo_q rfl (q_move (by conv => lhs; whnf) ?_)
    refine qo_q rfl (q_nilCheck (by conv => lhs; whnf) rfl ?_)
    refine qo_q rfl (q_fieldAddrP fO81_1 rfl rfl ?_)
    refine qo_q rfl (q_load tA3 rfl ?_)
    refine qo_q rfl (q_move (by conv => lhs; whnf) ?_)
    refine qo_q rfl (q_nilCheck (by conv => lhs; whnf) rfl ?_)
    refine qo_q rfl (q_fieldAddrP fO81_0 rfl rfl ?_)
    refine qo_q rfl (q_load tA46 rfl ?_)
    refine qo_q rfl (q_len tEs46 rfl ?_)
    intro n33 hn33
    try simp only [List.length_map] at hn33
    refine qo_q rfl (q_int rfl rfl ?_)
    intro b34 hb34; cases b34
    · replace hb34 := dF hb34
      refine qo_nil ?_
      refine ev_nil (hK32 _ ?_); clear hK32
      refine good_condF rfl ?_
      refine good_skip (hK31 _ ?_); clear hK31
      refine good_seq fun K35 hK35 => ?_
      refine good_region rfl ?_
      refine ev_q rfl (q_move (by conv => lhs; whnf) ?_)
      refine ev_q rfl (q_nilCheck (by conv => lhs; whnf) rfl ?_)
      refine ev_q rfl (q_fieldAddrP fO81_2 rfl rfl ?_)
      refine ev_q rfl (q_load tA79 rfl ?_)
      refine ev_q rfl (q_shr rfl rfl ⟨by omega, ?_⟩)
      intro n36 hn36
      skip
      refine ev_q rfl (q_int rfl rfl ?_)
      intro n37 hn37
      have hv := and255 hn37
      refine ev_q rfl (q_conv tK79 tK2 rfl ?_)
      intro n38 hn38
      replace hn38 := in64 hn38 (by omega) (by omega)
      refine ev_q rfl (q_assign (by conv => lhs; whnf) ?_)
      refine ev_nil (hK35 _ ?_); clear hK35
      refine good_ret ?_
      repeat (first | refine thenQ_ret ?_ | refine blockQ_ret ?_)
      apply ex_3
      case hF =>
        refine fx_tmp rfl (by conv => lhs; whnf) ?_
        exact ⟨_, conv_eq (by first | rfl | exact fI (by first | omega | grind) | (exfalso; first | omega | grind)), weakH_box (boxEq (by first | rfl | (rw [e]; done) | (rw [e]; rfl) | (simp_all; done))) rfl (weakH_none _), refsIn_ok rfl⟩
      case hR =>
        exact ⟨by omega, by omega⟩
    · replace hb34 := dT hb34
      refine qo_nil ?_
      refine ev_nil (hK32 _ ?_); clear hK32
      refine good_condT rfl ?_
      refine good_seq fun K39 hK39 => ?_
      refine good_region rfl ?_
      refine ev_q rfl (q_move (by conv => lhs; whnf) ?_)
      refine ev_q rfl (q_assign (by conv => lhs; whnf) ?_)
      refine ev_nil (hK39 _ ?_); clear hK39
      refine good_ret ?_
      repeat (first | refine thenQ_ret ?_ | refine blockQ_ret ?_)
      clear hK31
      apply ex_3
      case hF =>
        refine fx_tmp rfl (by conv => lhs; whnf) ?_
        exact ⟨_, conv_eq (by first | rfl | exact fI (by first | omega | grind) | (exfalso; first | omega | grind)), weakH_box (boxEq (by first | rfl | (rw [e]; done) | (rw [e]; rfl) | (simp_all; done))) rfl (weakH_none _), refsIn_ok rfl⟩
      case hR =>
        exact ⟨by omega, by omega⟩

-- (*spec.l00Src).pick
set_option maxRecDepth 20000 in
set_option maxHeartbeats 2000000 in
theorem D_spec_l00Src_pick (cs : List Int) (a s : Int) (n : Int) (hc : cs.length ≤ 17592186044416) (hb : byteL cs) (ha : 0 ≤ a ∧ a ≤ 3999999999999999998) (hn : -1000000000000 ≤ n ∧ n ≤ 1000000000000) : DenXR Try.prog 92 [(1000000, .box 81 (src cs a s))] [.ptr 1000000 0, .s (.int .i64 n)] (τ := Int × Int × Int) (fun (v, a1, s1) => (0 ≤ v ∧ (v = 0 ∨ v < n)) ∧ (a ≤ a1 ∧ a1 ≤ a + 2)) (fun (v, a1, s1) => [(1000000, .box 81 (src cs a1 s1))]) (fun (v, a1, s1) => .s (.int .i64 v)) := by
  refine denXR_of_good Try.func92 (by decide) rfl (Nat.le_of_ble_eq_true rfl) (Nat.le_of_ble_eq_true rfl) rfl ?_
  refine good_seq fun K1 hK1 => ?_
  refine good_region rfl ?_
  refine ev_q rfl (q_assign (by conv => lhs; whnf) ?_)
  refine ev_nil (hK1 _ ?_); clear hK1
  refine good_seq fun K2 hK2 => ?_
  refine good_seq fun K3 hK3 => ?_
  refine good_region rfl ?_
  refine ev_q rfl (q_move (by conv => lhs; whnf) ?_)
  refine ev_q rfl (q_int rfl rfl ?_)
  intro b4 hb4; cases b4
  · replace hb4 := dF hb4
    refine ev_nil (hK3 _ ?_); clear hK3
    refine good_condF rfl ?_
    refine good_skip (hK2 _ ?_); clear hK2
    refine good_seq fun K5 hK5 => ?_
    refine good_region rfl ?_
    refine ev_q rfl (q_move (by conv => lhs; whnf) ?_)
    refine ev_k rfl (k_callR [(1000000, 1000000)] (D_spec_l00Src_next cs _ _  hc hb (by omega)) rfl (rfl) (rfl) ⟨rfl, trivial⟩ rfl (by rintro ⟨v6, a6, s6⟩ ⟨hx6_0, hx6_1⟩; exact ⟨⟨rfl, rfl, trivial⟩, rfl⟩) rfl rfl ?_)
    rintro ⟨v6, a6, s6⟩ ⟨hx6_0, hx6_1⟩
    refine ev_q rfl (q_assign (by conv => lhs; whnf) ?_)
    refine ev_nil (hK5 _ ?_); clear hK5
    refine good_seq fun K7 hK7 => ?_
    refine good_seq fun K8 hK8 => ?_
    refine good_region rfl ?_
    refine ev_q rfl (q_move (by conv => lhs; whnf) ?_)
    refine ev_q rfl (q_int rfl rfl ?_)
    intro b9 hb9; cases b9
    · replace hb9 := dF hb9
      refine ev_nil (hK8 _ ?_); clear hK8
      refine good_condF rfl ?_
      refine good_skip (hK7 _ ?_); clear hK7
      refine good_seq fun K10 hK10 => ?_
      refine good_region rfl ?_
      refine ev_q rfl (q_move (by conv => lhs; whnf) ?_)
      refine ev_q rfl (q_move (by conv => lhs; whnf) ?_)
      refine ev_q rfl (q_int rfl rfl ⟨by omega, ?_⟩)
      intro n11 hn11
      replace hn11 := remE hn11 (by omega)
      have hr : 0 ≤ n11 ∧ n11 < n := by rw [hn11]; exact ⟨Int.emod_nonneg _ (by omega), Int.emod_lt_of_pos _ (by omega)⟩
      refine ev_q rfl (q_assign (by conv => lhs; whnf) ?_)
      refine ev_nil (hK10 _ ?_); clear hK10
      refine good_ret ?_
      repeat (first | refine thenQ_ret ?_ | refine blockQ_ret ?_)
      apply ex_3
      case hF =>
        refine fx_tmp rfl (by conv => lhs; whnf) ?_
        exact ⟨_, conv_eq (by first | rfl | exact fI (by first | omega | grind) | (exfalso; first | omega | grind)), weakH_box (boxEq (by first | rfl | (rw [e]; done) | (rw [e]; rfl) | (simp_all; done))) rfl (weakH_none _), refsIn_ok rfl⟩
      case hR =>
        exact ⟨by omega, by omega⟩
    · replace hb9 := dT hb9
      refine ev_nil (hK8 _ ?_); clear hK8
      refine good_condT rfl ?_
      refine good_region rfl ?_
      refine ev_q rfl (q_move (by conv => lhs; whnf) ?_)
      refine ev_q rfl (q_int rfl rfl ?_)
      intro n12 hn12
      replace hn12 := in64 hn12 (by omega) (by omega)
      refine ev_q rfl (q_move (by conv => lhs; whnf) ?_)
      refine ev_k rfl (k_callR [(1000000, 1000000)] (D_spec_l00Src_next cs _ _  hc hb (by omega)) rfl (rfl) (rfl) ⟨rfl, trivial⟩ rfl (by rintro ⟨v13, a13, s13⟩ ⟨hx13_0, hx13_1⟩; exact ⟨⟨rfl, rfl, trivial⟩, rfl⟩) rfl rfl ?_)
      rintro ⟨v13, a13, s13⟩ ⟨hx13_0, hx13_1⟩
      refine ev_q rfl (q_int rfl rfl ?_)
      intro n14 hn14
      replace hn14 := in64 hn14 (by omega) (by omega)
      refine ev_q rfl (q_assign (by conv => lhs; whnf) ?_)
      refine ev_nil (hK7 _ ?_); clear hK7
      refine good_seq fun K15 hK15 => ?_
      refine good_region rfl ?_
      refine ev_q rfl (q_move (by conv => lhs; whnf) ?_)
      refine ev_q rfl (q_move (by conv => lhs; whnf) ?_)
      refine ev_q rfl (q_int rfl rfl ⟨by omega, ?_⟩)
      intro n16 hn16
      replace hn16 := remE hn16 (by omega)
      have hr : 0 ≤ n16 ∧ n16 < n := by rw [hn16]; exact ⟨Int.emod_nonneg _ (by omega), Int.emod_lt_of_pos _ (by omega)⟩
      refine ev_q rfl (q_assign (by conv => lhs; whnf) ?_)
      refine ev_nil (hK15 _ ?_); clear hK15
      refine good_ret ?_
      repeat (first | refine thenQ_ret ?_ | refine blockQ_ret ?_)
      apply ex_3
      case hF =>
        refine fx_tmp rfl (by conv => lhs; whnf) ?_
        exact ⟨_, conv_eq (by first | rfl | exact fI (by first | omega | grind) | (exfalso; first | omega | grind)), weakH_box (boxEq (by first | rfl | (rw [e]; done) | (rw [e]; rfl) | (simp_all; done))) rfl (weakH_none _), refsIn_ok rfl⟩
      case hR =>
        exact ⟨by omega, by omega⟩
  · replace hb4 := dT hb4
    refine ev_nil (hK3 _ ?_); clear hK3
    refine good_condT rfl ?_
    refine good_seq fun K17 hK17 => ?_
    refine good_region rfl ?_
    refine ev_q rfl (q_assign (by conv => lhs; whnf) ?_)
    refine ev_nil (hK17 _ ?_); clear hK17
    refine good_ret ?_
    repeat (first | refine thenQ_ret ?_ | refine blockQ_ret ?_)
    clear hK2
    apply ex_3
    case hF =>
      refine fx_tmp rfl (by conv => lhs; whnf) ?_
      exact ⟨_, conv_eq (by first | rfl | exact fI (by first | omega | grind) | (exfalso; first | omega | grind)), weakH_box (boxEq (by first | rfl | (rw [e]; done) | (rw [e]; rfl) | (simp_all; done))) rfl (weakH_none _), refsIn_ok rfl⟩
    case hR =>
      exact ⟨by omega, by omega⟩

end Go.Proofs.Ythhajcpgbcpbmaa.DFnSubstations
