/- Walks through the functions that FnExactBestThickness reaches: what each answers. -/
import Derived.Test.YtjboimldlbapkaaEvO
import Derived.Test.YtjboimldlbapkaaProg
set_option linter.unusedVariables false
set_option linter.unusedSimpArgs false
namespace Go.Proofs.Ytjboimldlbapkaa.DFnExactBestThickness
open Go Go.RowKit Go.Proofs Go.Proofs.Ytjboimldlbapkaa Go.Proofs.Ytjboimldlbapkaa.Ev
def small (u : UInt8) : Bool := decide (97 ≤ u.toNat ∧ u.toNat ≤ 122)
def digit (u : UInt8) : Bool := decide (48 ≤ u.toNat ∧ u.toNat ≤ 57)
def nbc (u : UInt8) : Bool := small u || digit u
def allNb (s : ByteArray) : Bool := s.data.all nbc
def head1 (s : ByteArray) : Bool := match s[0]? with
  | some u => small u
  | none => false
def isName (s : ByteArray) : Bool := decide (1 ≤ s.size) && decide (s.size ≤ 10) && head1 s && allNb s
theorem getB {s : ByteArray} {i : Nat} (h : i < s.size) : ∃ u, s[i]? = some u := ⟨s[i], by simp [h]⟩
theorem allNb_T {s : ByteArray} (h : ∀ j u, j < s.size → s[j]? = some u → nbc u = true) : allNb s = true := by
  unfold allNb
  rw [Array.all_eq_true]
  intro i hi
  exact h i _ hi (getElem?_pos s i hi)
theorem allNb_F {s : ByteArray} {j : Nat} {u : UInt8} (h : s[j]? = some u) (hn : nbc u = false) : allNb s = false := by
  have hj : j < s.size := by
    apply Classical.byContradiction; intro hc
    rw [getElem?_neg s j hc] at h; cases h
  unfold allNb
  rw [Array.all_eq_false]
  refine ⟨j, hj, ?_⟩
  rw [getElem?_pos s j hj] at h
  cases h
  intro hc
  have hc2 : nbc s[j] = true := hc
  rw [hn] at hc2; cases hc2
theorem isName_long {s : ByteArray} (h : ¬ s.size ≤ 10) : isName s = false := by simp [isName, h]
theorem isName_none {s : ByteArray} (h : s.size = 0) : isName s = false := by simp [isName, h]
theorem isName_head {s : ByteArray} {u : UInt8} (h : s[0]? = some u) (hn : small u = false) : isName s = false := by simp [isName, head1, h, hn]
theorem isName_eq {s : ByteArray} {u : UInt8} (h1 : 1 ≤ s.size) (h2 : s.size ≤ 10) (h : s[0]? = some u) (hn : small u = true) : isName s = allNb s := by simp [isName, head1, h, hn, h1, h2]
theorem fB {b c : Bool} (h : b = c) : AV.s (.bool b) = .s (.bool c) := by rw [h]
def coat (d t c : Int) : Int := let n := dr (c * 3 * (d + t)) t; if n < 1 then 1 else if n > 5000 then 5000 else n
def btL (di le co wa gr t : Int) : Int := if dr (coat di t co * le * (wa - gr)) 100000 < 0 then 0 else dr (coat di t co * le * (wa - gr)) 100000
def btC (di le co pr he ye wa gr t : Int) : Int := le * dr ((t * t + 100) * pr) 100 + dr (btL di le co wa gr t * 876 * he * ye) 100000
def btG (c : Int → Int) : Nat → Int × Int
  | 0 => (0, 0)
  | n + 1 => if n = 0 then (1, c 1) else if c (n + 1) < (btG c n).2 then ((n : Int) + 1, c (n + 1)) else btG c n
theorem coat_bd {d t c : Int} : 1 ≤ coat d t c ∧ coat d t c ≤ 5000 := by
  unfold coat; simp only; omega
theorem btG_nn {c : Int → Int} (h : ∀ t : Nat, 1 ≤ t → t ≤ 300 → 0 ≤ c t) : ∀ n : Nat, n ≤ 300 → 0 ≤ (btG c n).2
  | 0, _ => by simp [btG]
  | n + 1, hn => by
    have h1 := h (n + 1) (by omega) hn
    have ih := btG_nn h n (by omega)
    have h2 := h 1 (by omega) (by omega)
    unfold btG
    split
    · exact h2
    · split
      · push_cast at h1; exact h1
      · exact ih
theorem btG_T {c : Int → Int} {n : Nat} (h : n = 0 ∨ c (n + 1) < (btG c n).2) : btG c (n + 1) = ((n : Int) + 1, c (n + 1)) := by
  conv => lhs; unfold btG
  by_cases h0 : n = 0
  · subst h0; rfl
  · rw [if_neg h0, if_pos (by rcases h with h | h; exact absurd h h0; exact h)]
theorem btG_F {c : Int → Int} {n : Nat} (h0 : ¬ n = 0) (h : ¬ c (n + 1) < (btG c n).2) : btG c (n + 1) = btG c n := by
  conv => lhs; unfold btG
  rw [if_neg h0, if_neg h]
def btI (c : Int → Int) (n : Nat) : Int := if n = 0 then -1 else (btG c n).2
theorem btI_ne {c : Int → Int} {n : Nat} (h : ¬ n = 0) : btI c n = (btG c n).2 := if_neg h
theorem btG_pos {c : Int → Int} : ∀ n : Nat, 1 ≤ n → 1 ≤ (btG c n).1
  | 0, h => by omega
  | n + 1, _ => by
    by_cases h0 : n = 0
    · rw [btG_T (.inl h0)]; simp only; omega
    · by_cases h : c (n + 1) < (btG c n).2
      · rw [btG_T (.inr h)]; simp only; omega
      · rw [btG_F h0 h]; exact btG_pos n (by omega)
theorem fO23_0 : fOff Try.prog 23 0 = some 0 := by kernel_rfl
theorem fO23_1 : fOff Try.prog 23 1 = some 1 := by kernel_rfl
theorem fO23_2 : fOff Try.prog 23 2 = some 2 := by kernel_rfl
theorem fO23_3 : fOff Try.prog 23 3 = some 3 := by kernel_rfl
theorem fO23_4 : fOff Try.prog 23 4 = some 4 := by kernel_rfl
theorem fO23_5 : fOff Try.prog 23 5 = some 5 := by kernel_rfl
theorem fO27_0 : fOff Try.prog 27 0 = some 0 := by kernel_rfl
theorem fO27_1 : fOff Try.prog 27 1 = some 1 := by kernel_rfl
theorem fO27_2 : fOff Try.prog 27 2 = some 2 := by kernel_rfl
theorem fO27_3 : fOff Try.prog 27 3 = some 3 := by kernel_rfl
theorem fO27_4 : fOff Try.prog 27 4 = some 4 := by kernel_rfl
theorem fO27_5 : fOff Try.prog 27 5 = some 5 := by kernel_rfl
theorem hmix : Try.prog.follows .mixedOrders = true := by kernel_rfl
theorem sz2 : tSz Try.prog 2 = some 1 := by kernel_rfl
theorem sz27 : tSz Try.prog 27 = some 6 := by kernel_rfl
theorem sz9 : tSz Try.prog 9 = some 1 := by kernel_rfl
theorem tA2 : tAgg Try.prog 2 = some none := by kernel_rfl
theorem tA23 : tAgg Try.prog 23 = some (some 6) := by kernel_rfl
theorem tA27 : tAgg Try.prog 27 = some (some 6) := by kernel_rfl
theorem tA9 : tAgg Try.prog 9 = some none := by kernel_rfl
theorem tB4 : tIsBool Try.prog 4 = true := by kernel_rfl
theorem tStr9 : tIsStr Try.prog 9 = true := by kernel_rfl
theorem zA27 : zeroA Try.prog 27 = some [.s (.string ⟨#[]⟩), .s (.int .i64 0), .s (.int .i64 0), .s (.int .i64 0), .s (.int .i64 0), .s (.int .i64 0)] := by kernel_rfl

-- impl.within
set_option maxRecDepth 20000 in
set_option maxHeartbeats 8000000 in
theorem D_impl_within (a lo hi : Int)  : Den Try.prog 60 [.s (.int .i64 a), .s (.int .i64 lo), .s (.int .i64 hi)] (.s (.bool (decide (lo ≤ a ∧ a ≤ hi)))) := by
  refine den_of_good Try.func60 (by decide) rfl (Nat.le_of_ble_eq_true rfl) ?_
  refine good_seq fun K1 hK1 => ?_
  refine good_region rfl ?_
  refine ev_q rfl (q_assign (by conv => lhs; whnf) ?_)
  refine ev_nil (hK1 _ ?_); clear hK1
  refine good_seq fun K2 hK2 => ?_
  refine good_region rfl ?_
  refine ev_q rfl (q_move (by conv => lhs; whnf) ?_)
  refine ev_q rfl (q_move (by conv => lhs; whnf) ?_)
  refine ev_q rfl (q_int rfl rfl ?_)
  intro b3 hb3; cases b3
  · replace hb3 := dF hb3
    refine ev_q rfl (q_move (by conv => lhs; whnf) ?_)
    refine ev_skip rfl ?_
    refine ev_skip rfl ?_
    refine ev_skip rfl ?_
    refine ev_q rfl (q_pickF rfl (by conv => lhs; whnf) ?_)
    refine ev_q rfl (q_assign (by conv => lhs; whnf) ?_)
    refine ev_nil (hK2 _ ?_); clear hK2
    refine good_ret ?_
    repeat (first | refine thenQ_ret ?_ | refine blockQ_ret ?_)
    refine ret_tmp (st := _) rfl (by conv => lhs; whnf) rfl ?_
    first | rfl | exact fT (by first | omega | grind) | exact fF (by first | omega | grind) | exact fT' (by first | omega | grind) | (exfalso; first | omega | grind)
  · replace hb3 := dT hb3
    refine ev_q rfl (q_move (by conv => lhs; whnf) ?_)
    refine ev_q rfl (q_move (by conv => lhs; whnf) ?_)
    refine ev_q rfl (q_move (by conv => lhs; whnf) ?_)
    refine ev_q rfl (q_int rfl rfl ?_)
    intro b4 hb4; cases b4
    · replace hb4 := dF hb4
      refine ev_q rfl (q_pickT rfl (by conv => lhs; whnf) ?_)
      refine ev_q rfl (q_assign (by conv => lhs; whnf) ?_)
      refine ev_nil (hK2 _ ?_); clear hK2
      refine good_ret ?_
      repeat (first | refine thenQ_ret ?_ | refine blockQ_ret ?_)
      refine ret_tmp (st := _) rfl (by conv => lhs; whnf) rfl ?_
      first | rfl | exact fT (by first | omega | grind) | exact fF (by first | omega | grind) | exact fT' (by first | omega | grind) | (exfalso; first | omega | grind)
    · replace hb4 := dT hb4
      refine ev_q rfl (q_pickT rfl (by conv => lhs; whnf) ?_)
      refine ev_q rfl (q_assign (by conv => lhs; whnf) ?_)
      refine ev_nil (hK2 _ ?_); clear hK2
      refine good_ret ?_
      repeat (first | refine thenQ_ret ?_ | refine blockQ_ret ?_)
      refine ret_tmp (st := _) rfl (by conv => lhs; whnf) rfl ?_
      first | rfl | exact fT (by first | omega | grind) | exact fF (by first | omega | grind) | exact fT' (by first | omega | grind) | (exfalso; first | omega | grind)

-- spec.l00In
set_option maxRecDepth 20000 in
set_option maxHeartbeats 8000000 in
theorem D_spec_l00In (a lo hi : Int)  : Den Try.prog 57 [.s (.int .i64 a), .s (.int .i64 lo), .s (.int .i64 hi)] (.s (.bool (decide (lo ≤ a ∧ a ≤ hi)))) := by
  refine den_of_good Try.func57 (by decide) rfl (Nat.le_of_ble_eq_true rfl) ?_
  refine good_seq fun K1 hK1 => ?_
  refine good_region rfl ?_
  refine ev_q rfl (q_assign (by conv => lhs; whnf) ?_)
  refine ev_nil (hK1 _ ?_); clear hK1
  refine good_seq fun K2 hK2 => ?_
  refine good_region rfl ?_
  refine ev_q rfl (q_move (by conv => lhs; whnf) ?_)
  refine ev_q rfl (q_move (by conv => lhs; whnf) ?_)
  refine ev_q rfl (q_int rfl rfl ?_)
  intro b3 hb3; cases b3
  · replace hb3 := dF hb3
    refine ev_q rfl (q_move (by conv => lhs; whnf) ?_)
    refine ev_skip rfl ?_
    refine ev_skip rfl ?_
    refine ev_skip rfl ?_
    refine ev_q rfl (q_pickF rfl (by conv => lhs; whnf) ?_)
    refine ev_q rfl (q_assign (by conv => lhs; whnf) ?_)
    refine ev_nil (hK2 _ ?_); clear hK2
    refine good_ret ?_
    repeat (first | refine thenQ_ret ?_ | refine blockQ_ret ?_)
    refine ret_tmp (st := _) rfl (by conv => lhs; whnf) rfl ?_
    first | rfl | exact fT (by first | omega | grind) | exact fF (by first | omega | grind) | exact fT' (by first | omega | grind) | (exfalso; first | omega | grind)
  · replace hb3 := dT hb3
    refine ev_q rfl (q_move (by conv => lhs; whnf) ?_)
    refine ev_q rfl (q_move (by conv => lhs; whnf) ?_)
    refine ev_q rfl (q_move (by conv => lhs; whnf) ?_)
    refine ev_q rfl (q_int rfl rfl ?_)
    intro b4 hb4; cases b4
    · replace hb4 := dF hb4
      refine ev_q rfl (q_pickT rfl (by conv => lhs; whnf) ?_)
      refine ev_q rfl (q_assign (by conv => lhs; whnf) ?_)
      refine ev_nil (hK2 _ ?_); clear hK2
      refine good_ret ?_
      repeat (first | refine thenQ_ret ?_ | refine blockQ_ret ?_)
      refine ret_tmp (st := _) rfl (by conv => lhs; whnf) rfl ?_
      first | rfl | exact fT (by first | omega | grind) | exact fF (by first | omega | grind) | exact fT' (by first | omega | grind) | (exfalso; first | omega | grind)
    · replace hb4 := dT hb4
      refine ev_q rfl (q_pickT rfl (by conv => lhs; whnf) ?_)
      refine ev_q rfl (q_assign (by conv => lhs; whnf) ?_)
      refine ev_nil (hK2 _ ?_); clear hK2
      refine good_ret ?_
      repeat (first | refine thenQ_ret ?_ | refine blockQ_ret ?_)
      refine ret_tmp (st := _) rfl (by conv => lhs; whnf) rfl ?_
      first | rfl | exact fT (by first | omega | grind) | exact fF (by first | omega | grind) | exact fT' (by first | omega | grind) | (exfalso; first | omega | grind)

-- spec.l01Small
set_option maxRecDepth 20000 in
set_option maxHeartbeats 8000000 in
theorem D_spec_l01Small (u : UInt8)  : Den Try.prog 156 [.s (.int .u8 u.toNat)] (.s (.bool (small u))) := by
  refine den_of_good Try.func156 (by decide) rfl (Nat.le_of_ble_eq_true rfl) ?_
  refine good_seq fun K1 hK1 => ?_
  refine good_region rfl ?_
  refine ev_q rfl (q_assign (by conv => lhs; whnf) ?_)
  refine ev_nil (hK1 _ ?_); clear hK1
  refine good_seq fun K2 hK2 => ?_
  refine good_region rfl ?_
  refine ev_q rfl (q_move (by conv => lhs; whnf) ?_)
  refine ev_q rfl (q_int rfl rfl ?_)
  intro b3 hb3; cases b3
  · replace hb3 := dF hb3
    refine ev_q rfl (q_move (by conv => lhs; whnf) ?_)
    refine ev_skip rfl ?_
    refine ev_skip rfl ?_
    refine ev_q rfl (q_pickF rfl (by conv => lhs; whnf) ?_)
    refine ev_q rfl (q_assign (by conv => lhs; whnf) ?_)
    refine ev_nil (hK2 _ ?_); clear hK2
    refine good_ret ?_
    repeat (first | refine thenQ_ret ?_ | refine blockQ_ret ?_)
    refine ret_tmp (st := _) rfl (by conv => lhs; whnf) rfl ?_
    exact fB (by simp only [small]; grind)
  · replace hb3 := dT hb3
    refine ev_q rfl (q_move (by conv => lhs; whnf) ?_)
    refine ev_q rfl (q_move (by conv => lhs; whnf) ?_)
    refine ev_q rfl (q_int rfl rfl ?_)
    intro b4 hb4; cases b4
    · replace hb4 := dF hb4
      refine ev_q rfl (q_pickT rfl (by conv => lhs; whnf) ?_)
      refine ev_q rfl (q_assign (by conv => lhs; whnf) ?_)
      refine ev_nil (hK2 _ ?_); clear hK2
      refine good_ret ?_
      repeat (first | refine thenQ_ret ?_ | refine blockQ_ret ?_)
      refine ret_tmp (st := _) rfl (by conv => lhs; whnf) rfl ?_
      exact fB (by simp only [small]; grind)
    · replace hb4 := dT hb4
      refine ev_q rfl (q_pickT rfl (by conv => lhs; whnf) ?_)
      refine ev_q rfl (q_assign (by conv => lhs; whnf) ?_)
      refine ev_nil (hK2 _ ?_); clear hK2
      refine good_ret ?_
      repeat (first | refine thenQ_ret ?_ | refine blockQ_ret ?_)
      refine ret_tmp (st := _) rfl (by conv => lhs; whnf) rfl ?_
      exact fB (by simp only [small]; grind)

-- spec.l01Digit
set_option maxRecDepth 20000 in
set_option maxHeartbeats 8000000 in
theorem D_spec_l01Digit (u : UInt8)  : Den Try.prog 157 [.s (.int .u8 u.toNat)] (.s (.bool (digit u))) := by
  refine den_of_good Try.func157 (by decide) rfl (Nat.le_of_ble_eq_true rfl) ?_
  refine good_seq fun K1 hK1 => ?_
  refine good_region rfl ?_
  refine ev_q rfl (q_assign (by conv => lhs; whnf) ?_)
  refine ev_nil (hK1 _ ?_); clear hK1
  refine good_seq fun K2 hK2 => ?_
  refine good_region rfl ?_
  refine ev_q rfl (q_move (by conv => lhs; whnf) ?_)
  refine ev_q rfl (q_int rfl rfl ?_)
  intro b3 hb3; cases b3
  · replace hb3 := dF hb3
    refine ev_q rfl (q_move (by conv => lhs; whnf) ?_)
    refine ev_skip rfl ?_
    refine ev_skip rfl ?_
    refine ev_q rfl (q_pickF rfl (by conv => lhs; whnf) ?_)
    refine ev_q rfl (q_assign (by conv => lhs; whnf) ?_)
    refine ev_nil (hK2 _ ?_); clear hK2
    refine good_ret ?_
    repeat (first | refine thenQ_ret ?_ | refine blockQ_ret ?_)
    refine ret_tmp (st := _) rfl (by conv => lhs; whnf) rfl ?_
    exact fB (by simp only [digit]; grind)
  · replace hb3 := dT hb3
    refine ev_q rfl (q_move (by conv => lhs; whnf) ?_)
    refine ev_q rfl (q_move (by conv => lhs; whnf) ?_)
    refine ev_q rfl (q_int rfl rfl ?_)
    intro b4 hb4; cases b4
    · replace hb4 := dF hb4
      refine ev_q rfl (q_pickT rfl (by conv => lhs; whnf) ?_)
      refine ev_q rfl (q_assign (by conv => lhs; whnf) ?_)
      refine ev_nil (hK2 _ ?_); clear hK2
      refine good_ret ?_
      repeat (first | refine thenQ_ret ?_ | refine blockQ_ret ?_)
      refine ret_tmp (st := _) rfl (by conv => lhs; whnf) rfl ?_
      exact fB (by simp only [digit]; grind)
    · replace hb4 := dT hb4
      refine ev_q rfl (q_pickT rfl (by conv => lhs; whnf) ?_)
      refine ev_q rfl (q_assign (by conv => lhs; whnf) ?_)
      refine ev_nil (hK2 _ ?_); clear hK2
      refine good_ret ?_
      repeat (first | refine thenQ_ret ?_ | refine blockQ_ret ?_)
      refine ret_tmp (st := _) rfl (by conv => lhs; whnf) rfl ?_
      exact fB (by simp only [digit]; grind)

-- impl.onlyNameBytes
set_option maxRecDepth 20000 in
set_option maxHeartbeats 8000000 in
theorem D_impl_onlyNameBytes (s : ByteArray) (hs : s.size ≤ 140737488351232) : Den Try.prog 158 [.s (.string s)] (.s (.bool (allNb s))) := by
  refine den_of_good Try.func158 (by decide) rfl (Nat.le_of_ble_eq_true rfl) ?_
  refine good_seq fun K1 hK1 => ?_
  refine good_region rfl ?_
  refine ev_q rfl (q_assign (by conv => lhs; whnf) ?_)
  refine ev_nil (hK1 _ ?_); clear hK1
  refine good_seq fun K2 hK2 => ?_
  refine good_seq fun K3 hK3 => ?_
  refine good_region rfl ?_
  refine ev_q rfl (q_move (by conv => lhs; whnf) ?_)
  refine ev_q rfl (q_lenS tStr9 rfl ?_)
  intro n4 hn4
  refine ev_q rfl (q_move (by conv => lhs; whnf) ?_)
  refine ev_nil (hK3 _ ?_); clear hK3
  refine good_block ?_
  refine good_loop (α := Nat) (fun i => { env := upd (upd (upd ((fun _ => .junk)) 0 (.s (.string s))) 6 (.s (.int .i64 (s.size)))) 7 (.s (.int .i64 i)), H := fun _ => none }) (fun i => i ≤ s.size ∧ ∀ j u, j < i → s[j]? = some u → nbc u = true) (fun i => s.size - i) 0 ?_ ?_ ?_
  · exact ⟨by omega, fun j u hj => by omega⟩
  · refine sub_weak ?_ ?_
    · exact weakH_none _
    · refine weakE_upd ?e7 ?r7 (weakE_upd ?e6 ?r6 (weakE_upd ?e0 ?r0 (weakE_junk _ _)))
      case e0 => first | rfl | exact fI (by omega) | (simp_all)
      case r0 => intro h hh; cases hh
      case e6 => first | rfl | exact fI (by omega) | (simp_all)
      case r6 => intro h hh; cases hh
      case e7 => first | rfl | exact fI (by omega) | (simp_all)
      case r7 => intro h hh; cases hh
  · rintro i ⟨hI, hJ⟩
    refine good_seq fun K5 hK5 => ?_
    refine good_region rfl ?_
    refine ev_q rfl (q_int rfl rfl ?_)
    intro b6 hb6; cases b6
    · replace hb6 := dF hb6
      refine ev_nil (hK5 _ ?_); clear hK5
      refine good_seq fun K7 hK7 => ?_
      refine good_condF rfl ?_
      refine good_exit ?_
      repeat (first | refine thenQ_exit ?_ | refine blockQ_pass rfl ?_)
      refine blockQ_exit (hK2 _ ?_); clear hK2
      refine good_seq fun K8 hK8 => ?_
      refine good_region rfl ?_
      refine ev_q rfl (q_assign (by conv => lhs; whnf) ?_)
      refine ev_nil (hK8 _ ?_); clear hK8
      refine good_ret ?_
      repeat (first | refine thenQ_ret ?_ | refine blockQ_ret ?_)
      refine ret_tmp (st := _) rfl (by conv => lhs; whnf) rfl ?_
      clear hK7
      first | exact fB (allNb_T (fun j u hj => hJ j u (by omega))).symm | exact fB (allNb_F hu (by simp only [nbc, small, digit]; grind)).symm
    · replace hb6 := dT hb6
      obtain ⟨u, hu⟩ := getB (s := s) (i := i) (by omega)
      refine ev_nil (hK5 _ ?_); clear hK5
      refine good_seq fun K9 hK9 => ?_
      refine good_condT rfl ?_
      refine good_skip (hK9 _ ?_); clear hK9
      refine good_seq fun K10 hK10 => ?_
      refine good_block ?_
      refine good_seq fun K11 hK11 => ?_
      refine good_region rfl ?_
      refine ev_q rfl (q_move (by conv => lhs; whnf) ?_)
      refine ev_q rfl (q_assign (by conv => lhs; whnf) ?_)
      refine ev_nil (hK11 _ ?_); clear hK11
      refine good_seq fun K12 hK12 => ?_
      refine good_region rfl ?_
      refine ev_q rfl (q_move (by conv => lhs; whnf) ?_)
      refine ev_q rfl (q_move (by conv => lhs; whnf) ?_)
      refine ev_q rfl (q_indexS tStr9 rfl rfl (by exact Int.natCast_nonneg _) (by exact hu) ?_)
      intro n13 hn13
      refine ev_q rfl (q_assign (by conv => lhs; whnf) ?_)
      refine ev_nil (hK12 _ ?_); clear hK12
      refine good_seq fun K14 hK14 => ?_
      refine good_region rfl ?_
      refine ev_q rfl (q_move (by conv => lhs; whnf) ?_)
      refine ev_q rfl (q_int rfl rfl ?_)
      intro b15 hb15; cases b15
      · replace hb15 := dF hb15
        refine ev_q rfl (q_move (by conv => lhs; whnf) ?_)
        refine ev_q rfl (q_move (by conv => lhs; whnf) ?_)
        refine ev_q rfl (q_int rfl rfl ?_)
        intro b16 hb16; cases b16
        · replace hb16 := dF hb16
          refine ev_q rfl (q_pickF rfl (by conv => lhs; whnf) ?_)
          refine ev_q rfl (q_move (by conv => lhs; whnf) ?_)
          refine ev_skip rfl ?_
          refine ev_skip rfl ?_
          refine ev_skip rfl ?_
          refine ev_skip rfl ?_
          refine ev_skip rfl ?_
          refine ev_skip rfl ?_
          refine ev_q rfl (q_pickF rfl (by conv => lhs; whnf) ?_)
          refine ev_nil (hK14 _ ?_); clear hK14
          refine good_condF rfl ?_
          refine good_skip (hK10 _ ?_); clear hK10
          refine good_region rfl ?_
          refine ev_q rfl (q_int rfl rfl ?_)
          intro n17 hn17
          replace hn17 := in64 hn17 (by omega) (by omega)
          refine ev_q rfl (q_move (by conv => lhs; whnf) ?_)
          refine ev_nil ?_
          clear hK2
          refine ⟨i + 1, ?_, ?_, ?_⟩
          · refine ⟨by omega, fun j v hj hv => ?_⟩
            by_cases hji : j = i
            · subst hji; rw [hu] at hv; cases hv; simp only [nbc, small, digit] at *; grind
            · exact hJ j v (by omega) hv
          · first | omega | (simp only []; omega) | (dsimp only; omega)
          · refine sub_weak ?_ ?_
            · exact weakH_none _
            · refine weakE_upd ?e7 ?r7 (weakE_upd ?e6 ?r6 (weakE_upd ?e0 ?r0 (weakE_junk _ _)))
              case e0 => first | rfl | exact fI (by omega) | (simp_all)
              case r0 => intro h hh; cases hh
              case e6 => first | rfl | exact fI (by omega) | (simp_all)
              case r6 => intro h hh; cases hh
              case e7 => first | rfl | exact fI (by omega) | (simp_all)
              case r7 => intro h hh; cases hh
        · replace hb16 := dT hb16
          refine ev_q rfl (q_pickF rfl (by conv => lhs; whnf) ?_)
          refine ev_q rfl (q_move (by conv => lhs; whnf) ?_)
          refine ev_q rfl (q_move (by conv => lhs; whnf) ?_)
          refine ev_q rfl (q_int rfl rfl ?_)
          intro b18 hb18; cases b18
          · replace hb18 := dF hb18
            refine ev_q rfl (q_move (by conv => lhs; whnf) ?_)
            refine ev_q rfl (q_move (by conv => lhs; whnf) ?_)
            refine ev_q rfl (q_int rfl rfl ?_)
            intro b19 hb19; cases b19
            · replace hb19 := dF hb19
              refine ev_q rfl (q_pickF rfl (by conv => lhs; whnf) ?_)
              refine ev_q rfl (q_pickT rfl (by conv => lhs; whnf) ?_)
              refine ev_nil (hK14 _ ?_); clear hK14
              refine good_condF rfl ?_
              refine good_skip (hK10 _ ?_); clear hK10
              refine good_region rfl ?_
              refine ev_q rfl (q_int rfl rfl ?_)
              intro n20 hn20
              replace hn20 := in64 hn20 (by omega) (by omega)
              refine ev_q rfl (q_move (by conv => lhs; whnf) ?_)
              refine ev_nil ?_
              clear hK2
              refine ⟨i + 1, ?_, ?_, ?_⟩
              · refine ⟨by omega, fun j v hj hv => ?_⟩
                by_cases hji : j = i
                · subst hji; rw [hu] at hv; cases hv; simp only [nbc, small, digit] at *; grind
                · exact hJ j v (by omega) hv
              · first | omega | (simp only []; omega) | (dsimp only; omega)
              · refine sub_weak ?_ ?_
                · exact weakH_none _
                · refine weakE_upd ?e7 ?r7 (weakE_upd ?e6 ?r6 (weakE_upd ?e0 ?r0 (weakE_junk _ _)))
                  case e0 => first | rfl | exact fI (by omega) | (simp_all)
                  case r0 => intro h hh; cases hh
                  case e6 => first | rfl | exact fI (by omega) | (simp_all)
                  case r6 => intro h hh; cases hh
                  case e7 => first | rfl | exact fI (by omega) | (simp_all)
                  case r7 => intro h hh; cases hh
            · replace hb19 := dT hb19
              refine ev_q rfl (q_pickF rfl (by conv => lhs; whnf) ?_)
              refine ev_q rfl (q_pickT rfl (by conv => lhs; whnf) ?_)
              refine ev_nil (hK14 _ ?_); clear hK14
              refine good_condT rfl ?_
              refine good_seq fun K21 hK21 => ?_
              refine good_region rfl ?_
              refine ev_q rfl (q_assign (by conv => lhs; whnf) ?_)
              refine ev_nil (hK21 _ ?_); clear hK21
              refine good_ret ?_
              repeat (first | refine thenQ_ret ?_ | refine blockQ_ret ?_)
              refine ret_tmp (st := _) rfl (by conv => lhs; whnf) rfl ?_
              clear hK2 hK10
              first | exact fB (allNb_T (fun j u hj => hJ j u (by omega))).symm | exact fB (allNb_F hu (by simp only [nbc, small, digit]; grind)).symm
          · replace hb18 := dT hb18
            refine ev_q rfl (q_move (by conv => lhs; whnf) ?_)
            refine ev_skip rfl ?_
            refine ev_skip rfl ?_
            refine ev_q rfl (q_pickT rfl (by conv => lhs; whnf) ?_)
            refine ev_q rfl (q_pickT rfl (by conv => lhs; whnf) ?_)
            refine ev_nil (hK14 _ ?_); clear hK14
            refine good_condT rfl ?_
            refine good_seq fun K22 hK22 => ?_
            refine good_region rfl ?_
            refine ev_q rfl (q_assign (by conv => lhs; whnf) ?_)
            refine ev_nil (hK22 _ ?_); clear hK22
            refine good_ret ?_
            repeat (first | refine thenQ_ret ?_ | refine blockQ_ret ?_)
            refine ret_tmp (st := _) rfl (by conv => lhs; whnf) rfl ?_
            clear hK2 hK10
            first | exact fB (allNb_T (fun j u hj => hJ j u (by omega))).symm | exact fB (allNb_F hu (by simp only [nbc, small, digit]; grind)).symm
      · replace hb15 := dT hb15
        refine ev_q rfl (q_move (by conv => lhs; whnf) ?_)
        refine ev_skip rfl ?_
        refine ev_skip rfl ?_
        refine ev_q rfl (q_pickT rfl (by conv => lhs; whnf) ?_)
        refine ev_q rfl (q_move (by conv => lhs; whnf) ?_)
        refine ev_q rfl (q_move (by conv => lhs; whnf) ?_)
        refine ev_q rfl (q_int rfl rfl ?_)
        intro b23 hb23; cases b23
        · replace hb23 := dF hb23
          refine ev_q rfl (q_move (by conv => lhs; whnf) ?_)
          refine ev_q rfl (q_move (by conv => lhs; whnf) ?_)
          refine ev_q rfl (q_int rfl rfl ?_)
          intro b24 hb24; cases b24
          · replace hb24 := dF hb24
            refine ev_q rfl (q_pickF rfl (by conv => lhs; whnf) ?_)
            refine ev_q rfl (q_pickT rfl (by conv => lhs; whnf) ?_)
            refine ev_nil (hK14 _ ?_); clear hK14
            refine good_condF rfl ?_
            refine good_skip (hK10 _ ?_); clear hK10
            refine good_region rfl ?_
            refine ev_q rfl (q_int rfl rfl ?_)
            intro n25 hn25
            replace hn25 := in64 hn25 (by omega) (by omega)
            refine ev_q rfl (q_move (by conv => lhs; whnf) ?_)
            refine ev_nil ?_
            clear hK2
            refine ⟨i + 1, ?_, ?_, ?_⟩
            · refine ⟨by omega, fun j v hj hv => ?_⟩
              by_cases hji : j = i
              · subst hji; rw [hu] at hv; cases hv; simp only [nbc, small, digit] at *; grind
              · exact hJ j v (by omega) hv
            · first | omega | (simp only []; omega) | (dsimp only; omega)
            · refine sub_weak ?_ ?_
              · exact weakH_none _
              · refine weakE_upd ?e7 ?r7 (weakE_upd ?e6 ?r6 (weakE_upd ?e0 ?r0 (weakE_junk _ _)))
                case e0 => first | rfl | exact fI (by omega) | (simp_all)
                case r0 => intro h hh; cases hh
                case e6 => first | rfl | exact fI (by omega) | (simp_all)
                case r6 => intro h hh; cases hh
                case e7 => first | rfl | exact fI (by omega) | (simp_all)
                case r7 => intro h hh; cases hh
          · replace hb24 := dT hb24
            refine ev_q rfl (q_pickF rfl (by conv => lhs; whnf) ?_)
            refine ev_q rfl (q_pickT rfl (by conv => lhs; whnf) ?_)
            refine ev_nil (hK14 _ ?_); clear hK14
            refine good_condT rfl ?_
            refine good_seq fun K26 hK26 => ?_
            refine good_region rfl ?_
            refine ev_q rfl (q_assign (by conv => lhs; whnf) ?_)
            refine ev_nil (hK26 _ ?_); clear hK26
            refine good_ret ?_
            repeat (first | refine thenQ_ret ?_ | refine blockQ_ret ?_)
            refine ret_tmp (st := _) rfl (by conv => lhs; whnf) rfl ?_
            clear hK2 hK10
            first | exact fB (allNb_T (fun j u hj => hJ j u (by omega))).symm | exact fB (allNb_F hu (by simp only [nbc, small, digit]; grind)).symm
        · replace hb23 := dT hb23
          refine ev_q rfl (q_move (by conv => lhs; whnf) ?_)
          refine ev_skip rfl ?_
          refine ev_skip rfl ?_
          refine ev_q rfl (q_pickT rfl (by conv => lhs; whnf) ?_)
          refine ev_q rfl (q_pickT rfl (by conv => lhs; whnf) ?_)
          refine ev_nil (hK14 _ ?_); clear hK14
          refine good_condT rfl ?_
          refine good_seq fun K27 hK27 => ?_
          refine good_region rfl ?_
          refine ev_q rfl (q_assign (by conv => lhs; whnf) ?_)
          refine ev_nil (hK27 _ ?_); clear hK27
          refine good_ret ?_
          repeat (first | refine thenQ_ret ?_ | refine blockQ_ret ?_)
          refine ret_tmp (st := _) rfl (by conv => lhs; whnf) rfl ?_
          clear hK2 hK10
          first | exact fB (allNb_T (fun j u hj => hJ j u (by omega))).symm | exact fB (allNb_F hu (by simp only [nbc, small, digit]; grind)).symm

-- impl.IsName
set_option maxRecDepth 20000 in
set_option maxHeartbeats 8000000 in
theorem D_impl_IsName (s : ByteArray) (hs : s.size ≤ 140737488351232) : Den Try.prog 120 [.s (.string s)] (.s (.bool (isName s))) := by
  refine den_of_good Try.func120 (by decide) rfl (Nat.le_of_ble_eq_true rfl) ?_
  refine good_seq fun K1 hK1 => ?_
  refine good_region rfl ?_
  refine ev_q rfl (q_assign (by conv => lhs; whnf) ?_)
  refine ev_nil (hK1 _ ?_); clear hK1
  refine good_seq fun K2 hK2 => ?_
  refine good_seq fun K3 hK3 => ?_
  refine good_region rfl ?_
  refine ev_q rfl (q_move (by conv => lhs; whnf) ?_)
  refine ev_q rfl (q_lenS tStr9 rfl ?_)
  intro n4 hn4
  refine ev_q rfl (q_int rfl rfl ?_)
  intro b5 hb5; cases b5
  · replace hb5 := dF hb5
    refine ev_q rfl (q_move (by conv => lhs; whnf) ?_)
    refine ev_q rfl (q_move (by conv => lhs; whnf) ?_)
    refine ev_q rfl (q_lenS tStr9 rfl ?_)
    intro n6 hn6
    refine ev_q rfl (q_int rfl rfl ?_)
    intro b7 hb7; cases b7
    · replace hb7 := dF hb7
      obtain ⟨u, hu⟩ := getB (s := s) (i := 0) (by omega)
      refine ev_q rfl (q_pickF rfl (by conv => lhs; whnf) ?_)
      refine ev_q rfl (q_move (by conv => lhs; whnf) ?_)
      refine ev_q rfl (q_move (by conv => lhs; whnf) ?_)
      refine ev_q rfl (q_indexS tStr9 rfl rfl (by decide) (by exact hu) ?_)
      intro n8 hn8
      refine ev_q rfl (q_int rfl rfl ?_)
      intro b9 hb9; cases b9
      · replace hb9 := dF hb9
        refine ev_q rfl (q_pickF rfl (by conv => lhs; whnf) ?_)
        refine ev_q rfl (q_move (by conv => lhs; whnf) ?_)
        refine ev_q rfl (q_move (by conv => lhs; whnf) ?_)
        refine ev_q rfl (q_indexS tStr9 rfl rfl (by decide) (by exact hu) ?_)
        intro n10 hn10
        refine ev_q rfl (q_int rfl rfl ?_)
        intro b11 hb11; cases b11
        · replace hb11 := dF hb11
          refine ev_q rfl (q_pickF rfl (by conv => lhs; whnf) ?_)
          refine ev_nil (hK3 _ ?_); clear hK3
          refine good_condF rfl ?_
          refine good_skip (hK2 _ ?_); clear hK2
          refine good_seq fun K12 hK12 => ?_
          refine good_region rfl ?_
          refine ev_q rfl (q_move (by conv => lhs; whnf) ?_)
          refine ev_q rfl (q_callB rfl rfl rfl (D_impl_onlyNameBytes _ hs) ?_)
          intro b13 hb13; cases b13
          · first | replace hb13 := dF hb13 | skip
            refine ev_q rfl (q_assign (by conv => lhs; whnf) ?_)
            refine ev_nil (hK12 _ ?_); clear hK12
            refine good_ret ?_
            repeat (first | refine thenQ_ret ?_ | refine blockQ_ret ?_)
            refine ret_tmp (st := _) rfl (by conv => lhs; whnf) rfl ?_
            first | exact fB (isName_none (by omega)).symm | exact fB (isName_long (by omega)).symm | exact fB (isName_head hu (by simp only [small]; grind)).symm | (exact fB (by rw [isName_eq (by omega) (by omega) hu (by simp only [small]; grind)]; grind))
          · first | replace hb13 := dT hb13 | skip
            refine ev_q rfl (q_assign (by conv => lhs; whnf) ?_)
            refine ev_nil (hK12 _ ?_); clear hK12
            refine good_ret ?_
            repeat (first | refine thenQ_ret ?_ | refine blockQ_ret ?_)
            refine ret_tmp (st := _) rfl (by conv => lhs; whnf) rfl ?_
            first | exact fB (isName_none (by omega)).symm | exact fB (isName_long (by omega)).symm | exact fB (isName_head hu (by simp only [small]; grind)).symm | (exact fB (by rw [isName_eq (by omega) (by omega) hu (by simp only [small]; grind)]; grind))
        · replace hb11 := dT hb11
          refine ev_q rfl (q_pickF rfl (by conv => lhs; whnf) ?_)
          refine ev_nil (hK3 _ ?_); clear hK3
          refine good_condT rfl ?_
          refine good_seq fun K14 hK14 => ?_
          refine good_region rfl ?_
          refine ev_q rfl (q_assign (by conv => lhs; whnf) ?_)
          refine ev_nil (hK14 _ ?_); clear hK14
          refine good_ret ?_
          repeat (first | refine thenQ_ret ?_ | refine blockQ_ret ?_)
          refine ret_tmp (st := _) rfl (by conv => lhs; whnf) rfl ?_
          clear hK2
          first | exact fB (isName_none (by omega)).symm | exact fB (isName_long (by omega)).symm | exact fB (isName_head hu (by simp only [small]; grind)).symm | (exact fB (by rw [isName_eq (by omega) (by omega) hu (by simp only [small]; grind)]; grind))
      · replace hb9 := dT hb9
        refine ev_q rfl (q_pickF rfl (by conv => lhs; whnf) ?_)
        refine ev_q rfl (q_move (by conv => lhs; whnf) ?_)
        refine ev_skip rfl ?_
        refine ev_skip rfl ?_
        refine ev_skip rfl ?_
        refine ev_q rfl (q_pickT rfl (by conv => lhs; whnf) ?_)
        refine ev_nil (hK3 _ ?_); clear hK3
        refine good_condT rfl ?_
        refine good_seq fun K15 hK15 => ?_
        refine good_region rfl ?_
        refine ev_q rfl (q_assign (by conv => lhs; whnf) ?_)
        refine ev_nil (hK15 _ ?_); clear hK15
        refine good_ret ?_
        repeat (first | refine thenQ_ret ?_ | refine blockQ_ret ?_)
        refine ret_tmp (st := _) rfl (by conv => lhs; whnf) rfl ?_
        clear hK2
        first | exact fB (isName_none (by omega)).symm | exact fB (isName_long (by omega)).symm | exact fB (isName_head hu (by simp only [small]; grind)).symm | (exact fB (by rw [isName_eq (by omega) (by omega) hu (by simp only [small]; grind)]; grind))
    · replace hb7 := dT hb7
      refine ev_q rfl (q_pickF rfl (by conv => lhs; whnf) ?_)
      refine ev_q rfl (q_move (by conv => lhs; whnf) ?_)
      refine ev_skip rfl ?_
      refine ev_skip rfl ?_
      refine ev_skip rfl ?_
      refine ev_q rfl (q_pickT rfl (by conv => lhs; whnf) ?_)
      refine ev_q rfl (q_move (by conv => lhs; whnf) ?_)
      refine ev_skip rfl ?_
      refine ev_skip rfl ?_
      refine ev_skip rfl ?_
      refine ev_q rfl (q_pickT rfl (by conv => lhs; whnf) ?_)
      refine ev_nil (hK3 _ ?_); clear hK3
      refine good_condT rfl ?_
      refine good_seq fun K16 hK16 => ?_
      refine good_region rfl ?_
      refine ev_q rfl (q_assign (by conv => lhs; whnf) ?_)
      refine ev_nil (hK16 _ ?_); clear hK16
      refine good_ret ?_
      repeat (first | refine thenQ_ret ?_ | refine blockQ_ret ?_)
      refine ret_tmp (st := _) rfl (by conv => lhs; whnf) rfl ?_
      clear hK2
      first | exact fB (isName_none (by omega)).symm | exact fB (isName_long (by omega)).symm | exact fB (isName_head hu (by simp only [small]; grind)).symm | (exact fB (by rw [isName_eq (by omega) (by omega) hu (by simp only [small]; grind)]; grind))
  · replace hb5 := dT hb5
    refine ev_q rfl (q_move (by conv => lhs; whnf) ?_)
    refine ev_skip rfl ?_
    refine ev_skip rfl ?_
    refine ev_skip rfl ?_
    refine ev_q rfl (q_pickT rfl (by conv => lhs; whnf) ?_)
    refine ev_q rfl (q_move (by conv => lhs; whnf) ?_)
    refine ev_skip rfl ?_
    refine ev_skip rfl ?_
    refine ev_skip rfl ?_
    refine ev_q rfl (q_pickT rfl (by conv => lhs; whnf) ?_)
    refine ev_q rfl (q_move (by conv => lhs; whnf) ?_)
    refine ev_skip rfl ?_
    refine ev_skip rfl ?_
    refine ev_skip rfl ?_
    refine ev_q rfl (q_pickT rfl (by conv => lhs; whnf) ?_)
    refine ev_nil (hK3 _ ?_); clear hK3
    refine good_condT rfl ?_
    refine good_seq fun K17 hK17 => ?_
    refine good_region rfl ?_
    refine ev_q rfl (q_assign (by conv => lhs; whnf) ?_)
    refine ev_nil (hK17 _ ?_); clear hK17
    refine good_ret ?_
    repeat (first | refine thenQ_ret ?_ | refine blockQ_ret ?_)
    refine ret_tmp (st := _) rfl (by conv => lhs; whnf) rfl ?_
    clear hK2
    first | exact fB (isName_none (by omega)).symm | exact fB (isName_long (by omega)).symm | exact fB (isName_head hu (by simp only [small]; grind)).symm | (exact fB (by rw [isName_eq (by omega) (by omega) hu (by simp only [small]; grind)]; grind))

-- spec.l01Name
set_option maxRecDepth 20000 in
set_option maxHeartbeats 8000000 in
theorem D_spec_l01Name (s : ByteArray) (hs : s.size ≤ 140737488351232) : Den Try.prog 119 [.s (.string s)] (.s (.bool (isName s))) := by
  refine den_of_good Try.func119 (by decide) rfl (Nat.le_of_ble_eq_true rfl) ?_
  refine good_seq fun K1 hK1 => ?_
  refine good_region rfl ?_
  refine ev_q rfl (q_assign (by conv => lhs; whnf) ?_)
  refine ev_nil (hK1 _ ?_); clear hK1
  refine good_seq fun K2 hK2 => ?_
  refine good_seq fun K3 hK3 => ?_
  refine good_region rfl ?_
  refine ev_q rfl (q_move (by conv => lhs; whnf) ?_)
  refine ev_q rfl (q_str rfl rfl ?_)
  intro b4 hb4; cases b4
  · replace hb4 := seF hb4
    have hz : 1 ≤ s.size := by
      apply Classical.byContradiction; intro hc; exact hb4 (size0 (by omega))
    refine ev_q rfl (q_move (by conv => lhs; whnf) ?_)
    refine ev_q rfl (q_move (by conv => lhs; whnf) ?_)
    refine ev_q rfl (q_lenS tStr9 rfl ?_)
    intro n5 hn5
    refine ev_q rfl (q_int rfl rfl ?_)
    intro b6 hb6; cases b6
    · replace hb6 := dF hb6
      obtain ⟨u0, hu0⟩ := getB (s := s) (i := 0) (by omega)
      refine ev_q rfl (q_pickF rfl (by conv => lhs; whnf) ?_)
      refine ev_q rfl (q_move (by conv => lhs; whnf) ?_)
      refine ev_q rfl (q_move (by conv => lhs; whnf) ?_)
      refine ev_q rfl (q_indexS tStr9 rfl rfl (by first | exact Int.natCast_nonneg _ | decide) (by first | exact hu0 | exact hu) ?_)
      intro n7 hn7
      subst hn7
      refine ev_q rfl (q_callB rfl rfl rfl (D_spec_l01Small ..) ?_)
      intro b8 hb8; cases b8
      · first | replace hb8 := dF hb8 | skip
        refine ev_q rfl (q_not rfl rfl ?_)
        refine ev_q rfl (q_pickF rfl (by conv => lhs; whnf) ?_)
        refine ev_nil (hK3 _ ?_); clear hK3
        refine good_condT rfl ?_
        refine good_seq fun K9 hK9 => ?_
        refine good_region rfl ?_
        refine ev_q rfl (q_assign (by conv => lhs; whnf) ?_)
        refine ev_nil (hK9 _ ?_); clear hK9
        refine good_ret ?_
        repeat (first | refine thenQ_ret ?_ | refine blockQ_ret ?_)
        refine ret_tmp (st := _) rfl (by conv => lhs; whnf) rfl ?_
        clear hK2
        first | exact fB (by rw [hb4]; rfl) | exact fB (isName_long (by omega)).symm | exact fB (isName_head hu0 (by simp only [small]; grind)).symm | exact fB (by rw [isName_eq (by omega) (by omega) hu0 (by simp only [small]; grind)]; exact (allNb_T (fun j u hj => hJ j u (by omega))).symm) | exact fB (by rw [isName_eq (by omega) (by omega) hu0 (by simp only [small]; grind)]; exact (allNb_F hu (by simp only [nbc, small, digit]; grind)).symm)
      · first | replace hb8 := dT hb8 | skip
        refine ev_q rfl (q_not rfl rfl ?_)
        refine ev_q rfl (q_pickF rfl (by conv => lhs; whnf) ?_)
        refine ev_nil (hK3 _ ?_); clear hK3
        refine good_condF rfl ?_
        refine good_skip (hK2 _ ?_); clear hK2
        refine good_seq fun K10 hK10 => ?_
        refine good_seq fun K11 hK11 => ?_
        refine good_region rfl ?_
        refine ev_q rfl (q_assign (by conv => lhs; whnf) ?_)
        refine ev_nil (hK11 _ ?_); clear hK11
        refine good_block ?_
        refine good_loop (α := Nat) (fun i => { env := upd (upd ((fun _ => .junk)) 0 (.s (.string s))) 3 (.s (.int .i64 i)), H := fun _ => none }) (fun i => i ≤ s.size ∧ ∀ j u, j < i → s[j]? = some u → nbc u = true) (fun i => s.size - i) 0 ?_ ?_ ?_
        · exact ⟨by omega, fun j u hj => by omega⟩
        · refine sub_weak ?_ ?_
          · exact weakH_none _
          · refine weakE_upd ?e3 ?r3 (weakE_upd ?e0 ?r0 (weakE_junk _ _))
            case e0 => first | rfl | exact fI (by omega) | (simp_all)
            case r0 => intro h hh; cases hh
            case e3 => first | rfl | exact fI (by omega) | (simp_all)
            case r3 => intro h hh; cases hh
        · rintro i ⟨hI, hJ⟩
          refine good_seq fun K12 hK12 => ?_
          refine good_seq fun K13 hK13 => ?_
          refine good_region rfl ?_
          refine ev_q rfl (q_move (by conv => lhs; whnf) ?_)
          refine ev_q rfl (q_move (by conv => lhs; whnf) ?_)
          refine ev_q rfl (q_lenS tStr9 rfl ?_)
          intro n14 hn14
          refine ev_q rfl (q_int rfl rfl ?_)
          intro b15 hb15; cases b15
          · replace hb15 := dF hb15
            refine ev_nil (hK13 _ ?_); clear hK13
            refine good_condF rfl ?_
            refine good_exit ?_
            repeat (first | refine thenQ_exit ?_ | refine blockQ_pass rfl ?_)
            refine blockQ_exit (hK10 _ ?_); clear hK10
            refine good_seq fun K16 hK16 => ?_
            refine good_region rfl ?_
            refine ev_q rfl (q_assign (by conv => lhs; whnf) ?_)
            refine ev_nil (hK16 _ ?_); clear hK16
            refine good_ret ?_
            repeat (first | refine thenQ_ret ?_ | refine blockQ_ret ?_)
            refine ret_tmp (st := _) rfl (by conv => lhs; whnf) rfl ?_
            clear hK12
            first | exact fB (by rw [hb4]; rfl) | exact fB (isName_long (by omega)).symm | exact fB (isName_head hu0 (by simp only [small]; grind)).symm | exact fB (by rw [isName_eq (by omega) (by omega) hu0 (by simp only [small]; grind)]; exact (allNb_T (fun j u hj => hJ j u (by omega))).symm) | exact fB (by rw [isName_eq (by omega) (by omega) hu0 (by simp only [small]; grind)]; exact (allNb_F hu (by simp only [nbc, small, digit]; grind)).symm)
          · replace hb15 := dT hb15
            obtain ⟨u, hu⟩ := getB (s := s) (i := i) (by omega)
            refine ev_nil (hK13 _ ?_); clear hK13
            refine good_condT rfl ?_
            refine good_skip (hK12 _ ?_); clear hK12
            refine good_seq fun K17 hK17 => ?_
            refine good_block ?_
            refine good_seq fun K18 hK18 => ?_
            refine good_region rfl ?_
            refine ev_q rfl (q_move (by conv => lhs; whnf) ?_)
            refine ev_q rfl (q_move (by conv => lhs; whnf) ?_)
            refine ev_q rfl (q_indexS tStr9 rfl rfl (by first | exact Int.natCast_nonneg _ | decide) (by first | exact hu0 | exact hu) ?_)
            intro n19 hn19
            subst hn19
            refine ev_q rfl (q_callB rfl rfl rfl (D_spec_l01Small ..) ?_)
            intro b20 hb20; cases b20
            · first | replace hb20 := dF hb20 | skip
              refine ev_q rfl (q_not rfl rfl ?_)
              refine ev_q rfl (q_move (by conv => lhs; whnf) ?_)
              refine ev_q rfl (q_move (by conv => lhs; whnf) ?_)
              refine ev_q rfl (q_move (by conv => lhs; whnf) ?_)
              refine ev_q rfl (q_indexS tStr9 rfl rfl (by first | exact Int.natCast_nonneg _ | decide) (by first | exact hu0 | exact hu) ?_)
              intro n21 hn21
              subst hn21
              refine ev_q rfl (q_callB rfl rfl rfl (D_spec_l01Digit ..) ?_)
              intro b22 hb22; cases b22
              · first | replace hb22 := dF hb22 | skip
                refine ev_q rfl (q_not rfl rfl ?_)
                refine ev_q rfl (q_pickT rfl (by conv => lhs; whnf) ?_)
                refine ev_nil (hK18 _ ?_); clear hK18
                refine good_condT rfl ?_
                refine good_seq fun K23 hK23 => ?_
                refine good_region rfl ?_
                refine ev_q rfl (q_assign (by conv => lhs; whnf) ?_)
                refine ev_nil (hK23 _ ?_); clear hK23
                refine good_ret ?_
                repeat (first | refine thenQ_ret ?_ | refine blockQ_ret ?_)
                refine ret_tmp (st := _) rfl (by conv => lhs; whnf) rfl ?_
                clear hK10 hK17
                first | exact fB (by rw [hb4]; rfl) | exact fB (isName_long (by omega)).symm | exact fB (isName_head hu0 (by simp only [small]; grind)).symm | exact fB (by rw [isName_eq (by omega) (by omega) hu0 (by simp only [small]; grind)]; exact (allNb_T (fun j u hj => hJ j u (by omega))).symm) | exact fB (by rw [isName_eq (by omega) (by omega) hu0 (by simp only [small]; grind)]; exact (allNb_F hu (by simp only [nbc, small, digit]; grind)).symm)
              · first | replace hb22 := dT hb22 | skip
                refine ev_q rfl (q_not rfl rfl ?_)
                refine ev_q rfl (q_pickT rfl (by conv => lhs; whnf) ?_)
                refine ev_nil (hK18 _ ?_); clear hK18
                refine good_condF rfl ?_
                refine good_skip (hK17 _ ?_); clear hK17
                refine good_region rfl ?_
                refine ev_q rfl (q_move (by conv => lhs; whnf) ?_)
                refine ev_q rfl (q_int rfl rfl ?_)
                intro n24 hn24
                replace hn24 := in64 hn24 (by omega) (by omega)
                refine ev_q rfl (q_assign (by conv => lhs; whnf) ?_)
                refine ev_nil ?_
                clear hK10
                refine ⟨i + 1, ?_, ?_, ?_⟩
                · refine ⟨by omega, fun j v hj hv => ?_⟩
                  by_cases hji : j = i
                  · subst hji; rw [hu] at hv; cases hv; simp only [nbc, small, digit] at *; grind
                  · exact hJ j v (by omega) hv
                · first | omega | (simp only []; omega) | (dsimp only; omega)
                · refine sub_weak ?_ ?_
                  · exact weakH_none _
                  · refine weakE_upd ?e3 ?r3 (weakE_upd ?e0 ?r0 (weakE_junk _ _))
                    case e0 => first | rfl | exact fI (by omega) | (simp_all)
                    case r0 => intro h hh; cases hh
                    case e3 => first | rfl | exact fI (by omega) | (simp_all)
                    case r3 => intro h hh; cases hh
            · first | replace hb20 := dT hb20 | skip
              refine ev_q rfl (q_not rfl rfl ?_)
              refine ev_q rfl (q_move (by conv => lhs; whnf) ?_)
              refine ev_skip rfl ?_
              refine ev_skip rfl ?_
              refine ev_skip rfl ?_
              refine ev_skip rfl ?_
              refine ev_skip rfl ?_
              refine ev_q rfl (q_pickF rfl (by conv => lhs; whnf) ?_)
              refine ev_nil (hK18 _ ?_); clear hK18
              refine good_condF rfl ?_
              refine good_skip (hK17 _ ?_); clear hK17
              refine good_region rfl ?_
              refine ev_q rfl (q_move (by conv => lhs; whnf) ?_)
              refine ev_q rfl (q_int rfl rfl ?_)
              intro n25 hn25
              replace hn25 := in64 hn25 (by omega) (by omega)
              refine ev_q rfl (q_assign (by conv => lhs; whnf) ?_)
              refine ev_nil ?_
              clear hK10
              refine ⟨i + 1, ?_, ?_, ?_⟩
              · refine ⟨by omega, fun j v hj hv => ?_⟩
                by_cases hji : j = i
                · subst hji; rw [hu] at hv; cases hv; simp only [nbc, small, digit] at *; grind
                · exact hJ j v (by omega) hv
              · first | omega | (simp only []; omega) | (dsimp only; omega)
              · refine sub_weak ?_ ?_
                · exact weakH_none _
                · refine weakE_upd ?e3 ?r3 (weakE_upd ?e0 ?r0 (weakE_junk _ _))
                  case e0 => first | rfl | exact fI (by omega) | (simp_all)
                  case r0 => intro h hh; cases hh
                  case e3 => first | rfl | exact fI (by omega) | (simp_all)
                  case r3 => intro h hh; cases hh
    · replace hb6 := dT hb6
      refine ev_q rfl (q_pickF rfl (by conv => lhs; whnf) ?_)
      refine ev_q rfl (q_move (by conv => lhs; whnf) ?_)
      refine ev_skip rfl ?_
      refine ev_skip rfl ?_
      refine ev_skip rfl ?_
      refine ev_skip rfl ?_
      refine ev_q rfl (q_pickT rfl (by conv => lhs; whnf) ?_)
      refine ev_nil (hK3 _ ?_); clear hK3
      refine good_condT rfl ?_
      refine good_seq fun K26 hK26 => ?_
      refine good_region rfl ?_
      refine ev_q rfl (q_assign (by conv => lhs; whnf) ?_)
      refine ev_nil (hK26 _ ?_); clear hK26
      refine good_ret ?_
      repeat (first | refine thenQ_ret ?_ | refine blockQ_ret ?_)
      refine ret_tmp (st := _) rfl (by conv => lhs; whnf) rfl ?_
      clear hK2
      first | exact fB (by rw [hb4]; rfl) | exact fB (isName_long (by omega)).symm | exact fB (isName_head hu0 (by simp only [small]; grind)).symm | exact fB (by rw [isName_eq (by omega) (by omega) hu0 (by simp only [small]; grind)]; exact (allNb_T (fun j u hj => hJ j u (by omega))).symm) | exact fB (by rw [isName_eq (by omega) (by omega) hu0 (by simp only [small]; grind)]; exact (allNb_F hu (by simp only [nbc, small, digit]; grind)).symm)
  · replace hb4 := seT hb4
    refine ev_q rfl (q_move (by conv => lhs; whnf) ?_)
    refine ev_skip rfl ?_
    refine ev_skip rfl ?_
    refine ev_skip rfl ?_
    refine ev_q rfl (q_pickT rfl (by conv => lhs; whnf) ?_)
    refine ev_q rfl (q_move (by conv => lhs; whnf) ?_)
    refine ev_skip rfl ?_
    refine ev_skip rfl ?_
    refine ev_skip rfl ?_
    refine ev_skip rfl ?_
    refine ev_q rfl (q_pickT rfl (by conv => lhs; whnf) ?_)
    refine ev_nil (hK3 _ ?_); clear hK3
    refine good_condT rfl ?_
    refine good_seq fun K27 hK27 => ?_
    refine good_region rfl ?_
    refine ev_q rfl (q_assign (by conv => lhs; whnf) ?_)
    refine ev_nil (hK27 _ ?_); clear hK27
    refine good_ret ?_
    repeat (first | refine thenQ_ret ?_ | refine blockQ_ret ?_)
    refine ret_tmp (st := _) rfl (by conv => lhs; whnf) rfl ?_
    clear hK2
    first | exact fB (by rw [hb4]; rfl) | exact fB (isName_long (by omega)).symm | exact fB (isName_head hu0 (by simp only [small]; grind)).symm | exact fB (by rw [isName_eq (by omega) (by omega) hu0 (by simp only [small]; grind)]; exact (allNb_T (fun j u hj => hJ j u (by omega))).symm) | exact fB (by rw [isName_eq (by omega) (by omega) hu0 (by simp only [small]; grind)]; exact (allNb_F hu (by simp only [nbc, small, digit]; grind)).symm)

-- spec.l01Div
set_option maxRecDepth 20000 in
set_option maxHeartbeats 8000000 in
theorem D_spec_l01Div (a b : Int) (ha : -4000000000000000000 ≤ a ∧ a ≤ 4000000000000000000) (hb : b ≠ 0 ∧ -1000000000000000000 ≤ b ∧ b ≤ 1000000000000000000) : Den Try.prog 67 [.s (.int .i64 a), .s (.int .i64 b)] (.s (.int .i64 (dr a b))) := by
  refine den_of_good Try.func67 (by decide) rfl (Nat.le_of_ble_eq_true rfl) ?_
  refine good_seq fun K1 hK1 => ?_
  refine good_region rfl ?_
  refine ev_q rfl (q_assign (by conv => lhs; whnf) ?_)
  refine ev_nil (hK1 _ ?_); clear hK1
  refine good_seq fun K2 hK2 => ?_
  refine good_seq fun K3 hK3 => ?_
  refine good_region rfl ?_
  refine ev_q rfl (q_move (by conv => lhs; whnf) ?_)
  refine ev_q rfl (q_int rfl rfl ?_)
  intro b4 hb4; cases b4
  · replace hb4 := dF hb4
    refine ev_nil (hK3 _ ?_); clear hK3
    refine good_condF rfl ?_
    refine good_skip (hK2 _ ?_); clear hK2
    refine good_seq fun K5 hK5 => ?_
    refine good_seq fun K6 hK6 => ?_
    refine good_region rfl ?_
    refine ev_q rfl (q_move (by conv => lhs; whnf) ?_)
    refine ev_q rfl (q_int rfl rfl ?_)
    intro b7 hb7; cases b7
    · replace hb7 := dF hb7
      refine ev_nil (hK6 _ ?_); clear hK6
      refine good_condF rfl ?_
      refine good_skip (hK5 _ ?_); clear hK5
      refine good_seq fun K8 hK8 => ?_
      refine good_region rfl ?_
      refine ev_q rfl (q_move (by conv => lhs; whnf) ?_)
      refine ev_q rfl (q_int rfl rfl ?_)
      intro n9 hn9
      replace hn9 := in64 hn9 (by omega) (by omega)
      refine ev_q rfl (q_move (by conv => lhs; whnf) ?_)
      refine ev_q rfl (q_int rfl rfl ?_)
      intro n10 hn10
      replace hn10 := in64 hn10 (by omega) (by omega)
      refine ev_q rfl (q_move (by conv => lhs; whnf) ?_)
      refine ev_q rfl (q_int rfl rfl ?_)
      intro n11 hn11
      replace hn11 := in64 hn11 (by omega) (by omega)
      refine ev_q rfl (q_int rfl rfl ⟨by omega, ?_⟩)
      intro n12 hn12
      first | replace hn12 := quoE hn12 (by omega) (by omega) | replace hn12 := quoT hn12 (by omega) (by omega)
      refine ev_q rfl (q_assign (by conv => lhs; whnf) ?_)
      refine ev_nil (hK8 _ ?_); clear hK8
      refine good_ret ?_
      repeat (first | refine thenQ_ret ?_ | refine blockQ_ret ?_)
      refine ret_tmp (st := _) rfl (by conv => lhs; whnf) rfl ?_
      exact fI (by simp only [dr, drP]; subst_vars; first | rw [if_pos (by omega), if_pos (by omega)] | rw [if_pos (by omega), if_neg (by omega)] | rw [if_neg (by omega), if_pos (by omega)] | rw [if_neg (by omega), if_neg (by omega)])
    · replace hb7 := dT hb7
      refine ev_nil (hK6 _ ?_); clear hK6
      refine good_condT rfl ?_
      refine good_seq fun K13 hK13 => ?_
      refine good_region rfl ?_
      refine ev_q rfl (q_move (by conv => lhs; whnf) ?_)
      refine ev_q rfl (q_move (by conv => lhs; whnf) ?_)
      refine ev_q rfl (q_int rfl rfl ?_)
      intro n14 hn14
      replace hn14 := in64 hn14 (by omega) (by omega)
      refine ev_q rfl (q_int rfl rfl ?_)
      intro n15 hn15
      replace hn15 := in64 hn15 (by omega) (by omega)
      refine ev_q rfl (q_move (by conv => lhs; whnf) ?_)
      refine ev_q rfl (q_int rfl rfl ?_)
      intro n16 hn16
      replace hn16 := in64 hn16 (by omega) (by omega)
      refine ev_q rfl (q_int rfl rfl ⟨by omega, ?_⟩)
      intro n17 hn17
      first | replace hn17 := quoE hn17 (by omega) (by omega) | replace hn17 := quoT hn17 (by omega) (by omega)
      refine ev_q rfl (q_neg rfl ?_)
      intro n18 hn18
      have hd := divB (x := n15) (y := n16) (by omega) (by omega)
      rw [← hn17] at hd
      replace hn18 := neg64 hn18 (by omega) (by omega)
      refine ev_q rfl (q_assign (by conv => lhs; whnf) ?_)
      refine ev_nil (hK13 _ ?_); clear hK13
      refine good_ret ?_
      repeat (first | refine thenQ_ret ?_ | refine blockQ_ret ?_)
      refine ret_tmp (st := _) rfl (by conv => lhs; whnf) rfl ?_
      clear hK5
      exact fI (by simp only [dr, drP]; subst_vars; first | rw [if_pos (by omega), if_pos (by omega)] | rw [if_pos (by omega), if_neg (by omega)] | rw [if_neg (by omega), if_pos (by omega)] | rw [if_neg (by omega), if_neg (by omega)])
  · replace hb4 := dT hb4
    refine ev_nil (hK3 _ ?_); clear hK3
    refine good_condT rfl ?_
    refine good_seq fun K19 hK19 => ?_
    refine good_region rfl ?_
    refine ev_q rfl (q_move (by conv => lhs; whnf) ?_)
    refine ev_q rfl (q_neg rfl ?_)
    intro n20 hn20
    replace hn20 := neg64 hn20 (by omega) (by omega)
    refine ev_q rfl (q_assign (by conv => lhs; whnf) ?_)
    refine ev_nil (hK19 _ ?_); clear hK19
    refine good_region rfl ?_
    refine ev_q rfl (q_move (by conv => lhs; whnf) ?_)
    refine ev_q rfl (q_neg rfl ?_)
    intro n21 hn21
    replace hn21 := neg64 hn21 (by omega) (by omega)
    refine ev_q rfl (q_assign (by conv => lhs; whnf) ?_)
    refine ev_nil (hK2 _ ?_); clear hK2
    refine good_seq fun K22 hK22 => ?_
    refine good_seq fun K23 hK23 => ?_
    refine good_region rfl ?_
    refine ev_q rfl (q_move (by conv => lhs; whnf) ?_)
    refine ev_q rfl (q_int rfl rfl ?_)
    intro b24 hb24; cases b24
    · replace hb24 := dF hb24
      refine ev_nil (hK23 _ ?_); clear hK23
      refine good_condF rfl ?_
      refine good_skip (hK22 _ ?_); clear hK22
      refine good_seq fun K25 hK25 => ?_
      refine good_region rfl ?_
      refine ev_q rfl (q_move (by conv => lhs; whnf) ?_)
      refine ev_q rfl (q_int rfl rfl ?_)
      intro n26 hn26
      replace hn26 := in64 hn26 (by omega) (by omega)
      refine ev_q rfl (q_move (by conv => lhs; whnf) ?_)
      refine ev_q rfl (q_int rfl rfl ?_)
      intro n27 hn27
      replace hn27 := in64 hn27 (by omega) (by omega)
      refine ev_q rfl (q_move (by conv => lhs; whnf) ?_)
      refine ev_q rfl (q_int rfl rfl ?_)
      intro n28 hn28
      replace hn28 := in64 hn28 (by omega) (by omega)
      refine ev_q rfl (q_int rfl rfl ⟨by omega, ?_⟩)
      intro n29 hn29
      first | replace hn29 := quoE hn29 (by omega) (by omega) | replace hn29 := quoT hn29 (by omega) (by omega)
      refine ev_q rfl (q_assign (by conv => lhs; whnf) ?_)
      refine ev_nil (hK25 _ ?_); clear hK25
      refine good_ret ?_
      repeat (first | refine thenQ_ret ?_ | refine blockQ_ret ?_)
      refine ret_tmp (st := _) rfl (by conv => lhs; whnf) rfl ?_
      exact fI (by simp only [dr, drP]; subst_vars; first | rw [if_pos (by omega), if_pos (by omega)] | rw [if_pos (by omega), if_neg (by omega)] | rw [if_neg (by omega), if_pos (by omega)] | rw [if_neg (by omega), if_neg (by omega)])
    · replace hb24 := dT hb24
      refine ev_nil (hK23 _ ?_); clear hK23
      refine good_condT rfl ?_
      refine good_seq fun K30 hK30 => ?_
      refine good_region rfl ?_
      refine ev_q rfl (q_move (by conv => lhs; whnf) ?_)
      refine ev_q rfl (q_move (by conv => lhs; whnf) ?_)
      refine ev_q rfl (q_int rfl rfl ?_)
      intro n31 hn31
      replace hn31 := in64 hn31 (by omega) (by omega)
      refine ev_q rfl (q_int rfl rfl ?_)
      intro n32 hn32
      replace hn32 := in64 hn32 (by omega) (by omega)
      refine ev_q rfl (q_move (by conv => lhs; whnf) ?_)
      refine ev_q rfl (q_int rfl rfl ?_)
      intro n33 hn33
      replace hn33 := in64 hn33 (by omega) (by omega)
      refine ev_q rfl (q_int rfl rfl ⟨by omega, ?_⟩)
      intro n34 hn34
      first | replace hn34 := quoE hn34 (by omega) (by omega) | replace hn34 := quoT hn34 (by omega) (by omega)
      refine ev_q rfl (q_neg rfl ?_)
      intro n35 hn35
      have hd := divB (x := n32) (y := n33) (by omega) (by omega)
      rw [← hn34] at hd
      replace hn35 := neg64 hn35 (by omega) (by omega)
      refine ev_q rfl (q_assign (by conv => lhs; whnf) ?_)
      refine ev_nil (hK30 _ ?_); clear hK30
      refine good_ret ?_
      repeat (first | refine thenQ_ret ?_ | refine blockQ_ret ?_)
      refine ret_tmp (st := _) rfl (by conv => lhs; whnf) rfl ?_
      clear hK22
      exact fI (by simp only [dr, drP]; subst_vars; first | rw [if_pos (by omega), if_pos (by omega)] | rw [if_pos (by omega), if_neg (by omega)] | rw [if_neg (by omega), if_pos (by omega)] | rw [if_neg (by omega), if_neg (by omega)])

-- impl.abs
set_option maxRecDepth 20000 in
set_option maxHeartbeats 8000000 in
theorem D_impl_abs (a : Int) (h : -9223372036854775807 ≤ a ∧ a ≤ 9223372036854775807) : Den Try.prog 82 [.s (.int .i64 a)] (.s (.int .i64 ((a.natAbs : Int)))) := by
  refine den_of_good Try.func82 (by decide) rfl (Nat.le_of_ble_eq_true rfl) ?_
  refine good_seq fun K1 hK1 => ?_
  refine good_region rfl ?_
  refine ev_q rfl (q_assign (by conv => lhs; whnf) ?_)
  refine ev_nil (hK1 _ ?_); clear hK1
  refine good_seq fun K2 hK2 => ?_
  refine good_region rfl ?_
  refine ev_q rfl (q_move (by conv => lhs; whnf) ?_)
  refine ev_q rfl (q_move (by conv => lhs; whnf) ?_)
  refine ev_q rfl (q_neg rfl ?_)
  intro n3 hn3
  replace hn3 := neg64 hn3 (by omega) (by omega)
  refine ev_q rfl (q_max rfl rfl ?_)
  intro n4 hn4; simp only [mxI, mnI] at hn4
  refine ev_q rfl (q_assign (by conv => lhs; whnf) ?_)
  refine ev_nil (hK2 _ ?_); clear hK2
  refine good_ret ?_
  repeat (first | refine thenQ_ret ?_ | refine blockQ_ret ?_)
  refine ret_tmp (st := _) rfl (by conv => lhs; whnf) rfl ?_
  first | rfl | exact fI (by first | omega | grind) | (exfalso; first | omega | grind)

-- impl.divRound
set_option maxRecDepth 20000 in
set_option maxHeartbeats 8000000 in
theorem D_impl_divRound (a b : Int) (ha : -4000000000000000000 ≤ a ∧ a ≤ 4000000000000000000) (hb : b ≠ 0 ∧ -1000000000000000000 ≤ b ∧ b ≤ 1000000000000000000) : Den Try.prog 71 [.s (.int .i64 a), .s (.int .i64 b)] (.s (.int .i64 (dr a b))) := by
  refine den_of_good Try.func71 (by decide) rfl (Nat.le_of_ble_eq_true rfl) ?_
  refine good_seq fun K1 hK1 => ?_
  refine good_region rfl ?_
  refine ev_q rfl (q_assign (by conv => lhs; whnf) ?_)
  refine ev_nil (hK1 _ ?_); clear hK1
  refine good_seq fun K2 hK2 => ?_
  refine good_draw 9 hmix (by kernel_rfl) rfl ?_
  refine qo_q rfl (q_move (by conv => lhs; whnf) ?_)
  refine qo_q rfl (q_move (by conv => lhs; whnf) ?_)
  refine qo_q rfl (q_int rfl rfl ⟨by omega, ?_⟩)
  intro n3 hn3
  replace hn3 := quoT hn3 (by omega) (by omega)
  have ht := tdiv_le (a := a) (b := b)
  rw [← hn3] at ht
  refine qo_q rfl (q_move (by conv => lhs; whnf) ?_)
  refine qo_q rfl (q_move (by conv => lhs; whnf) ?_)
  refine qo_q rfl (q_int rfl rfl ⟨by omega, ?_⟩)
  intro n4 hn4
  have hm := tmod_lt' (a := a) (b := b) (by omega)
  rw [← hn4] at hm
  refine qo_q rfl (q_callI rfl rfl rfl (D_impl_abs _ (by omega)) ?_)
  intro n5 hn5
  refine qo_q rfl (q_assign (by conv => lhs; whnf) ?_)
  refine qo_q rfl (q_assign (by conv => lhs; whnf) ?_)
  refine qo_nil ?_
  refine ev_nil (hK2 _ ?_); clear hK2
  refine good_seq fun K6 hK6 => ?_
  refine good_seq fun K7 hK7 => ?_
  refine good_region rfl ?_
  refine ev_q rfl (q_move (by conv => lhs; whnf) ?_)
  refine ev_q rfl (q_move (by conv => lhs; whnf) ?_)
  refine ev_q rfl (q_callI rfl rfl rfl (D_impl_abs _ (by omega)) ?_)
  intro n8 hn8
  refine ev_q rfl (q_move (by conv => lhs; whnf) ?_)
  refine ev_q rfl (q_int rfl rfl ?_)
  intro n9 hn9
  replace hn9 := in64 hn9 (by omega) (by omega)
  refine ev_q rfl (q_int rfl rfl ?_)
  intro b10 hb10; cases b10
  · replace hb10 := dF hb10
    refine ev_nil (hK7 _ ?_); clear hK7
    refine good_condF rfl ?_
    refine good_skip (hK6 _ ?_); clear hK6
    refine good_seq fun K11 hK11 => ?_
    refine good_region rfl ?_
    refine ev_q rfl (q_move (by conv => lhs; whnf) ?_)
    refine ev_q rfl (q_assign (by conv => lhs; whnf) ?_)
    refine ev_nil (hK11 _ ?_); clear hK11
    refine good_ret ?_
    repeat (first | refine thenQ_ret ?_ | refine blockQ_ret ?_)
    refine ret_tmp (st := _) rfl (by conv => lhs; whnf) rfl ?_
    exact fI (by rw [dr_eq (q := n3) (r := n5) (by omega) hn3 (by rw [hn5, hn4])]; first | (rw [if_neg (by omega)]) | (rw [if_pos (by omega)]; first | (rw [if_pos (decide_eq_decide.2 (by omega))]; omega) | (rw [if_neg (fun h => by have := decide_eq_decide.1 h; omega)]; omega)))
  · replace hb10 := dT hb10
    refine ev_nil (hK7 _ ?_); clear hK7
    refine good_condT rfl ?_
    refine good_seq fun K12 hK12 => ?_
    refine good_seq fun K13 hK13 => ?_
    refine good_region rfl ?_
    refine ev_q rfl (q_move (by conv => lhs; whnf) ?_)
    refine ev_q rfl (q_int rfl rfl ?_)
    intro b14 hb14; cases b14
    · replace hb14 := dF hb14
      refine ev_q rfl (q_move (by conv => lhs; whnf) ?_)
      refine ev_q rfl (q_int rfl rfl ?_)
      intro b15 hb15; cases b15
      · replace hb15 := dF hb15
        refine ev_q rfl (q_beq tB4 rfl rfl ?_)
        intro b16 hb16; replace hb16 : b16 = true := hb16; subst hb16
        refine ev_nil (hK13 _ ?_); clear hK13
        refine good_condT rfl ?_
        refine good_seq fun K17 hK17 => ?_
        refine good_region rfl ?_
        refine ev_q rfl (q_move (by conv => lhs; whnf) ?_)
        refine ev_q rfl (q_int rfl rfl ?_)
        intro n18 hn18
        replace hn18 := in64 hn18 (by omega) (by omega)
        refine ev_q rfl (q_assign (by conv => lhs; whnf) ?_)
        refine ev_nil (hK17 _ ?_); clear hK17
        refine good_ret ?_
        repeat (first | refine thenQ_ret ?_ | refine blockQ_ret ?_)
        refine ret_tmp (st := _) rfl (by conv => lhs; whnf) rfl ?_
        clear hK6 hK12
        exact fI (by rw [dr_eq (q := n3) (r := n5) (by omega) hn3 (by rw [hn5, hn4])]; first | (rw [if_neg (by omega)]) | (rw [if_pos (by omega)]; first | (rw [if_pos (decide_eq_decide.2 (by omega))]; omega) | (rw [if_neg (fun h => by have := decide_eq_decide.1 h; omega)]; omega)))
      · replace hb15 := dT hb15
        refine ev_q rfl (q_beq tB4 rfl rfl ?_)
        intro b19 hb19; replace hb19 : b19 = false := hb19; subst hb19
        refine ev_nil (hK13 _ ?_); clear hK13
        refine good_condF rfl ?_
        refine good_skip (hK12 _ ?_); clear hK12
        refine good_seq fun K20 hK20 => ?_
        refine good_region rfl ?_
        refine ev_q rfl (q_move (by conv => lhs; whnf) ?_)
        refine ev_q rfl (q_int rfl rfl ?_)
        intro n21 hn21
        replace hn21 := in64 hn21 (by omega) (by omega)
        refine ev_q rfl (q_assign (by conv => lhs; whnf) ?_)
        refine ev_nil (hK20 _ ?_); clear hK20
        refine good_ret ?_
        repeat (first | refine thenQ_ret ?_ | refine blockQ_ret ?_)
        refine ret_tmp (st := _) rfl (by conv => lhs; whnf) rfl ?_
        clear hK6
        exact fI (by rw [dr_eq (q := n3) (r := n5) (by omega) hn3 (by rw [hn5, hn4])]; first | (rw [if_neg (by omega)]) | (rw [if_pos (by omega)]; first | (rw [if_pos (decide_eq_decide.2 (by omega))]; omega) | (rw [if_neg (fun h => by have := decide_eq_decide.1 h; omega)]; omega)))
    · replace hb14 := dT hb14
      refine ev_q rfl (q_move (by conv => lhs; whnf) ?_)
      refine ev_q rfl (q_int rfl rfl ?_)
      intro b22 hb22; cases b22
      · replace hb22 := dF hb22
        refine ev_q rfl (q_beq tB4 rfl rfl ?_)
        intro b23 hb23; replace hb23 : b23 = false := hb23; subst hb23
        refine ev_nil (hK13 _ ?_); clear hK13
        refine good_condF rfl ?_
        refine good_skip (hK12 _ ?_); clear hK12
        refine good_seq fun K24 hK24 => ?_
        refine good_region rfl ?_
        refine ev_q rfl (q_move (by conv => lhs; whnf) ?_)
        refine ev_q rfl (q_int rfl rfl ?_)
        intro n25 hn25
        replace hn25 := in64 hn25 (by omega) (by omega)
        refine ev_q rfl (q_assign (by conv => lhs; whnf) ?_)
        refine ev_nil (hK24 _ ?_); clear hK24
        refine good_ret ?_
        repeat (first | refine thenQ_ret ?_ | refine blockQ_ret ?_)
        refine ret_tmp (st := _) rfl (by conv => lhs; whnf) rfl ?_
        clear hK6
        exact fI (by rw [dr_eq (q := n3) (r := n5) (by omega) hn3 (by rw [hn5, hn4])]; first | (rw [if_neg (by omega)]) | (rw [if_pos (by omega)]; first | (rw [if_pos (decide_eq_decide.2 (by omega))]; omega) | (rw [if_neg (fun h => by have := decide_eq_decide.1 h; omega)]; omega)))
      · replace hb22 := dT hb22
        refine ev_q rfl (q_beq tB4 rfl rfl ?_)
        intro b26 hb26; replace hb26 : b26 = true := hb26; subst hb26
        refine ev_nil (hK13 _ ?_); clear hK13
        refine good_condT rfl ?_
        refine good_seq fun K27 hK27 => ?_
        refine good_region rfl ?_
        refine ev_q rfl (q_move (by conv => lhs; whnf) ?_)
        refine ev_q rfl (q_int rfl rfl ?_)
        intro n28 hn28
        replace hn28 := in64 hn28 (by omega) (by omega)
        refine ev_q rfl (q_assign (by conv => lhs; whnf) ?_)
        refine ev_nil (hK27 _ ?_); clear hK27
        refine good_ret ?_
        repeat (first | refine thenQ_ret ?_ | refine blockQ_ret ?_)
        refine ret_tmp (st := _) rfl (by conv => lhs; whnf) rfl ?_
        clear hK6 hK12
        exact fI (by rw [dr_eq (q := n3) (r := n5) (by omega) hn3 (by rw [hn5, hn4])]; first | (rw [if_neg (by omega)]) | (rw [if_pos (by omega)]; first | (rw [if_pos (decide_eq_decide.2 (by omega))]; omega) | (rw [if_neg (fun h => by have := decide_eq_decide.1 h; omega)]; omega)))

-- impl.nodeOk
set_option maxRecDepth 20000 in
set_option maxHeartbeats 8000000 in
theorem D_impl_nodeOk (a : Int)  : Den Try.prog 121 [.s (.int .i64 a)] (.s (.bool (decide (0 ≤ a ∧ a ≤ 15)))) := by
  refine den_of_good Try.func121 (by decide) rfl (Nat.le_of_ble_eq_true rfl) ?_
  refine good_seq fun K1 hK1 => ?_
  refine good_region rfl ?_
  refine ev_q rfl (q_assign (by conv => lhs; whnf) ?_)
  refine ev_nil (hK1 _ ?_); clear hK1
  refine good_seq fun K2 hK2 => ?_
  refine good_region rfl ?_
  refine ev_q rfl (q_move (by conv => lhs; whnf) ?_)
  refine ev_q rfl (q_callB rfl rfl rfl (D_impl_within ..) ?_)
  intro b3 hb3; cases b3
  · first | replace hb3 := dF hb3 | skip
    refine ev_q rfl (q_assign (by conv => lhs; whnf) ?_)
    refine ev_nil (hK2 _ ?_); clear hK2
    refine good_ret ?_
    repeat (first | refine thenQ_ret ?_ | refine blockQ_ret ?_)
    refine ret_tmp (st := _) rfl (by conv => lhs; whnf) rfl ?_
    first | rfl | exact fT (by first | omega | grind) | exact fF (by first | omega | grind) | exact fT' (by first | omega | grind) | (exfalso; first | omega | grind)
  · first | replace hb3 := dT hb3 | skip
    refine ev_q rfl (q_assign (by conv => lhs; whnf) ?_)
    refine ev_nil (hK2 _ ?_); clear hK2
    refine good_ret ?_
    repeat (first | refine thenQ_ret ?_ | refine blockQ_ret ?_)
    refine ret_tmp (st := _) rfl (by conv => lhs; whnf) rfl ?_
    first | rfl | exact fT (by first | omega | grind) | exact fF (by first | omega | grind) | exact fT' (by first | omega | grind) | (exfalso; first | omega | grind)

-- spec.l03Ok
set_option maxRecDepth 20000 in
set_option maxHeartbeats 8000000 in
theorem D_spec_l03Ok (s : ByteArray) (fm tt le di lo : Int) (hs : s.size ≤ 140737488351232) : Den Try.prog 56 [.rp [.s (.string s), .s (.int .i64 fm), .s (.int .i64 tt), .s (.int .i64 le), .s (.int .i64 di), .s (.int .i64 lo)]] (.s (.bool (decide (isName s = true ∧ (0 ≤ fm ∧ fm ≤ 15) ∧ (0 ≤ tt ∧ tt ≤ 15) ∧ ¬ fm = tt ∧ (1 ≤ le ∧ le ≤ 10000) ∧ (20 ≤ di ∧ di ≤ 1000) ∧ (0 ≤ lo ∧ lo ≤ 5000))))) := by
  refine den_of_good Try.func56 (by decide) rfl (Nat.le_of_ble_eq_true rfl) ?_
  refine good_seq fun K1 hK1 => ?_
  refine good_region rfl ?_
  refine ev_q rfl (q_assign (by conv => lhs; whnf) ?_)
  refine ev_nil (hK1 _ ?_); clear hK1
  refine good_seq fun K2 hK2 => ?_
  refine good_seq fun K3 hK3 => ?_
  refine good_draw 33 hmix (by kernel_rfl) rfl ?_
  refine qo_q rfl (q_move (by conv => lhs; whnf) ?_)
  refine qo_q rfl (q_nilCheck (by conv => lhs; whnf) rfl ?_)
  refine qo_q rfl (q_fieldAddr fO27_0 rfl rfl ?_)
  refine qo_q rfl (q_load tA9 rfl ?_)
  refine qo_q rfl (q_callB rfl rfl rfl (D_spec_l01Name _ hs) ?_)
  intro b4 hb4; cases b4
  · first | replace hb4 := dF hb4 | skip
    refine qo_q rfl (q_not rfl rfl ?_)
    refine qo_q rfl (q_move (by conv => lhs; whnf) ?_)
    refine qo_skip rfl ?_
    refine qo_skip rfl ?_
    refine qo_skip rfl ?_
    refine qo_skip rfl ?_
    refine qo_skip rfl ?_
    refine qo_skip rfl ?_
    refine qo_q rfl (q_pickT rfl (by conv => lhs; whnf) ?_)
    refine qo_q rfl (q_move (by conv => lhs; whnf) ?_)
    refine qo_skip rfl ?_
    refine qo_skip rfl ?_
    refine qo_skip rfl ?_
    refine qo_skip rfl ?_
    refine qo_skip rfl ?_
    refine qo_skip rfl ?_
    refine qo_q rfl (q_pickT rfl (by conv => lhs; whnf) ?_)
    refine qo_q rfl (q_move (by conv => lhs; whnf) ?_)
    refine qo_skip rfl ?_
    refine qo_skip rfl ?_
    refine qo_skip rfl ?_
    refine qo_skip rfl ?_
    refine qo_skip rfl ?_
    refine qo_skip rfl ?_
    refine qo_skip rfl ?_
    refine qo_skip rfl ?_
    refine qo_skip rfl ?_
    refine qo_q rfl (q_pickT rfl (by conv => lhs; whnf) ?_)
    refine qo_nil ?_
    refine ev_nil (hK3 _ ?_); clear hK3
    refine good_condT rfl ?_
    refine good_seq fun K5 hK5 => ?_
    refine good_region rfl ?_
    refine ev_q rfl (q_assign (by conv => lhs; whnf) ?_)
    refine ev_nil (hK5 _ ?_); clear hK5
    refine good_ret ?_
    repeat (first | refine thenQ_ret ?_ | refine blockQ_ret ?_)
    refine ret_tmp (st := _) rfl (by conv => lhs; whnf) rfl ?_
    clear hK2
    first | rfl | exact fT (by first | omega | grind) | exact fF (by first | omega | grind) | exact fT' (by first | omega | grind) | (exfalso; first | omega | grind)
  · first | replace hb4 := dT hb4 | skip
    refine qo_q rfl (q_not rfl rfl ?_)
    refine qo_q rfl (q_move (by conv => lhs; whnf) ?_)
    refine qo_q rfl (q_move (by conv => lhs; whnf) ?_)
    refine qo_q rfl (q_nilCheck (by conv => lhs; whnf) rfl ?_)
    refine qo_q rfl (q_fieldAddr fO27_1 rfl rfl ?_)
    refine qo_q rfl (q_load tA2 rfl ?_)
    refine qo_q rfl (q_callB rfl rfl rfl (D_spec_l00In ..) ?_)
    intro b6 hb6; cases b6
    · first | replace hb6 := dF hb6 | skip
      refine qo_q rfl (q_not rfl rfl ?_)
      refine qo_q rfl (q_pickF rfl (by conv => lhs; whnf) ?_)
      refine qo_q rfl (q_move (by conv => lhs; whnf) ?_)
      refine qo_skip rfl ?_
      refine qo_skip rfl ?_
      refine qo_skip rfl ?_
      refine qo_skip rfl ?_
      refine qo_skip rfl ?_
      refine qo_skip rfl ?_
      refine qo_q rfl (q_pickT rfl (by conv => lhs; whnf) ?_)
      refine qo_q rfl (q_move (by conv => lhs; whnf) ?_)
      refine qo_skip rfl ?_
      refine qo_skip rfl ?_
      refine qo_skip rfl ?_
      refine qo_skip rfl ?_
      refine qo_skip rfl ?_
      refine qo_skip rfl ?_
      refine qo_skip rfl ?_
      refine qo_skip rfl ?_
      refine qo_skip rfl ?_
      refine qo_q rfl (q_pickT rfl (by conv => lhs; whnf) ?_)
      refine qo_nil ?_
      refine ev_nil (hK3 _ ?_); clear hK3
      refine good_condT rfl ?_
      refine good_seq fun K7 hK7 => ?_
      refine good_region rfl ?_
      refine ev_q rfl (q_assign (by conv => lhs; whnf) ?_)
      refine ev_nil (hK7 _ ?_); clear hK7
      refine good_ret ?_
      repeat (first | refine thenQ_ret ?_ | refine blockQ_ret ?_)
      refine ret_tmp (st := _) rfl (by conv => lhs; whnf) rfl ?_
      clear hK2
      first | rfl | exact fT (by first | omega | grind) | exact fF (by first | omega | grind) | exact fT' (by first | omega | grind) | (exfalso; first | omega | grind)
    · first | replace hb6 := dT hb6 | skip
      refine qo_q rfl (q_not rfl rfl ?_)
      refine qo_q rfl (q_pickF rfl (by conv => lhs; whnf) ?_)
      refine qo_q rfl (q_move (by conv => lhs; whnf) ?_)
      refine qo_q rfl (q_move (by conv => lhs; whnf) ?_)
      refine qo_q rfl (q_nilCheck (by conv => lhs; whnf) rfl ?_)
      refine qo_q rfl (q_fieldAddr fO27_2 rfl rfl ?_)
      refine qo_q rfl (q_load tA2 rfl ?_)
      refine qo_q rfl (q_callB rfl rfl rfl (D_spec_l00In ..) ?_)
      intro b8 hb8; cases b8
      · first | replace hb8 := dF hb8 | skip
        refine qo_q rfl (q_not rfl rfl ?_)
        refine qo_q rfl (q_pickF rfl (by conv => lhs; whnf) ?_)
        refine qo_q rfl (q_move (by conv => lhs; whnf) ?_)
        refine qo_skip rfl ?_
        refine qo_skip rfl ?_
        refine qo_skip rfl ?_
        refine qo_skip rfl ?_
        refine qo_skip rfl ?_
        refine qo_skip rfl ?_
        refine qo_skip rfl ?_
        refine qo_skip rfl ?_
        refine qo_skip rfl ?_
        refine qo_q rfl (q_pickT rfl (by conv => lhs; whnf) ?_)
        refine qo_nil ?_
        refine ev_nil (hK3 _ ?_); clear hK3
        refine good_condT rfl ?_
        refine good_seq fun K9 hK9 => ?_
        refine good_region rfl ?_
        refine ev_q rfl (q_assign (by conv => lhs; whnf) ?_)
        refine ev_nil (hK9 _ ?_); clear hK9
        refine good_ret ?_
        repeat (first | refine thenQ_ret ?_ | refine blockQ_ret ?_)
        refine ret_tmp (st := _) rfl (by conv => lhs; whnf) rfl ?_
        clear hK2
        first | rfl | exact fT (by first | omega | grind) | exact fF (by first | omega | grind) | exact fT' (by first | omega | grind) | (exfalso; first | omega | grind)
      · first | replace hb8 := dT hb8 | skip
        refine qo_q rfl (q_not rfl rfl ?_)
        refine qo_q rfl (q_pickF rfl (by conv => lhs; whnf) ?_)
        refine qo_q rfl (q_move (by conv => lhs; whnf) ?_)
        refine qo_q rfl (q_move (by conv => lhs; whnf) ?_)
        refine qo_q rfl (q_nilCheck (by conv => lhs; whnf) rfl ?_)
        refine qo_q rfl (q_fieldAddr fO27_1 rfl rfl ?_)
        refine qo_q rfl (q_load tA2 rfl ?_)
        refine qo_q rfl (q_move (by conv => lhs; whnf) ?_)
        refine qo_q rfl (q_nilCheck (by conv => lhs; whnf) rfl ?_)
        refine qo_q rfl (q_fieldAddr fO27_2 rfl rfl ?_)
        refine qo_q rfl (q_load tA2 rfl ?_)
        refine qo_q rfl (q_int rfl rfl ?_)
        intro b10 hb10; cases b10
        · replace hb10 := eqF hb10
          refine qo_q rfl (q_pickF rfl (by conv => lhs; whnf) ?_)
          refine qo_nil ?_
          refine ev_nil (hK3 _ ?_); clear hK3
          refine good_condF rfl ?_
          refine good_skip (hK2 _ ?_); clear hK2
          refine good_seq fun K11 hK11 => ?_
          refine good_region rfl ?_
          refine ev_q rfl (q_move (by conv => lhs; whnf) ?_)
          refine ev_q rfl (q_nilCheck (by conv => lhs; whnf) rfl ?_)
          refine ev_q rfl (q_fieldAddr fO27_3 rfl rfl ?_)
          refine ev_q rfl (q_load tA2 rfl ?_)
          refine ev_q rfl (q_callB rfl rfl rfl (D_spec_l00In ..) ?_)
          intro b12 hb12; cases b12
          · first | replace hb12 := dF hb12 | skip
            refine ev_q rfl (q_move (by conv => lhs; whnf) ?_)
            refine ev_skip rfl ?_
            refine ev_skip rfl ?_
            refine ev_skip rfl ?_
            refine ev_skip rfl ?_
            refine ev_skip rfl ?_
            refine ev_q rfl (q_pickF rfl (by conv => lhs; whnf) ?_)
            refine ev_q rfl (q_move (by conv => lhs; whnf) ?_)
            refine ev_skip rfl ?_
            refine ev_skip rfl ?_
            refine ev_skip rfl ?_
            refine ev_skip rfl ?_
            refine ev_skip rfl ?_
            refine ev_q rfl (q_pickF rfl (by conv => lhs; whnf) ?_)
            refine ev_q rfl (q_assign (by conv => lhs; whnf) ?_)
            refine ev_nil (hK11 _ ?_); clear hK11
            refine good_ret ?_
            repeat (first | refine thenQ_ret ?_ | refine blockQ_ret ?_)
            refine ret_tmp (st := _) rfl (by conv => lhs; whnf) rfl ?_
            first | rfl | exact fT (by first | omega | grind) | exact fF (by first | omega | grind) | exact fT' (by first | omega | grind) | (exfalso; first | omega | grind)
          · first | replace hb12 := dT hb12 | skip
            refine ev_q rfl (q_move (by conv => lhs; whnf) ?_)
            refine ev_q rfl (q_move (by conv => lhs; whnf) ?_)
            refine ev_q rfl (q_nilCheck (by conv => lhs; whnf) rfl ?_)
            refine ev_q rfl (q_fieldAddr fO27_4 rfl rfl ?_)
            refine ev_q rfl (q_load tA2 rfl ?_)
            refine ev_q rfl (q_callB rfl rfl rfl (D_spec_l00In ..) ?_)
            intro b13 hb13; cases b13
            · first | replace hb13 := dF hb13 | skip
              refine ev_q rfl (q_pickT rfl (by conv => lhs; whnf) ?_)
              refine ev_q rfl (q_move (by conv => lhs; whnf) ?_)
              refine ev_skip rfl ?_
              refine ev_skip rfl ?_
              refine ev_skip rfl ?_
              refine ev_skip rfl ?_
              refine ev_skip rfl ?_
              refine ev_q rfl (q_pickF rfl (by conv => lhs; whnf) ?_)
              refine ev_q rfl (q_assign (by conv => lhs; whnf) ?_)
              refine ev_nil (hK11 _ ?_); clear hK11
              refine good_ret ?_
              repeat (first | refine thenQ_ret ?_ | refine blockQ_ret ?_)
              refine ret_tmp (st := _) rfl (by conv => lhs; whnf) rfl ?_
              first | rfl | exact fT (by first | omega | grind) | exact fF (by first | omega | grind) | exact fT' (by first | omega | grind) | (exfalso; first | omega | grind)
            · first | replace hb13 := dT hb13 | skip
              refine ev_q rfl (q_pickT rfl (by conv => lhs; whnf) ?_)
              refine ev_q rfl (q_move (by conv => lhs; whnf) ?_)
              refine ev_q rfl (q_move (by conv => lhs; whnf) ?_)
              refine ev_q rfl (q_nilCheck (by conv => lhs; whnf) rfl ?_)
              refine ev_q rfl (q_fieldAddr fO27_5 rfl rfl ?_)
              refine ev_q rfl (q_load tA2 rfl ?_)
              refine ev_q rfl (q_callB rfl rfl rfl (D_spec_l00In ..) ?_)
              intro b14 hb14; cases b14
              · first | replace hb14 := dF hb14 | skip
                refine ev_q rfl (q_pickT rfl (by conv => lhs; whnf) ?_)
                refine ev_q rfl (q_assign (by conv => lhs; whnf) ?_)
                refine ev_nil (hK11 _ ?_); clear hK11
                refine good_ret ?_
                repeat (first | refine thenQ_ret ?_ | refine blockQ_ret ?_)
                refine ret_tmp (st := _) rfl (by conv => lhs; whnf) rfl ?_
                first | rfl | exact fT (by first | omega | grind) | exact fF (by first | omega | grind) | exact fT' (by first | omega | grind) | (exfalso; first | omega | grind)
              · first | replace hb14 := dT hb14 | skip
                refine ev_q rfl (q_pickT rfl (by conv => lhs; whnf) ?_)
                refine ev_q rfl (q_assign (by conv => lhs; whnf) ?_)
                refine ev_nil (hK11 _ ?_); clear hK11
                refine good_ret ?_
                repeat (first | refine thenQ_ret ?_ | refine blockQ_ret ?_)
                refine ret_tmp (st := _) rfl (by conv => lhs; whnf) rfl ?_
                first | rfl | exact fT (by first | omega | grind) | exact fF (by first | omega | grind) | exact fT' (by first | omega | grind) | (exfalso; first | omega | grind)
        · replace hb10 := eqT hb10
          refine qo_q rfl (q_pickF rfl (by conv => lhs; whnf) ?_)
          refine qo_nil ?_
          refine ev_nil (hK3 _ ?_); clear hK3
          refine good_condT rfl ?_
          refine good_seq fun K15 hK15 => ?_
          refine good_region rfl ?_
          refine ev_q rfl (q_assign (by conv => lhs; whnf) ?_)
          refine ev_nil (hK15 _ ?_); clear hK15
          refine good_ret ?_
          repeat (first | refine thenQ_ret ?_ | refine blockQ_ret ?_)
          refine ret_tmp (st := _) rfl (by conv => lhs; whnf) rfl ?_
          clear hK2
          first | rfl | exact fT (by first | omega | grind) | exact fF (by first | omega | grind) | exact fT' (by first | omega | grind) | (exfalso; first | omega | grind)

-- impl.ValidPipe
set_option maxRecDepth 20000 in
set_option maxHeartbeats 8000000 in
theorem D_impl_ValidPipe (s : ByteArray) (fm tt le di lo : Int) (hs : s.size ≤ 140737488351232) : Den Try.prog 59 [.agg [.s (.string s), .s (.int .i64 fm), .s (.int .i64 tt), .s (.int .i64 le), .s (.int .i64 di), .s (.int .i64 lo)]] (.s (.bool (decide (isName s = true ∧ (0 ≤ fm ∧ fm ≤ 15) ∧ (0 ≤ tt ∧ tt ≤ 15) ∧ ¬ fm = tt ∧ (1 ≤ le ∧ le ≤ 10000) ∧ (20 ≤ di ∧ di ≤ 1000) ∧ (0 ≤ lo ∧ lo ≤ 5000))))) := by
  refine den_of_good Try.func59 (by decide) rfl (Nat.le_of_ble_eq_true rfl) ?_
  refine good_seq fun K1 hK1 => ?_
  refine good_region rfl ?_
  refine ev_k rfl (k_box (by conv => lhs; whnf) rfl rfl rfl ?_)
  refine ev_q rfl (q_assign (by conv => lhs; whnf) ?_)
  refine ev_nil (hK1 _ ?_); clear hK1
  refine good_seq fun K2 hK2 => ?_
  refine good_region rfl ?_
  refine ev_q rfl (q_fieldAddrP fO27_0 rfl rfl ?_)
  refine ev_q rfl (q_load tA9 rfl ?_)
  refine ev_q rfl (q_callB rfl rfl rfl (D_impl_IsName _ hs) ?_)
  intro b3 hb3; cases b3
  · first | replace hb3 := dF hb3 | skip
    refine ev_q rfl (q_move (by conv => lhs; whnf) ?_)
    refine ev_skip rfl ?_
    refine ev_skip rfl ?_
    refine ev_skip rfl ?_
    refine ev_q rfl (q_pickF rfl (by conv => lhs; whnf) ?_)
    refine ev_q rfl (q_move (by conv => lhs; whnf) ?_)
    refine ev_skip rfl ?_
    refine ev_skip rfl ?_
    refine ev_skip rfl ?_
    refine ev_q rfl (q_pickF rfl (by conv => lhs; whnf) ?_)
    refine ev_q rfl (q_move (by conv => lhs; whnf) ?_)
    refine ev_skip rfl ?_
    refine ev_skip rfl ?_
    refine ev_skip rfl ?_
    refine ev_skip rfl ?_
    refine ev_skip rfl ?_
    refine ev_q rfl (q_pickF rfl (by conv => lhs; whnf) ?_)
    refine ev_q rfl (q_move (by conv => lhs; whnf) ?_)
    refine ev_skip rfl ?_
    refine ev_skip rfl ?_
    refine ev_skip rfl ?_
    refine ev_q rfl (q_pickF rfl (by conv => lhs; whnf) ?_)
    refine ev_q rfl (q_move (by conv => lhs; whnf) ?_)
    refine ev_skip rfl ?_
    refine ev_skip rfl ?_
    refine ev_skip rfl ?_
    refine ev_q rfl (q_pickF rfl (by conv => lhs; whnf) ?_)
    refine ev_q rfl (q_move (by conv => lhs; whnf) ?_)
    refine ev_skip rfl ?_
    refine ev_skip rfl ?_
    refine ev_skip rfl ?_
    refine ev_q rfl (q_pickF rfl (by conv => lhs; whnf) ?_)
    refine ev_q rfl (q_assign (by conv => lhs; whnf) ?_)
    refine ev_nil (hK2 _ ?_); clear hK2
    refine good_ret ?_
    repeat (first | refine thenQ_ret ?_ | refine blockQ_ret ?_)
    refine ret_tmp (st := _) rfl (by conv => lhs; whnf) rfl ?_
    first | rfl | exact fT (by first | omega | grind) | exact fF (by first | omega | grind) | exact fT' (by first | omega | grind) | (exfalso; first | omega | grind)
  · first | replace hb3 := dT hb3 | skip
    refine ev_q rfl (q_move (by conv => lhs; whnf) ?_)
    refine ev_q rfl (q_fieldAddrP fO27_1 rfl rfl ?_)
    refine ev_q rfl (q_load tA2 rfl ?_)
    refine ev_q rfl (q_callB rfl rfl rfl (D_impl_nodeOk ..) ?_)
    intro b4 hb4; cases b4
    · first | replace hb4 := dF hb4 | skip
      refine ev_q rfl (q_pickT rfl (by conv => lhs; whnf) ?_)
      refine ev_q rfl (q_move (by conv => lhs; whnf) ?_)
      refine ev_skip rfl ?_
      refine ev_skip rfl ?_
      refine ev_skip rfl ?_
      refine ev_q rfl (q_pickF rfl (by conv => lhs; whnf) ?_)
      refine ev_q rfl (q_move (by conv => lhs; whnf) ?_)
      refine ev_skip rfl ?_
      refine ev_skip rfl ?_
      refine ev_skip rfl ?_
      refine ev_skip rfl ?_
      refine ev_skip rfl ?_
      refine ev_q rfl (q_pickF rfl (by conv => lhs; whnf) ?_)
      refine ev_q rfl (q_move (by conv => lhs; whnf) ?_)
      refine ev_skip rfl ?_
      refine ev_skip rfl ?_
      refine ev_skip rfl ?_
      refine ev_q rfl (q_pickF rfl (by conv => lhs; whnf) ?_)
      refine ev_q rfl (q_move (by conv => lhs; whnf) ?_)
      refine ev_skip rfl ?_
      refine ev_skip rfl ?_
      refine ev_skip rfl ?_
      refine ev_q rfl (q_pickF rfl (by conv => lhs; whnf) ?_)
      refine ev_q rfl (q_move (by conv => lhs; whnf) ?_)
      refine ev_skip rfl ?_
      refine ev_skip rfl ?_
      refine ev_skip rfl ?_
      refine ev_q rfl (q_pickF rfl (by conv => lhs; whnf) ?_)
      refine ev_q rfl (q_assign (by conv => lhs; whnf) ?_)
      refine ev_nil (hK2 _ ?_); clear hK2
      refine good_ret ?_
      repeat (first | refine thenQ_ret ?_ | refine blockQ_ret ?_)
      refine ret_tmp (st := _) rfl (by conv => lhs; whnf) rfl ?_
      first | rfl | exact fT (by first | omega | grind) | exact fF (by first | omega | grind) | exact fT' (by first | omega | grind) | (exfalso; first | omega | grind)
    · first | replace hb4 := dT hb4 | skip
      refine ev_q rfl (q_pickT rfl (by conv => lhs; whnf) ?_)
      refine ev_q rfl (q_move (by conv => lhs; whnf) ?_)
      refine ev_q rfl (q_fieldAddrP fO27_2 rfl rfl ?_)
      refine ev_q rfl (q_load tA2 rfl ?_)
      refine ev_q rfl (q_callB rfl rfl rfl (D_impl_nodeOk ..) ?_)
      intro b5 hb5; cases b5
      · first | replace hb5 := dF hb5 | skip
        refine ev_q rfl (q_pickT rfl (by conv => lhs; whnf) ?_)
        refine ev_q rfl (q_move (by conv => lhs; whnf) ?_)
        refine ev_skip rfl ?_
        refine ev_skip rfl ?_
        refine ev_skip rfl ?_
        refine ev_skip rfl ?_
        refine ev_skip rfl ?_
        refine ev_q rfl (q_pickF rfl (by conv => lhs; whnf) ?_)
        refine ev_q rfl (q_move (by conv => lhs; whnf) ?_)
        refine ev_skip rfl ?_
        refine ev_skip rfl ?_
        refine ev_skip rfl ?_
        refine ev_q rfl (q_pickF rfl (by conv => lhs; whnf) ?_)
        refine ev_q rfl (q_move (by conv => lhs; whnf) ?_)
        refine ev_skip rfl ?_
        refine ev_skip rfl ?_
        refine ev_skip rfl ?_
        refine ev_q rfl (q_pickF rfl (by conv => lhs; whnf) ?_)
        refine ev_q rfl (q_move (by conv => lhs; whnf) ?_)
        refine ev_skip rfl ?_
        refine ev_skip rfl ?_
        refine ev_skip rfl ?_
        refine ev_q rfl (q_pickF rfl (by conv => lhs; whnf) ?_)
        refine ev_q rfl (q_assign (by conv => lhs; whnf) ?_)
        refine ev_nil (hK2 _ ?_); clear hK2
        refine good_ret ?_
        repeat (first | refine thenQ_ret ?_ | refine blockQ_ret ?_)
        refine ret_tmp (st := _) rfl (by conv => lhs; whnf) rfl ?_
        first | rfl | exact fT (by first | omega | grind) | exact fF (by first | omega | grind) | exact fT' (by first | omega | grind) | (exfalso; first | omega | grind)
      · first | replace hb5 := dT hb5 | skip
        refine ev_q rfl (q_pickT rfl (by conv => lhs; whnf) ?_)
        refine ev_q rfl (q_move (by conv => lhs; whnf) ?_)
        refine ev_q rfl (q_fieldAddrP fO27_1 rfl rfl ?_)
        refine ev_q rfl (q_load tA2 rfl ?_)
        refine ev_q rfl (q_fieldAddrP fO27_2 rfl rfl ?_)
        refine ev_q rfl (q_load tA2 rfl ?_)
        refine ev_q rfl (q_int rfl rfl ?_)
        intro b6 hb6; cases b6
        · replace hb6 := neF hb6
          refine ev_q rfl (q_pickT rfl (by conv => lhs; whnf) ?_)
          refine ev_q rfl (q_move (by conv => lhs; whnf) ?_)
          refine ev_skip rfl ?_
          refine ev_skip rfl ?_
          refine ev_skip rfl ?_
          refine ev_q rfl (q_pickF rfl (by conv => lhs; whnf) ?_)
          refine ev_q rfl (q_move (by conv => lhs; whnf) ?_)
          refine ev_skip rfl ?_
          refine ev_skip rfl ?_
          refine ev_skip rfl ?_
          refine ev_q rfl (q_pickF rfl (by conv => lhs; whnf) ?_)
          refine ev_q rfl (q_move (by conv => lhs; whnf) ?_)
          refine ev_skip rfl ?_
          refine ev_skip rfl ?_
          refine ev_skip rfl ?_
          refine ev_q rfl (q_pickF rfl (by conv => lhs; whnf) ?_)
          refine ev_q rfl (q_assign (by conv => lhs; whnf) ?_)
          refine ev_nil (hK2 _ ?_); clear hK2
          refine good_ret ?_
          repeat (first | refine thenQ_ret ?_ | refine blockQ_ret ?_)
          refine ret_tmp (st := _) rfl (by conv => lhs; whnf) rfl ?_
          first | rfl | exact fT (by first | omega | grind) | exact fF (by first | omega | grind) | exact fT' (by first | omega | grind) | (exfalso; first | omega | grind)
        · replace hb6 := neT hb6
          refine ev_q rfl (q_pickT rfl (by conv => lhs; whnf) ?_)
          refine ev_q rfl (q_move (by conv => lhs; whnf) ?_)
          refine ev_q rfl (q_fieldAddrP fO27_3 rfl rfl ?_)
          refine ev_q rfl (q_load tA2 rfl ?_)
          refine ev_q rfl (q_callB rfl rfl rfl (D_impl_within ..) ?_)
          intro b7 hb7; cases b7
          · first | replace hb7 := dF hb7 | skip
            refine ev_q rfl (q_pickT rfl (by conv => lhs; whnf) ?_)
            refine ev_q rfl (q_move (by conv => lhs; whnf) ?_)
            refine ev_skip rfl ?_
            refine ev_skip rfl ?_
            refine ev_skip rfl ?_
            refine ev_q rfl (q_pickF rfl (by conv => lhs; whnf) ?_)
            refine ev_q rfl (q_move (by conv => lhs; whnf) ?_)
            refine ev_skip rfl ?_
            refine ev_skip rfl ?_
            refine ev_skip rfl ?_
            refine ev_q rfl (q_pickF rfl (by conv => lhs; whnf) ?_)
            refine ev_q rfl (q_assign (by conv => lhs; whnf) ?_)
            refine ev_nil (hK2 _ ?_); clear hK2
            refine good_ret ?_
            repeat (first | refine thenQ_ret ?_ | refine blockQ_ret ?_)
            refine ret_tmp (st := _) rfl (by conv => lhs; whnf) rfl ?_
            first | rfl | exact fT (by first | omega | grind) | exact fF (by first | omega | grind) | exact fT' (by first | omega | grind) | (exfalso; first | omega | grind)
          · first | replace hb7 := dT hb7 | skip
            refine ev_q rfl (q_pickT rfl (by conv => lhs; whnf) ?_)
            refine ev_q rfl (q_move (by conv => lhs; whnf) ?_)
            refine ev_q rfl (q_fieldAddrP fO27_4 rfl rfl ?_)
            refine ev_q rfl (q_load tA2 rfl ?_)
            refine ev_q rfl (q_callB rfl rfl rfl (D_impl_within ..) ?_)
            intro b8 hb8; cases b8
            · first | replace hb8 := dF hb8 | skip
              refine ev_q rfl (q_pickT rfl (by conv => lhs; whnf) ?_)
              refine ev_q rfl (q_move (by conv => lhs; whnf) ?_)
              refine ev_skip rfl ?_
              refine ev_skip rfl ?_
              refine ev_skip rfl ?_
              refine ev_q rfl (q_pickF rfl (by conv => lhs; whnf) ?_)
              refine ev_q rfl (q_assign (by conv => lhs; whnf) ?_)
              refine ev_nil (hK2 _ ?_); clear hK2
              refine good_ret ?_
              repeat (first | refine thenQ_ret ?_ | refine blockQ_ret ?_)
              refine ret_tmp (st := _) rfl (by conv => lhs; whnf) rfl ?_
              first | rfl | exact fT (by first | omega | grind) | exact fF (by first | omega | grind) | exact fT' (by first | omega | grind) | (exfalso; first | omega | grind)
            · first | replace hb8 := dT hb8 | skip
              refine ev_q rfl (q_pickT rfl (by conv => lhs; whnf) ?_)
              refine ev_q rfl (q_move (by conv => lhs; whnf) ?_)
              refine ev_q rfl (q_fieldAddrP fO27_5 rfl rfl ?_)
              refine ev_q rfl (q_load tA2 rfl ?_)
              refine ev_q rfl (q_callB rfl rfl rfl (D_impl_within ..) ?_)
              intro b9 hb9; cases b9
              · first | replace hb9 := dF hb9 | skip
                refine ev_q rfl (q_pickT rfl (by conv => lhs; whnf) ?_)
                refine ev_q rfl (q_assign (by conv => lhs; whnf) ?_)
                refine ev_nil (hK2 _ ?_); clear hK2
                refine good_ret ?_
                repeat (first | refine thenQ_ret ?_ | refine blockQ_ret ?_)
                refine ret_tmp (st := _) rfl (by conv => lhs; whnf) rfl ?_
                first | rfl | exact fT (by first | omega | grind) | exact fF (by first | omega | grind) | exact fT' (by first | omega | grind) | (exfalso; first | omega | grind)
              · first | replace hb9 := dT hb9 | skip
                refine ev_q rfl (q_pickT rfl (by conv => lhs; whnf) ?_)
                refine ev_q rfl (q_assign (by conv => lhs; whnf) ?_)
                refine ev_nil (hK2 _ ?_); clear hK2
                refine good_ret ?_
                repeat (first | refine thenQ_ret ?_ | refine blockQ_ret ?_)
                refine ret_tmp (st := _) rfl (by conv => lhs; whnf) rfl ?_
                first | rfl | exact fT (by first | omega | grind) | exact fF (by first | omega | grind) | exact fT' (by first | omega | grind) | (exfalso; first | omega | grind)

-- laws.toPipe
set_option maxRecDepth 20000 in
set_option maxHeartbeats 8000000 in
theorem D_laws_toPipe (s : ByteArray) (fm tt le di lo : Int)  : Den Try.prog 15 [.agg [.s (.string s), .s (.int .i64 fm), .s (.int .i64 tt), .s (.int .i64 le), .s (.int .i64 di), .s (.int .i64 lo)]] (.agg [.s (.string s), .s (.int .i64 fm), .s (.int .i64 tt), .s (.int .i64 le), .s (.int .i64 di), .s (.int .i64 lo)]) := by
  refine den_of_good Try.func15 (by decide) rfl (Nat.le_of_ble_eq_true rfl) ?_
  refine good_seq fun K1 hK1 => ?_
  refine good_region rfl ?_
  refine ev_k rfl (k_box (by conv => lhs; whnf) rfl rfl rfl ?_)
  refine ev_k rfl (k_alloc zA27 rfl ?_)
  refine ev_nil (hK1 _ ?_); clear hK1
  refine good_seq fun K2 hK2 => ?_
  refine good_region rfl ?_
  refine ev_k rfl (k_alloc zA27 rfl ?_)
  refine ev_nil (hK2 _ ?_); clear hK2
  refine good_seq fun K3 hK3 => ?_
  refine good_region rfl ?_
  refine ev_q rfl (q_fieldAddrP fO23_0 rfl rfl ?_)
  refine ev_q rfl (q_load tA9 rfl ?_)
  refine ev_q rfl (q_fieldAddrP fO27_0 rfl rfl ?_)
  refine ev_k rfl (k_store sz9 rfl (by conv => lhs; whnf) rfl rfl rfl (Nat.le_of_ble_eq_true rfl) rfl ?_)
  refine ev_nil (hK3 _ ?_); clear hK3
  refine good_seq fun K4 hK4 => ?_
  refine good_region rfl ?_
  refine ev_q rfl (q_fieldAddrP fO23_1 rfl rfl ?_)
  refine ev_q rfl (q_load tA2 rfl ?_)
  refine ev_q rfl (q_fieldAddrP fO27_1 rfl rfl ?_)
  refine ev_k rfl (k_store sz2 rfl (by conv => lhs; whnf) rfl rfl rfl (Nat.le_of_ble_eq_true rfl) rfl ?_)
  refine ev_nil (hK4 _ ?_); clear hK4
  refine good_seq fun K5 hK5 => ?_
  refine good_region rfl ?_
  refine ev_q rfl (q_fieldAddrP fO23_2 rfl rfl ?_)
  refine ev_q rfl (q_load tA2 rfl ?_)
  refine ev_q rfl (q_fieldAddrP fO27_2 rfl rfl ?_)
  refine ev_k rfl (k_store sz2 rfl (by conv => lhs; whnf) rfl rfl rfl (Nat.le_of_ble_eq_true rfl) rfl ?_)
  refine ev_nil (hK5 _ ?_); clear hK5
  refine good_seq fun K6 hK6 => ?_
  refine good_region rfl ?_
  refine ev_q rfl (q_fieldAddrP fO23_3 rfl rfl ?_)
  refine ev_q rfl (q_load tA2 rfl ?_)
  refine ev_q rfl (q_fieldAddrP fO27_3 rfl rfl ?_)
  refine ev_k rfl (k_store sz2 rfl (by conv => lhs; whnf) rfl rfl rfl (Nat.le_of_ble_eq_true rfl) rfl ?_)
  refine ev_nil (hK6 _ ?_); clear hK6
  refine good_seq fun K7 hK7 => ?_
  refine good_region rfl ?_
  refine ev_q rfl (q_fieldAddrP fO23_4 rfl rfl ?_)
  refine ev_q rfl (q_load tA2 rfl ?_)
  refine ev_q rfl (q_fieldAddrP fO27_4 rfl rfl ?_)
  refine ev_k rfl (k_store sz2 rfl (by conv => lhs; whnf) rfl rfl rfl (Nat.le_of_ble_eq_true rfl) rfl ?_)
  refine ev_nil (hK7 _ ?_); clear hK7
  refine good_seq fun K8 hK8 => ?_
  refine good_region rfl ?_
  refine ev_q rfl (q_fieldAddrP fO23_5 rfl rfl ?_)
  refine ev_q rfl (q_load tA2 rfl ?_)
  refine ev_q rfl (q_fieldAddrP fO27_5 rfl rfl ?_)
  refine ev_k rfl (k_store sz2 rfl (by conv => lhs; whnf) rfl rfl rfl (Nat.le_of_ble_eq_true rfl) rfl ?_)
  refine ev_nil (hK8 _ ?_); clear hK8
  refine good_seq fun K9 hK9 => ?_
  refine good_region rfl ?_
  refine ev_q rfl (q_loadA tA27 rfl rfl rfl rfl ?_)
  refine ev_k rfl (k_store sz27 rfl (by conv => lhs; whnf) rfl rfl rfl (Nat.le_of_ble_eq_true rfl) rfl ?_)
  refine ev_nil (hK9 _ ?_); clear hK9
  refine good_ret ?_
  repeat (first | refine thenQ_ret ?_ | refine blockQ_ret ?_)
  refine ret_cell rfl tA27 rfl rfl rfl ?_
  rfl

-- laws.szPipe
set_option maxRecDepth 20000 in
set_option maxHeartbeats 8000000 in
theorem D_laws_szPipe (s : ByteArray) (fm tt le di lo : Int) (left : Int) (hs : s.size ≤ 140737488351232) (hl : 0 ≤ left ∧ left ≤ 1152921504606846976) : Den Try.prog 13 [.agg [.s (.string s), .s (.int .i64 fm), .s (.int .i64 tt), .s (.int .i64 le), .s (.int .i64 di), .s (.int .i64 lo)], .s (.int .i64 left)] (.s (.int .i64 (if left - s.size < 0 then -1 else left - s.size))) := by
  refine den_of_good Try.func13 (by decide) rfl (Nat.le_of_ble_eq_true rfl) ?_
  refine good_seq fun K1 hK1 => ?_
  refine good_region rfl ?_
  refine ev_k rfl (k_box (by conv => lhs; whnf) rfl rfl rfl ?_)
  refine ev_q rfl (q_assign (by conv => lhs; whnf) ?_)
  refine ev_nil (hK1 _ ?_); clear hK1
  refine good_seq fun K2 hK2 => ?_
  refine good_region rfl ?_
  refine ev_q rfl (q_move (by conv => lhs; whnf) ?_)
  refine ev_q rfl (q_fieldAddrP fO23_0 rfl rfl ?_)
  refine ev_q rfl (q_load tA9 rfl ?_)
  refine ev_q rfl (q_lenS tStr9 rfl ?_)
  intro n3 hn3
  refine ev_q rfl (q_int rfl rfl ?_)
  intro n4 hn4
  replace hn4 := in64 hn4 (by omega) (by omega)
  refine ev_q rfl (q_assign (by conv => lhs; whnf) ?_)
  refine ev_nil (hK2 _ ?_); clear hK2
  refine good_seq fun K5 hK5 => ?_
  refine good_seq fun K6 hK6 => ?_
  refine good_region rfl ?_
  refine ev_q rfl (q_move (by conv => lhs; whnf) ?_)
  refine ev_q rfl (q_int rfl rfl ?_)
  intro b7 hb7; cases b7
  · replace hb7 := dF hb7
    refine ev_nil (hK6 _ ?_); clear hK6
    refine good_condF rfl ?_
    refine good_skip (hK5 _ ?_); clear hK5
    refine good_seq fun K8 hK8 => ?_
    refine good_region rfl ?_
    refine ev_q rfl (q_move (by conv => lhs; whnf) ?_)
    refine ev_q rfl (q_assign (by conv => lhs; whnf) ?_)
    refine ev_nil (hK8 _ ?_); clear hK8
    refine good_ret ?_
    repeat (first | refine thenQ_ret ?_ | refine blockQ_ret ?_)
    refine ret_tmp (st := _) rfl (by conv => lhs; whnf) rfl ?_
    first | rfl | exact fI (by first | omega | grind) | (exfalso; first | omega | grind)
  · replace hb7 := dT hb7
    refine ev_nil (hK6 _ ?_); clear hK6
    refine good_condT rfl ?_
    refine good_seq fun K9 hK9 => ?_
    refine good_region rfl ?_
    refine ev_q rfl (q_assign (by conv => lhs; whnf) ?_)
    refine ev_nil (hK9 _ ?_); clear hK9
    refine good_ret ?_
    repeat (first | refine thenQ_ret ?_ | refine blockQ_ret ?_)
    refine ret_tmp (st := _) rfl (by conv => lhs; whnf) rfl ?_
    clear hK5
    first | rfl | exact fI (by first | omega | grind) | (exfalso; first | omega | grind)

-- impl.degreesOk
set_option maxRecDepth 20000 in
set_option maxHeartbeats 8000000 in
theorem D_impl_degreesOk (a : Int)  : Den Try.prog 68 [.s (.int .i64 a)] (.s (.bool (decide (-5000 ≤ a ∧ a ≤ 20000)))) := by
  refine den_of_good Try.func68 (by decide) rfl (Nat.le_of_ble_eq_true rfl) ?_
  refine good_seq fun K1 hK1 => ?_
  refine good_region rfl ?_
  refine ev_q rfl (q_assign (by conv => lhs; whnf) ?_)
  refine ev_nil (hK1 _ ?_); clear hK1
  refine good_seq fun K2 hK2 => ?_
  refine good_region rfl ?_
  refine ev_q rfl (q_move (by conv => lhs; whnf) ?_)
  refine ev_q rfl (q_callB rfl rfl rfl (D_impl_within ..) ?_)
  intro b3 hb3; cases b3
  · first | replace hb3 := dF hb3 | skip
    refine ev_q rfl (q_assign (by conv => lhs; whnf) ?_)
    refine ev_nil (hK2 _ ?_); clear hK2
    refine good_ret ?_
    repeat (first | refine thenQ_ret ?_ | refine blockQ_ret ?_)
    refine ret_tmp (st := _) rfl (by conv => lhs; whnf) rfl ?_
    first | rfl | exact fT (by first | omega | grind) | exact fF (by first | omega | grind) | exact fT' (by first | omega | grind) | (exfalso; first | omega | grind)
  · first | replace hb3 := dT hb3 | skip
    refine ev_q rfl (q_assign (by conv => lhs; whnf) ?_)
    refine ev_nil (hK2 _ ?_); clear hK2
    refine good_ret ?_
    repeat (first | refine thenQ_ret ?_ | refine blockQ_ret ?_)
    refine ret_tmp (st := _) rfl (by conv => lhs; whnf) rfl ?_
    first | rfl | exact fT (by first | omega | grind) | exact fF (by first | omega | grind) | exact fT' (by first | omega | grind) | (exfalso; first | omega | grind)

-- spec.l03Degrees
set_option maxRecDepth 20000 in
set_option maxHeartbeats 8000000 in
theorem D_spec_l03Degrees (a : Int)  : Den Try.prog 63 [.s (.int .i64 a)] (.s (.bool (decide (-5000 ≤ a ∧ a ≤ 20000)))) := by
  refine den_of_good Try.func63 (by decide) rfl (Nat.le_of_ble_eq_true rfl) ?_
  refine good_seq fun K1 hK1 => ?_
  refine good_region rfl ?_
  refine ev_q rfl (q_assign (by conv => lhs; whnf) ?_)
  refine ev_nil (hK1 _ ?_); clear hK1
  refine good_seq fun K2 hK2 => ?_
  refine good_region rfl ?_
  refine ev_q rfl (q_move (by conv => lhs; whnf) ?_)
  refine ev_q rfl (q_callB rfl rfl rfl (D_spec_l00In ..) ?_)
  intro b3 hb3; cases b3
  · first | replace hb3 := dF hb3 | skip
    refine ev_q rfl (q_assign (by conv => lhs; whnf) ?_)
    refine ev_nil (hK2 _ ?_); clear hK2
    refine good_ret ?_
    repeat (first | refine thenQ_ret ?_ | refine blockQ_ret ?_)
    refine ret_tmp (st := _) rfl (by conv => lhs; whnf) rfl ?_
    first | rfl | exact fT (by first | omega | grind) | exact fF (by first | omega | grind) | exact fT' (by first | omega | grind) | (exfalso; first | omega | grind)
  · first | replace hb3 := dT hb3 | skip
    refine ev_q rfl (q_assign (by conv => lhs; whnf) ?_)
    refine ev_nil (hK2 _ ?_); clear hK2
    refine good_ret ?_
    repeat (first | refine thenQ_ret ?_ | refine blockQ_ret ?_)
    refine ret_tmp (st := _) rfl (by conv => lhs; whnf) rfl ?_
    first | rfl | exact fT (by first | omega | grind) | exact fF (by first | omega | grind) | exact fT' (by first | omega | grind) | (exfalso; first | omega | grind)

-- spec.l00Min
set_option maxRecDepth 20000 in
set_option maxHeartbeats 8000000 in
theorem D_spec_l00Min (a b : Int)  : Den Try.prog 122 [.s (.int .i64 a), .s (.int .i64 b)] (.s (.int .i64 (if a < b then a else b))) := by
  refine den_of_good Try.func122 (by decide) rfl (Nat.le_of_ble_eq_true rfl) ?_
  refine good_seq fun K1 hK1 => ?_
  refine good_region rfl ?_
  refine ev_q rfl (q_assign (by conv => lhs; whnf) ?_)
  refine ev_nil (hK1 _ ?_); clear hK1
  refine good_seq fun K2 hK2 => ?_
  refine good_seq fun K3 hK3 => ?_
  refine good_region rfl ?_
  refine ev_q rfl (q_move (by conv => lhs; whnf) ?_)
  refine ev_q rfl (q_move (by conv => lhs; whnf) ?_)
  refine ev_q rfl (q_int rfl rfl ?_)
  intro b4 hb4; cases b4
  · replace hb4 := dF hb4
    refine ev_nil (hK3 _ ?_); clear hK3
    refine good_condF rfl ?_
    refine good_skip (hK2 _ ?_); clear hK2
    refine good_seq fun K5 hK5 => ?_
    refine good_region rfl ?_
    refine ev_q rfl (q_move (by conv => lhs; whnf) ?_)
    refine ev_q rfl (q_assign (by conv => lhs; whnf) ?_)
    refine ev_nil (hK5 _ ?_); clear hK5
    refine good_ret ?_
    repeat (first | refine thenQ_ret ?_ | refine blockQ_ret ?_)
    refine ret_tmp (st := _) rfl (by conv => lhs; whnf) rfl ?_
    first | rfl | exact fI (by first | omega | grind) | (exfalso; first | omega | grind)
  · replace hb4 := dT hb4
    refine ev_nil (hK3 _ ?_); clear hK3
    refine good_condT rfl ?_
    refine good_seq fun K6 hK6 => ?_
    refine good_region rfl ?_
    refine ev_q rfl (q_move (by conv => lhs; whnf) ?_)
    refine ev_q rfl (q_assign (by conv => lhs; whnf) ?_)
    refine ev_nil (hK6 _ ?_); clear hK6
    refine good_ret ?_
    repeat (first | refine thenQ_ret ?_ | refine blockQ_ret ?_)
    refine ret_tmp (st := _) rfl (by conv => lhs; whnf) rfl ?_
    clear hK2
    first | rfl | exact fI (by first | omega | grind) | (exfalso; first | omega | grind)

-- spec.l00Max
set_option maxRecDepth 20000 in
set_option maxHeartbeats 8000000 in
theorem D_spec_l00Max (a b : Int)  : Den Try.prog 64 [.s (.int .i64 a), .s (.int .i64 b)] (.s (.int .i64 (if a > b then a else b))) := by
  refine den_of_good Try.func64 (by decide) rfl (Nat.le_of_ble_eq_true rfl) ?_
  refine good_seq fun K1 hK1 => ?_
  refine good_region rfl ?_
  refine ev_q rfl (q_assign (by conv => lhs; whnf) ?_)
  refine ev_nil (hK1 _ ?_); clear hK1
  refine good_seq fun K2 hK2 => ?_
  refine good_seq fun K3 hK3 => ?_
  refine good_region rfl ?_
  refine ev_q rfl (q_move (by conv => lhs; whnf) ?_)
  refine ev_q rfl (q_move (by conv => lhs; whnf) ?_)
  refine ev_q rfl (q_int rfl rfl ?_)
  intro b4 hb4; cases b4
  · replace hb4 := dF hb4
    refine ev_nil (hK3 _ ?_); clear hK3
    refine good_condF rfl ?_
    refine good_skip (hK2 _ ?_); clear hK2
    refine good_seq fun K5 hK5 => ?_
    refine good_region rfl ?_
    refine ev_q rfl (q_move (by conv => lhs; whnf) ?_)
    refine ev_q rfl (q_assign (by conv => lhs; whnf) ?_)
    refine ev_nil (hK5 _ ?_); clear hK5
    refine good_ret ?_
    repeat (first | refine thenQ_ret ?_ | refine blockQ_ret ?_)
    refine ret_tmp (st := _) rfl (by conv => lhs; whnf) rfl ?_
    first | rfl | exact fI (by first | omega | grind) | (exfalso; first | omega | grind)
  · replace hb4 := dT hb4
    refine ev_nil (hK3 _ ?_); clear hK3
    refine good_condT rfl ?_
    refine good_seq fun K6 hK6 => ?_
    refine good_region rfl ?_
    refine ev_q rfl (q_move (by conv => lhs; whnf) ?_)
    refine ev_q rfl (q_assign (by conv => lhs; whnf) ?_)
    refine ev_nil (hK6 _ ?_); clear hK6
    refine good_ret ?_
    repeat (first | refine thenQ_ret ?_ | refine blockQ_ret ?_)
    refine ret_tmp (st := _) rfl (by conv => lhs; whnf) rfl ?_
    clear hK2
    first | rfl | exact fI (by first | omega | grind) | (exfalso; first | omega | grind)

theorem coatB {d t c : Int} (h : 20 ≤ d ∧ d ≤ 1000 ∧ 1 ≤ t ∧ t ≤ 300 ∧ 1 ≤ c ∧ c ≤ 1000) : 0 ≤ c * 3 * (d + t) ∧ c * 3 * (d + t) ≤ 3000 * 1300 := mulB (by omega) (by omega) (by omega) (by omega)

-- spec.l10Conductivity
set_option maxRecDepth 20000 in
set_option maxHeartbeats 8000000 in
theorem D_spec_l10Conductivity (a : Int)  : Den Try.prog 62 [.s (.int .i64 a)] (.s (.bool (decide (1 ≤ a ∧ a ≤ 1000)))) := by
  refine den_of_good Try.func62 (by decide) rfl (Nat.le_of_ble_eq_true rfl) ?_
  refine good_seq fun K1 hK1 => ?_
  refine good_region rfl ?_
  refine ev_q rfl (q_assign (by conv => lhs; whnf) ?_)
  refine ev_nil (hK1 _ ?_); clear hK1
  refine good_seq fun K2 hK2 => ?_
  refine good_region rfl ?_
  refine ev_q rfl (q_move (by conv => lhs; whnf) ?_)
  refine ev_q rfl (q_callB rfl rfl rfl (D_spec_l00In ..) ?_)
  intro b3 hb3; cases b3
  · first | replace hb3 := dF hb3 | skip
    refine ev_q rfl (q_assign (by conv => lhs; whnf) ?_)
    refine ev_nil (hK2 _ ?_); clear hK2
    refine good_ret ?_
    repeat (first | refine thenQ_ret ?_ | refine blockQ_ret ?_)
    refine ret_tmp (st := _) rfl (by conv => lhs; whnf) rfl ?_
    first | rfl | exact fT (by first | omega | grind) | exact fF (by first | omega | grind) | exact fT' (by first | omega | grind) | (exfalso; first | omega | grind)
  · first | replace hb3 := dT hb3 | skip
    refine ev_q rfl (q_assign (by conv => lhs; whnf) ?_)
    refine ev_nil (hK2 _ ?_); clear hK2
    refine good_ret ?_
    repeat (first | refine thenQ_ret ?_ | refine blockQ_ret ?_)
    refine ret_tmp (st := _) rfl (by conv => lhs; whnf) rfl ?_
    first | rfl | exact fT (by first | omega | grind) | exact fF (by first | omega | grind) | exact fT' (by first | omega | grind) | (exfalso; first | omega | grind)

-- spec.l10Coat
set_option maxRecDepth 20000 in
set_option maxHeartbeats 8000000 in
theorem D_spec_l10Coat (d t c : Int) (h : 20 ≤ d ∧ d ≤ 1000 ∧ 1 ≤ t ∧ t ≤ 300 ∧ 1 ≤ c ∧ c ≤ 1000) : Den Try.prog 66 [.s (.int .i64 d), .s (.int .i64 t), .s (.int .i64 c)] (.s (.int .i64 (coat d t c))) := by
  refine den_of_good Try.func66 (by decide) rfl (Nat.le_of_ble_eq_true rfl) ?_
  refine good_seq fun K1 hK1 => ?_
  refine good_region rfl ?_
  refine ev_q rfl (q_assign (by conv => lhs; whnf) ?_)
  refine ev_nil (hK1 _ ?_); clear hK1
  refine good_seq fun K2 hK2 => ?_
  refine good_region rfl ?_
  refine ev_q rfl (q_move (by conv => lhs; whnf) ?_)
  refine ev_q rfl (q_int rfl rfl ?_)
  intro n3 hn3
  replace hn3 := in64 hn3 (by omega) (by omega)
  refine ev_q rfl (q_move (by conv => lhs; whnf) ?_)
  refine ev_q rfl (q_move (by conv => lhs; whnf) ?_)
  refine ev_q rfl (q_int rfl rfl ?_)
  intro n4 hn4
  replace hn4 := in64 hn4 (by omega) (by omega)
  refine ev_q rfl (q_int rfl rfl ?_)
  intro n5 hn5
  have hm := coatB h
  simp only [hn3, hn4] at hn5
  replace hn5 := in64 hn5 (by omega) (by omega)
  refine ev_q rfl (q_move (by conv => lhs; whnf) ?_)
  refine ev_q rfl (q_callI rfl rfl rfl (D_spec_l01Div _ _ (by omega) (by omega)) ?_)
  intro n6 hn6
  refine ev_q rfl (q_assign (by conv => lhs; whnf) ?_)
  refine ev_nil (hK2 _ ?_); clear hK2
  refine good_seq fun K7 hK7 => ?_
  refine good_region rfl ?_
  refine ev_q rfl (q_move (by conv => lhs; whnf) ?_)
  refine ev_q rfl (q_callI rfl rfl rfl (D_spec_l00Min ..) ?_)
  intro n8 hn8
  refine ev_q rfl (q_callI rfl rfl rfl (D_spec_l00Max ..) ?_)
  intro n9 hn9
  refine ev_q rfl (q_assign (by conv => lhs; whnf) ?_)
  refine ev_nil (hK7 _ ?_); clear hK7
  refine good_ret ?_
  repeat (first | refine thenQ_ret ?_ | refine blockQ_ret ?_)
  refine ret_tmp (st := _) rfl (by conv => lhs; whnf) rfl ?_
  exact fI (by subst_vars; simp only [coat]; omega)

-- impl.coatLoss
set_option maxRecDepth 20000 in
set_option maxHeartbeats 8000000 in
theorem D_impl_coatLoss (d t c : Int) (h : 20 ≤ d ∧ d ≤ 1000 ∧ 1 ≤ t ∧ t ≤ 300 ∧ 1 ≤ c ∧ c ≤ 1000) : Den Try.prog 69 [.s (.int .i64 d), .s (.int .i64 t), .s (.int .i64 c)] (.s (.int .i64 (coat d t c))) := by
  refine den_of_good Try.func69 (by decide) rfl (Nat.le_of_ble_eq_true rfl) ?_
  refine good_seq fun K1 hK1 => ?_
  refine good_region rfl ?_
  refine ev_q rfl (q_assign (by conv => lhs; whnf) ?_)
  refine ev_nil (hK1 _ ?_); clear hK1
  refine good_seq fun K2 hK2 => ?_
  refine good_region rfl ?_
  refine ev_q rfl (q_move (by conv => lhs; whnf) ?_)
  refine ev_q rfl (q_int rfl rfl ?_)
  intro n3 hn3
  replace hn3 := in64 hn3 (by omega) (by omega)
  refine ev_q rfl (q_move (by conv => lhs; whnf) ?_)
  refine ev_q rfl (q_move (by conv => lhs; whnf) ?_)
  refine ev_q rfl (q_int rfl rfl ?_)
  intro n4 hn4
  replace hn4 := in64 hn4 (by omega) (by omega)
  refine ev_q rfl (q_int rfl rfl ?_)
  intro n5 hn5
  have hm := coatB h
  simp only [hn3, hn4] at hn5
  replace hn5 := in64 hn5 (by omega) (by omega)
  refine ev_q rfl (q_move (by conv => lhs; whnf) ?_)
  refine ev_q rfl (q_callI rfl rfl rfl (D_impl_divRound _ _ (by omega) (by omega)) ?_)
  intro n6 hn6
  refine ev_q rfl (q_max rfl rfl ?_)
  intro n7 hn7; simp only [mxI, mnI] at hn7
  refine ev_q rfl (q_min rfl rfl ?_)
  intro n8 hn8; simp only [mxI, mnI] at hn8
  refine ev_q rfl (q_assign (by conv => lhs; whnf) ?_)
  refine ev_nil (hK2 _ ?_); clear hK2
  refine good_ret ?_
  repeat (first | refine thenQ_ret ?_ | refine blockQ_ret ?_)
  refine ret_tmp (st := _) rfl (by conv => lhs; whnf) rfl ?_
  exact fI (by subst_vars; simp only [coat]; omega)

theorem loB {lo le wa gr : Int} (h1 : 0 ≤ lo ∧ lo ≤ 5000) (h2 : 1 ≤ le ∧ le ≤ 10000) (h3 : -5000 ≤ wa ∧ wa ≤ 20000) (h4 : -5000 ≤ gr ∧ gr ≤ 20000) : (0 ≤ lo * le ∧ lo * le ≤ 50000000) ∧ (-1250000000000 ≤ lo * le * (wa - gr) ∧ lo * le * (wa - gr) ≤ 1250000000000) ∧ (-12500001 ≤ dr (lo * le * (wa - gr)) 100000 ∧ dr (lo * le * (wa - gr)) 100000 ≤ 12500001) := by
  have a1 := mulB (a := lo) (b := le) (A := 5000) (B := 10000) (by omega) (by omega) (by omega) (by omega)
  have a2 := mulS (a := lo * le) (b := wa - gr) (A := 50000000) (B := 25000) (by omega) (by omega) (by omega) (by omega)
  generalize lo * le * (wa - gr) = z at a2
  exact ⟨by omega, by omega, by simp only [dr, drP]; omega⟩

-- spec.l10Loses
set_option maxRecDepth 20000 in
set_option maxHeartbeats 8000000 in
theorem D_spec_l10Loses (lo le wa gr : Int) (h1 : 0 ≤ lo ∧ lo ≤ 5000) (h2 : 1 ≤ le ∧ le ≤ 10000) (h3 : -5000 ≤ wa ∧ wa ≤ 20000) (h4 : -5000 ≤ gr ∧ gr ≤ 20000) : Den Try.prog 65 [.s (.int .i64 lo), .s (.int .i64 le), .s (.int .i64 wa), .s (.int .i64 gr)] (.s (.int .i64 (dr (lo * le * (wa - gr)) 100000))) := by
  have hb := loB h1 h2 h3 h4
  refine den_of_good Try.func65 (by decide) rfl (Nat.le_of_ble_eq_true rfl) ?_
  refine good_seq fun K1 hK1 => ?_
  refine good_region rfl ?_
  refine ev_q rfl (q_assign (by conv => lhs; whnf) ?_)
  refine ev_nil (hK1 _ ?_); clear hK1
  refine good_seq fun K2 hK2 => ?_
  refine good_region rfl ?_
  refine ev_q rfl (q_move (by conv => lhs; whnf) ?_)
  refine ev_q rfl (q_move (by conv => lhs; whnf) ?_)
  refine ev_q rfl (q_int rfl rfl ?_)
  intro n3 hn3
  replace hn3 := in64 hn3 (by omega) (by omega)
  refine ev_q rfl (q_move (by conv => lhs; whnf) ?_)
  refine ev_q rfl (q_move (by conv => lhs; whnf) ?_)
  refine ev_q rfl (q_int rfl rfl ?_)
  intro n4 hn4
  replace hn4 := in64 hn4 (by omega) (by omega)
  refine ev_q rfl (q_int rfl rfl ?_)
  intro n5 hn5
  rw [hn3, hn4] at hn5
  replace hn5 := in64 hn5 (by omega) (by omega)
  refine ev_q rfl (q_callI rfl rfl rfl (D_spec_l01Div _ _ (by omega) (by omega)) ?_)
  intro n6 hn6
  rw [hn5] at hn6
  refine ev_q rfl (q_assign (by conv => lhs; whnf) ?_)
  refine ev_nil (hK2 _ ?_); clear hK2
  refine good_ret ?_
  repeat (first | refine thenQ_ret ?_ | refine blockQ_ret ?_)
  refine ret_tmp (st := _) rfl (by conv => lhs; whnf) rfl ?_
  first | rfl | exact fI (by first | omega | grind) | (exfalso; first | omega | grind)

-- (impl.Pipe).loss
set_option maxRecDepth 20000 in
set_option maxHeartbeats 8000000 in
theorem D_impl_Pipe_loss (s : ByteArray) (fm tt le di lo : Int) (wa gr : Int) (h1 : 0 ≤ lo ∧ lo ≤ 5000) (h2 : 1 ≤ le ∧ le ≤ 10000) (h3 : -5000 ≤ wa ∧ wa ≤ 20000) (h4 : -5000 ≤ gr ∧ gr ≤ 20000) : Den Try.prog 70 [.agg [.s (.string s), .s (.int .i64 fm), .s (.int .i64 tt), .s (.int .i64 le), .s (.int .i64 di), .s (.int .i64 lo)], .s (.int .i64 wa), .s (.int .i64 gr)] (.s (.int .i64 (dr (lo * le * (wa - gr)) 100000))) := by
  have hb := loB h1 h2 h3 h4
  refine den_of_good Try.func70 (by decide) rfl (Nat.le_of_ble_eq_true rfl) ?_
  refine good_seq fun K1 hK1 => ?_
  refine good_region rfl ?_
  refine ev_k rfl (k_box (by conv => lhs; whnf) rfl rfl rfl ?_)
  refine ev_q rfl (q_assign (by conv => lhs; whnf) ?_)
  refine ev_nil (hK1 _ ?_); clear hK1
  refine good_seq fun K2 hK2 => ?_
  refine good_region rfl ?_
  refine ev_q rfl (q_fieldAddrP fO27_5 rfl rfl ?_)
  refine ev_q rfl (q_load tA2 rfl ?_)
  refine ev_q rfl (q_fieldAddrP fO27_3 rfl rfl ?_)
  refine ev_q rfl (q_load tA2 rfl ?_)
  refine ev_q rfl (q_int rfl rfl ?_)
  intro n3 hn3
  replace hn3 := in64 hn3 (by omega) (by omega)
  refine ev_q rfl (q_move (by conv => lhs; whnf) ?_)
  refine ev_q rfl (q_move (by conv => lhs; whnf) ?_)
  refine ev_q rfl (q_int rfl rfl ?_)
  intro n4 hn4
  replace hn4 := in64 hn4 (by omega) (by omega)
  refine ev_q rfl (q_int rfl rfl ?_)
  intro n5 hn5
  rw [hn3, hn4] at hn5
  replace hn5 := in64 hn5 (by omega) (by omega)
  refine ev_q rfl (q_callI rfl rfl rfl (D_impl_divRound _ _ (by omega) (by omega)) ?_)
  intro n6 hn6
  rw [hn5] at hn6
  refine ev_q rfl (q_assign (by conv => lhs; whnf) ?_)
  refine ev_nil (hK2 _ ?_); clear hK2
  refine good_ret ?_
  repeat (first | refine thenQ_ret ?_ | refine blockQ_ret ?_)
  refine ret_tmp (st := _) rfl (by conv => lhs; whnf) rfl ?_
  first | rfl | exact fI (by first | omega | grind) | (exfalso; first | omega | grind)

theorem ccB {le th pr : Int} (h1 : 1 ≤ le ∧ le ≤ 10000) (h2 : 1 ≤ th ∧ th ≤ 300) (h3 : 0 ≤ pr ∧ pr ≤ 1000) : (0 ≤ th * th ∧ th * th ≤ 90000) ∧ (0 ≤ (th * th + 100) * pr ∧ (th * th + 100) * pr ≤ 90100000) ∧ (-90100001 ≤ dr ((th * th + 100) * pr) 100 ∧ dr ((th * th + 100) * pr) 100 ≤ 90100001) ∧ (-901000010000 ≤ le * dr ((th * th + 100) * pr) 100 ∧ le * dr ((th * th + 100) * pr) 100 ≤ 901000010000) := by
  have a1 := mulB (a := th) (b := th) (A := 300) (B := 300) (by omega) (by omega) (by omega) (by omega)
  have a2 := mulB (a := th * th + 100) (b := pr) (A := 90100) (B := 1000) (by omega) (by omega) (by omega) (by omega)
  have a3 := dr_bound (a := (th * th + 100) * pr) (b := 100) (by omega)
  have a4 := mulS (a := le) (b := dr ((th * th + 100) * pr) 100) (A := 10000) (B := 90100001) (by omega) (by omega) (by omega) (by omega)
  exact ⟨by omega, by omega, by omega, by omega⟩

-- spec.l10Costs
set_option maxRecDepth 20000 in
set_option maxHeartbeats 8000000 in
theorem D_spec_l10Costs (le th pr : Int) (h1 : 1 ≤ le ∧ le ≤ 10000) (h2 : 1 ≤ th ∧ th ≤ 300) (h3 : 0 ≤ pr ∧ pr ≤ 1000) : Den Try.prog 58 [.s (.int .i64 le), .s (.int .i64 th), .s (.int .i64 pr)] (.s (.int .i64 (le * dr ((th * th + 100) * pr) 100))) := by
  have hb := ccB h1 h2 h3
  refine den_of_good Try.func58 (by decide) rfl (Nat.le_of_ble_eq_true rfl) ?_
  refine good_seq fun K1 hK1 => ?_
  refine good_region rfl ?_
  refine ev_q rfl (q_assign (by conv => lhs; whnf) ?_)
  refine ev_nil (hK1 _ ?_); clear hK1
  refine good_seq fun K2 hK2 => ?_
  refine good_region rfl ?_
  refine ev_q rfl (q_move (by conv => lhs; whnf) ?_)
  refine ev_q rfl (q_move (by conv => lhs; whnf) ?_)
  refine ev_q rfl (q_move (by conv => lhs; whnf) ?_)
  refine ev_q rfl (q_int rfl rfl ?_)
  intro n3 hn3
  replace hn3 := in64 hn3 (by omega) (by omega)
  refine ev_q rfl (q_int rfl rfl ?_)
  intro n4 hn4
  replace hn4 := in64 hn4 (by omega) (by omega)
  refine ev_q rfl (q_move (by conv => lhs; whnf) ?_)
  refine ev_q rfl (q_int rfl rfl ?_)
  intro n5 hn5
  rw [hn4, hn3] at hn5
  replace hn5 := in64 hn5 (by omega) (by omega)
  refine ev_q rfl (q_callI rfl rfl rfl (D_spec_l01Div _ _ (by omega) (by omega)) ?_)
  intro n6 hn6
  rw [hn5] at hn6
  refine ev_q rfl (q_int rfl rfl ?_)
  intro n7 hn7
  rw [hn6] at hn7
  replace hn7 := in64 hn7 (by omega) (by omega)
  refine ev_q rfl (q_assign (by conv => lhs; whnf) ?_)
  refine ev_nil (hK2 _ ?_); clear hK2
  refine good_ret ?_
  repeat (first | refine thenQ_ret ?_ | refine blockQ_ret ?_)
  refine ret_tmp (st := _) rfl (by conv => lhs; whnf) rfl ?_
  first | rfl | exact fI (by first | omega | grind) | (exfalso; first | omega | grind)

-- (impl.Pipe).coatCost
set_option maxRecDepth 20000 in
set_option maxHeartbeats 8000000 in
theorem D_impl_Pipe_coatCost (s : ByteArray) (fm tt le di lo : Int) (th pr : Int) (h1 : 1 ≤ le ∧ le ≤ 10000) (h2 : 1 ≤ th ∧ th ≤ 300) (h3 : 0 ≤ pr ∧ pr ≤ 1000) : Den Try.prog 61 [.agg [.s (.string s), .s (.int .i64 fm), .s (.int .i64 tt), .s (.int .i64 le), .s (.int .i64 di), .s (.int .i64 lo)], .s (.int .i64 th), .s (.int .i64 pr)] (.s (.int .i64 (le * dr ((th * th + 100) * pr) 100))) := by
  have hb := ccB h1 h2 h3
  refine den_of_good Try.func61 (by decide) rfl (Nat.le_of_ble_eq_true rfl) ?_
  refine good_seq fun K1 hK1 => ?_
  refine good_region rfl ?_
  refine ev_k rfl (k_box (by conv => lhs; whnf) rfl rfl rfl ?_)
  refine ev_q rfl (q_assign (by conv => lhs; whnf) ?_)
  refine ev_nil (hK1 _ ?_); clear hK1
  refine good_seq fun K2 hK2 => ?_
  refine good_draw 11 hmix (by kernel_rfl) rfl ?_
  refine qo_q rfl (q_fieldAddrP fO27_3 rfl rfl ?_)
  refine qo_q rfl (q_load tA2 rfl ?_)
  refine qo_q rfl (q_move (by conv => lhs; whnf) ?_)
  refine qo_q rfl (q_move (by conv => lhs; whnf) ?_)
  refine qo_q rfl (q_int rfl rfl ?_)
  intro n3 hn3
  replace hn3 := in64 hn3 (by omega) (by omega)
  refine qo_q rfl (q_int rfl rfl ?_)
  intro n4 hn4
  replace hn4 := in64 hn4 (by omega) (by omega)
  refine qo_q rfl (q_move (by conv => lhs; whnf) ?_)
  refine qo_q rfl (q_int rfl rfl ?_)
  intro n5 hn5
  rw [hn4, hn3] at hn5
  replace hn5 := in64 hn5 (by omega) (by omega)
  refine qo_q rfl (q_callI rfl rfl rfl (D_impl_divRound _ _ (by omega) (by omega)) ?_)
  intro n6 hn6
  rw [hn5] at hn6
  refine qo_q rfl (q_int rfl rfl ?_)
  intro n7 hn7
  rw [hn6] at hn7
  replace hn7 := in64 hn7 (by omega) (by omega)
  refine qo_q rfl (q_assign (by conv => lhs; whnf) ?_)
  refine qo_nil ?_
  refine ev_nil (hK2 _ ?_); clear hK2
  refine good_ret ?_
  repeat (first | refine thenQ_ret ?_ | refine blockQ_ret ?_)
  refine ret_tmp (st := _) rfl (by conv => lhs; whnf) rfl ?_
  first | rfl | exact fI (by first | omega | grind) | (exfalso; first | omega | grind)

theorem btB {di le co pr he ye wa gr t : Int} (h1 : 20 ≤ di ∧ di ≤ 1000) (h2 : 1 ≤ le ∧ le ≤ 10000) (h3 : 0 ≤ pr ∧ pr ≤ 1000) (h4 : 0 ≤ he ∧ he ≤ 1000) (h5 : 1 ≤ ye ∧ ye ≤ 100) (h6 : -5000 ≤ wa ∧ wa ≤ 20000) (h7 : -5000 ≤ gr ∧ gr ≤ 20000) (h8 : 1 ≤ t ∧ t ≤ 300) :
    (0 ≤ btL di le co wa gr t ∧ btL di le co wa gr t ≤ 12500001) ∧ (0 ≤ btL di le co wa gr t * 876 * he ∧ btL di le co wa gr t * 876 * he ≤ 10950000876000) ∧ (0 ≤ btL di le co wa gr t * 876 * he * ye ∧ btL di le co wa gr t * 876 * he * ye ≤ 1095000087600000) ∧ (0 ≤ dr (btL di le co wa gr t * 876 * he * ye) 100000 ∧ dr (btL di le co wa gr t * 876 * he * ye) 100000 ≤ 10950000877) ∧ (0 ≤ le * dr ((t * t + 100) * pr) 100 ∧ le * dr ((t * t + 100) * pr) 100 ≤ 901000010000) ∧ 0 ≤ btC di le co pr he ye wa gr t := by
  have c1 := coat_bd (d := di) (t := t) (c := co)
  have l1 := (loB (lo := coat di t co) (by omega) h2 h6 h7).2.2
  have a1 : 0 ≤ btL di le co wa gr t ∧ btL di le co wa gr t ≤ 12500001 := by unfold btL; omega
  have a2 := mulB (a := btL di le co wa gr t * 876) (b := he) (A := 10950000876) (B := 1000) (by omega) (by omega) (by omega) (by omega)
  have a3 := mulB (a := btL di le co wa gr t * 876 * he) (b := ye) (A := 10950000876000) (B := 100) (by omega) (by omega) (by omega) (by omega)
  have a4 : 0 ≤ dr (btL di le co wa gr t * 876 * he * ye) 100000 ∧ dr (btL di le co wa gr t * 876 * he * ye) 100000 ≤ 10950000877 := by
    generalize btL di le co wa gr t * 876 * he * ye = z at a3
    simp only [dr, drP]; omega
  have a5 := ccB h2 h8 h3
  have a6 : 0 ≤ dr ((t * t + 100) * pr) 100 := by
    have := a5.2.1
    generalize (t * t + 100) * pr = z at this
    simp only [dr, drP]; omega
  have a7 : 0 ≤ le * dr ((t * t + 100) * pr) 100 := Int.mul_nonneg (by omega) a6
  exact ⟨a1, by omega, by omega, a4, ⟨a7, a5.2.2.2.2⟩, by unfold btC; omega⟩

-- spec.BestThickness
set_option maxRecDepth 20000 in
set_option maxHeartbeats 8000000 in
theorem D_spec_BestThickness (s : ByteArray) (fm tt le di lo : Int) (co pr he ye wa gr : Int) (hs : s.size ≤ 140737488351232) : Den Try.prog 17 [.agg [.s (.string s), .s (.int .i64 fm), .s (.int .i64 tt), .s (.int .i64 le), .s (.int .i64 di), .s (.int .i64 lo)], .s (.int .i64 co), .s (.int .i64 pr), .s (.int .i64 he), .s (.int .i64 ye), .s (.int .i64 wa), .s (.int .i64 gr)] (.tup [.s (.int .i64 (if isName s = true ∧ (0 ≤ fm ∧ fm ≤ 15) ∧ (0 ≤ tt ∧ tt ≤ 15) ∧ ¬ fm = tt ∧ (1 ≤ le ∧ le ≤ 10000) ∧ (20 ≤ di ∧ di ≤ 1000) ∧ (0 ≤ lo ∧ lo ≤ 5000) then (if (1 ≤ co ∧ co ≤ 1000) ∧ (0 ≤ pr ∧ pr ≤ 1000) ∧ (0 ≤ he ∧ he ≤ 1000) ∧ (1 ≤ ye ∧ ye ≤ 100) ∧ (-5000 ≤ wa ∧ wa ≤ 20000) ∧ (-5000 ≤ gr ∧ gr ≤ 20000) then (btG (btC di le co pr he ye wa gr) 300).1 else 0) else 0)), .s (.int .i64 (if isName s = true ∧ (0 ≤ fm ∧ fm ≤ 15) ∧ (0 ≤ tt ∧ tt ≤ 15) ∧ ¬ fm = tt ∧ (1 ≤ le ∧ le ≤ 10000) ∧ (20 ≤ di ∧ di ≤ 1000) ∧ (0 ≤ lo ∧ lo ≤ 5000) then (if (1 ≤ co ∧ co ≤ 1000) ∧ (0 ≤ pr ∧ pr ≤ 1000) ∧ (0 ≤ he ∧ he ≤ 1000) ∧ (1 ≤ ye ∧ ye ≤ 100) ∧ (-5000 ≤ wa ∧ wa ≤ 20000) ∧ (-5000 ≤ gr ∧ gr ≤ 20000) then (btG (btC di le co pr he ye wa gr) 300).2 else 0) else 0)), .s (.int .i64 (if isName s = true ∧ (0 ≤ fm ∧ fm ≤ 15) ∧ (0 ≤ tt ∧ tt ≤ 15) ∧ ¬ fm = tt ∧ (1 ≤ le ∧ le ≤ 10000) ∧ (20 ≤ di ∧ di ≤ 1000) ∧ (0 ≤ lo ∧ lo ≤ 5000) then (if (1 ≤ co ∧ co ≤ 1000) ∧ (0 ≤ pr ∧ pr ≤ 1000) ∧ (0 ≤ he ∧ he ≤ 1000) ∧ (1 ≤ ye ∧ ye ≤ 100) ∧ (-5000 ≤ wa ∧ wa ≤ 20000) ∧ (-5000 ≤ gr ∧ gr ≤ 20000) then 0 else 2) else 1))]) := by
  refine den_of_good Try.func17 (by decide) rfl (Nat.le_of_ble_eq_true rfl) ?_
  refine good_seq fun K1 hK1 => ?_
  refine good_region rfl ?_
  refine ev_k rfl (k_box (by conv => lhs; whnf) rfl rfl rfl ?_)
  refine ev_q rfl (q_assign (by conv => lhs; whnf) ?_)
  refine ev_q rfl (q_assign (by conv => lhs; whnf) ?_)
  refine ev_q rfl (q_assign (by conv => lhs; whnf) ?_)
  refine ev_nil (hK1 _ ?_); clear hK1
  refine good_seq fun K2 hK2 => ?_
  refine good_seq fun K3 hK3 => ?_
  refine good_region rfl ?_
  refine ev_q rfl (q_callB rfl rfl rfl (D_spec_l03Ok _ _ _ _ _ _ hs) ?_)
  intro b4 hb4; cases b4
  · first | replace hb4 := dF hb4 | skip
    refine ev_q rfl (q_not rfl rfl ?_)
    refine ev_nil (hK3 _ ?_); clear hK3
    refine good_condT rfl ?_
    refine good_seq fun K5 hK5 => ?_
    refine good_region rfl ?_
    refine ev_q rfl (q_assign (by conv => lhs; whnf) ?_)
    refine ev_q rfl (q_assign (by conv => lhs; whnf) ?_)
    refine ev_q rfl (q_assign (by conv => lhs; whnf) ?_)
    refine ev_nil (hK5 _ ?_); clear hK5
    refine good_ret ?_
    repeat (first | refine thenQ_ret ?_ | refine blockQ_ret ?_)
    refine ret_many rfl ?_
    refine res_tmp (by conv => lhs; whnf) rfl ?_
    refine res_tmp (by conv => lhs; whnf) rfl ?_
    refine res_tmp (by conv => lhs; whnf) rfl ?_
    refine res_nil ?_
    clear hK2
    first | exact fTup1 (fI (by rw [if_neg (by assumption)])) (fTup1 (fI (by rw [if_neg (by assumption)])) (fTup1 (fI (by rw [if_neg (by assumption)])) rfl)) | exact fTup1 (fI (by rw [if_pos (by assumption), if_neg (fun h => by grind)])) (fTup1 (fI (by rw [if_pos (by assumption), if_neg (fun h => by grind)])) (fTup1 (fI (by rw [if_pos (by assumption), if_neg (fun h => by grind)])) rfl)) | (have e : n = 300 := (by omega); have okr : (1 ≤ co ∧ co ≤ 1000) ∧ (0 ≤ pr ∧ pr ≤ 1000) ∧ (0 ≤ he ∧ he ≤ 1000) ∧ (1 ≤ ye ∧ ye ≤ 100) ∧ (-5000 ≤ wa ∧ wa ≤ 20000) ∧ (-5000 ≤ gr ∧ gr ≤ 20000) := ⟨(by assumption), (by assumption), (by assumption), (by assumption), (by assumption), (by assumption)⟩; exact fTup1 (fI (by rw [if_pos (by assumption), if_pos okr, e])) (fTup1 (fI (by rw [if_pos (by assumption), if_pos okr]; first | (rw [btI_ne (by omega), e]) | rw [e])) (fTup1 (fI (by rw [if_pos (by assumption), if_pos okr])) rfl)))
  · first | replace hb4 := dT hb4 | skip
    refine ev_q rfl (q_not rfl rfl ?_)
    refine ev_nil (hK3 _ ?_); clear hK3
    refine good_condF rfl ?_
    refine good_skip (hK2 _ ?_); clear hK2
    refine good_seq fun K6 hK6 => ?_
    refine good_seq fun K7 hK7 => ?_
    refine good_region rfl ?_
    refine ev_q rfl (q_move (by conv => lhs; whnf) ?_)
    refine ev_q rfl (q_callB rfl rfl rfl (D_spec_l10Conductivity ..) ?_)
    intro b8 hb8; cases b8
    · first | replace hb8 := dF hb8 | skip
      refine ev_q rfl (q_not rfl rfl ?_)
      refine ev_q rfl (q_move (by conv => lhs; whnf) ?_)
      refine ev_skip rfl ?_
      refine ev_skip rfl ?_
      refine ev_skip rfl ?_
      refine ev_q rfl (q_pickT rfl (by conv => lhs; whnf) ?_)
      refine ev_q rfl (q_move (by conv => lhs; whnf) ?_)
      refine ev_skip rfl ?_
      refine ev_skip rfl ?_
      refine ev_skip rfl ?_
      refine ev_q rfl (q_pickT rfl (by conv => lhs; whnf) ?_)
      refine ev_q rfl (q_move (by conv => lhs; whnf) ?_)
      refine ev_skip rfl ?_
      refine ev_skip rfl ?_
      refine ev_skip rfl ?_
      refine ev_q rfl (q_pickT rfl (by conv => lhs; whnf) ?_)
      refine ev_q rfl (q_move (by conv => lhs; whnf) ?_)
      refine ev_skip rfl ?_
      refine ev_skip rfl ?_
      refine ev_skip rfl ?_
      refine ev_q rfl (q_pickT rfl (by conv => lhs; whnf) ?_)
      refine ev_q rfl (q_move (by conv => lhs; whnf) ?_)
      refine ev_skip rfl ?_
      refine ev_skip rfl ?_
      refine ev_skip rfl ?_
      refine ev_q rfl (q_pickT rfl (by conv => lhs; whnf) ?_)
      refine ev_nil (hK7 _ ?_); clear hK7
      refine good_condT rfl ?_
      refine good_seq fun K9 hK9 => ?_
      refine good_region rfl ?_
      refine ev_q rfl (q_assign (by conv => lhs; whnf) ?_)
      refine ev_q rfl (q_assign (by conv => lhs; whnf) ?_)
      refine ev_q rfl (q_assign (by conv => lhs; whnf) ?_)
      refine ev_nil (hK9 _ ?_); clear hK9
      refine good_ret ?_
      repeat (first | refine thenQ_ret ?_ | refine blockQ_ret ?_)
      refine ret_many rfl ?_
      refine res_tmp (by conv => lhs; whnf) rfl ?_
      refine res_tmp (by conv => lhs; whnf) rfl ?_
      refine res_tmp (by conv => lhs; whnf) rfl ?_
      refine res_nil ?_
      clear hK6
      first | exact fTup1 (fI (by rw [if_neg (by assumption)])) (fTup1 (fI (by rw [if_neg (by assumption)])) (fTup1 (fI (by rw [if_neg (by assumption)])) rfl)) | exact fTup1 (fI (by rw [if_pos (by assumption), if_neg (fun h => by grind)])) (fTup1 (fI (by rw [if_pos (by assumption), if_neg (fun h => by grind)])) (fTup1 (fI (by rw [if_pos (by assumption), if_neg (fun h => by grind)])) rfl)) | (have e : n = 300 := (by omega); have okr : (1 ≤ co ∧ co ≤ 1000) ∧ (0 ≤ pr ∧ pr ≤ 1000) ∧ (0 ≤ he ∧ he ≤ 1000) ∧ (1 ≤ ye ∧ ye ≤ 100) ∧ (-5000 ≤ wa ∧ wa ≤ 20000) ∧ (-5000 ≤ gr ∧ gr ≤ 20000) := ⟨(by assumption), (by assumption), (by assumption), (by assumption), (by assumption), (by assumption)⟩; exact fTup1 (fI (by rw [if_pos (by assumption), if_pos okr, e])) (fTup1 (fI (by rw [if_pos (by assumption), if_pos okr]; first | (rw [btI_ne (by omega), e]) | rw [e])) (fTup1 (fI (by rw [if_pos (by assumption), if_pos okr])) rfl)))
    · first | replace hb8 := dT hb8 | skip
      refine ev_q rfl (q_not rfl rfl ?_)
      refine ev_q rfl (q_move (by conv => lhs; whnf) ?_)
      refine ev_q rfl (q_move (by conv => lhs; whnf) ?_)
      refine ev_q rfl (q_callB rfl rfl rfl (D_spec_l00In ..) ?_)
      intro b10 hb10; cases b10
      · first | replace hb10 := dF hb10 | skip
        refine ev_q rfl (q_not rfl rfl ?_)
        refine ev_q rfl (q_pickF rfl (by conv => lhs; whnf) ?_)
        refine ev_q rfl (q_move (by conv => lhs; whnf) ?_)
        refine ev_skip rfl ?_
        refine ev_skip rfl ?_
        refine ev_skip rfl ?_
        refine ev_q rfl (q_pickT rfl (by conv => lhs; whnf) ?_)
        refine ev_q rfl (q_move (by conv => lhs; whnf) ?_)
        refine ev_skip rfl ?_
        refine ev_skip rfl ?_
        refine ev_skip rfl ?_
        refine ev_q rfl (q_pickT rfl (by conv => lhs; whnf) ?_)
        refine ev_q rfl (q_move (by conv => lhs; whnf) ?_)
        refine ev_skip rfl ?_
        refine ev_skip rfl ?_
        refine ev_skip rfl ?_
        refine ev_q rfl (q_pickT rfl (by conv => lhs; whnf) ?_)
        refine ev_q rfl (q_move (by conv => lhs; whnf) ?_)
        refine ev_skip rfl ?_
        refine ev_skip rfl ?_
        refine ev_skip rfl ?_
        refine ev_q rfl (q_pickT rfl (by conv => lhs; whnf) ?_)
        refine ev_nil (hK7 _ ?_); clear hK7
        refine good_condT rfl ?_
        refine good_seq fun K11 hK11 => ?_
        refine good_region rfl ?_
        refine ev_q rfl (q_assign (by conv => lhs; whnf) ?_)
        refine ev_q rfl (q_assign (by conv => lhs; whnf) ?_)
        refine ev_q rfl (q_assign (by conv => lhs; whnf) ?_)
        refine ev_nil (hK11 _ ?_); clear hK11
        refine good_ret ?_
        repeat (first | refine thenQ_ret ?_ | refine blockQ_ret ?_)
        refine ret_many rfl ?_
        refine res_tmp (by conv => lhs; whnf) rfl ?_
        refine res_tmp (by conv => lhs; whnf) rfl ?_
        refine res_tmp (by conv => lhs; whnf) rfl ?_
        refine res_nil ?_
        clear hK6
        first | exact fTup1 (fI (by rw [if_neg (by assumption)])) (fTup1 (fI (by rw [if_neg (by assumption)])) (fTup1 (fI (by rw [if_neg (by assumption)])) rfl)) | exact fTup1 (fI (by rw [if_pos (by assumption), if_neg (fun h => by grind)])) (fTup1 (fI (by rw [if_pos (by assumption), if_neg (fun h => by grind)])) (fTup1 (fI (by rw [if_pos (by assumption), if_neg (fun h => by grind)])) rfl)) | (have e : n = 300 := (by omega); have okr : (1 ≤ co ∧ co ≤ 1000) ∧ (0 ≤ pr ∧ pr ≤ 1000) ∧ (0 ≤ he ∧ he ≤ 1000) ∧ (1 ≤ ye ∧ ye ≤ 100) ∧ (-5000 ≤ wa ∧ wa ≤ 20000) ∧ (-5000 ≤ gr ∧ gr ≤ 20000) := ⟨(by assumption), (by assumption), (by assumption), (by assumption), (by assumption), (by assumption)⟩; exact fTup1 (fI (by rw [if_pos (by assumption), if_pos okr, e])) (fTup1 (fI (by rw [if_pos (by assumption), if_pos okr]; first | (rw [btI_ne (by omega), e]) | rw [e])) (fTup1 (fI (by rw [if_pos (by assumption), if_pos okr])) rfl)))
      · first | replace hb10 := dT hb10 | skip
        refine ev_q rfl (q_not rfl rfl ?_)
        refine ev_q rfl (q_pickF rfl (by conv => lhs; whnf) ?_)
        refine ev_q rfl (q_move (by conv => lhs; whnf) ?_)
        refine ev_q rfl (q_move (by conv => lhs; whnf) ?_)
        refine ev_q rfl (q_callB rfl rfl rfl (D_spec_l00In ..) ?_)
        intro b12 hb12; cases b12
        · first | replace hb12 := dF hb12 | skip
          refine ev_q rfl (q_not rfl rfl ?_)
          refine ev_q rfl (q_pickF rfl (by conv => lhs; whnf) ?_)
          refine ev_q rfl (q_move (by conv => lhs; whnf) ?_)
          refine ev_skip rfl ?_
          refine ev_skip rfl ?_
          refine ev_skip rfl ?_
          refine ev_q rfl (q_pickT rfl (by conv => lhs; whnf) ?_)
          refine ev_q rfl (q_move (by conv => lhs; whnf) ?_)
          refine ev_skip rfl ?_
          refine ev_skip rfl ?_
          refine ev_skip rfl ?_
          refine ev_q rfl (q_pickT rfl (by conv => lhs; whnf) ?_)
          refine ev_q rfl (q_move (by conv => lhs; whnf) ?_)
          refine ev_skip rfl ?_
          refine ev_skip rfl ?_
          refine ev_skip rfl ?_
          refine ev_q rfl (q_pickT rfl (by conv => lhs; whnf) ?_)
          refine ev_nil (hK7 _ ?_); clear hK7
          refine good_condT rfl ?_
          refine good_seq fun K13 hK13 => ?_
          refine good_region rfl ?_
          refine ev_q rfl (q_assign (by conv => lhs; whnf) ?_)
          refine ev_q rfl (q_assign (by conv => lhs; whnf) ?_)
          refine ev_q rfl (q_assign (by conv => lhs; whnf) ?_)
          refine ev_nil (hK13 _ ?_); clear hK13
          refine good_ret ?_
          repeat (first | refine thenQ_ret ?_ | refine blockQ_ret ?_)
          refine ret_many rfl ?_
          refine res_tmp (by conv => lhs; whnf) rfl ?_
          refine res_tmp (by conv => lhs; whnf) rfl ?_
          refine res_tmp (by conv => lhs; whnf) rfl ?_
          refine res_nil ?_
          clear hK6
          first | exact fTup1 (fI (by rw [if_neg (by assumption)])) (fTup1 (fI (by rw [if_neg (by assumption)])) (fTup1 (fI (by rw [if_neg (by assumption)])) rfl)) | exact fTup1 (fI (by rw [if_pos (by assumption), if_neg (fun h => by grind)])) (fTup1 (fI (by rw [if_pos (by assumption), if_neg (fun h => by grind)])) (fTup1 (fI (by rw [if_pos (by assumption), if_neg (fun h => by grind)])) rfl)) | (have e : n = 300 := (by omega); have okr : (1 ≤ co ∧ co ≤ 1000) ∧ (0 ≤ pr ∧ pr ≤ 1000) ∧ (0 ≤ he ∧ he ≤ 1000) ∧ (1 ≤ ye ∧ ye ≤ 100) ∧ (-5000 ≤ wa ∧ wa ≤ 20000) ∧ (-5000 ≤ gr ∧ gr ≤ 20000) := ⟨(by assumption), (by assumption), (by assumption), (by assumption), (by assumption), (by assumption)⟩; exact fTup1 (fI (by rw [if_pos (by assumption), if_pos okr, e])) (fTup1 (fI (by rw [if_pos (by assumption), if_pos okr]; first | (rw [btI_ne (by omega), e]) | rw [e])) (fTup1 (fI (by rw [if_pos (by assumption), if_pos okr])) rfl)))
        · first | replace hb12 := dT hb12 | skip
          refine ev_q rfl (q_not rfl rfl ?_)
          refine ev_q rfl (q_pickF rfl (by conv => lhs; whnf) ?_)
          refine ev_q rfl (q_move (by conv => lhs; whnf) ?_)
          refine ev_q rfl (q_move (by conv => lhs; whnf) ?_)
          refine ev_q rfl (q_callB rfl rfl rfl (D_spec_l00In ..) ?_)
          intro b14 hb14; cases b14
          · first | replace hb14 := dF hb14 | skip
            refine ev_q rfl (q_not rfl rfl ?_)
            refine ev_q rfl (q_pickF rfl (by conv => lhs; whnf) ?_)
            refine ev_q rfl (q_move (by conv => lhs; whnf) ?_)
            refine ev_skip rfl ?_
            refine ev_skip rfl ?_
            refine ev_skip rfl ?_
            refine ev_q rfl (q_pickT rfl (by conv => lhs; whnf) ?_)
            refine ev_q rfl (q_move (by conv => lhs; whnf) ?_)
            refine ev_skip rfl ?_
            refine ev_skip rfl ?_
            refine ev_skip rfl ?_
            refine ev_q rfl (q_pickT rfl (by conv => lhs; whnf) ?_)
            refine ev_nil (hK7 _ ?_); clear hK7
            refine good_condT rfl ?_
            refine good_seq fun K15 hK15 => ?_
            refine good_region rfl ?_
            refine ev_q rfl (q_assign (by conv => lhs; whnf) ?_)
            refine ev_q rfl (q_assign (by conv => lhs; whnf) ?_)
            refine ev_q rfl (q_assign (by conv => lhs; whnf) ?_)
            refine ev_nil (hK15 _ ?_); clear hK15
            refine good_ret ?_
            repeat (first | refine thenQ_ret ?_ | refine blockQ_ret ?_)
            refine ret_many rfl ?_
            refine res_tmp (by conv => lhs; whnf) rfl ?_
            refine res_tmp (by conv => lhs; whnf) rfl ?_
            refine res_tmp (by conv => lhs; whnf) rfl ?_
            refine res_nil ?_
            clear hK6
            first | exact fTup1 (fI (by rw [if_neg (by assumption)])) (fTup1 (fI (by rw [if_neg (by assumption)])) (fTup1 (fI (by rw [if_neg (by assumption)])) rfl)) | exact fTup1 (fI (by rw [if_pos (by assumption), if_neg (fun h => by grind)])) (fTup1 (fI (by rw [if_pos (by assumption), if_neg (fun h => by grind)])) (fTup1 (fI (by rw [if_pos (by assumption), if_neg (fun h => by grind)])) rfl)) | (have e : n = 300 := (by omega); have okr : (1 ≤ co ∧ co ≤ 1000) ∧ (0 ≤ pr ∧ pr ≤ 1000) ∧ (0 ≤ he ∧ he ≤ 1000) ∧ (1 ≤ ye ∧ ye ≤ 100) ∧ (-5000 ≤ wa ∧ wa ≤ 20000) ∧ (-5000 ≤ gr ∧ gr ≤ 20000) := ⟨(by assumption), (by assumption), (by assumption), (by assumption), (by assumption), (by assumption)⟩; exact fTup1 (fI (by rw [if_pos (by assumption), if_pos okr, e])) (fTup1 (fI (by rw [if_pos (by assumption), if_pos okr]; first | (rw [btI_ne (by omega), e]) | rw [e])) (fTup1 (fI (by rw [if_pos (by assumption), if_pos okr])) rfl)))
          · first | replace hb14 := dT hb14 | skip
            refine ev_q rfl (q_not rfl rfl ?_)
            refine ev_q rfl (q_pickF rfl (by conv => lhs; whnf) ?_)
            refine ev_q rfl (q_move (by conv => lhs; whnf) ?_)
            refine ev_q rfl (q_move (by conv => lhs; whnf) ?_)
            refine ev_q rfl (q_callB rfl rfl rfl (D_spec_l03Degrees ..) ?_)
            intro b16 hb16; cases b16
            · first | replace hb16 := dF hb16 | skip
              refine ev_q rfl (q_not rfl rfl ?_)
              refine ev_q rfl (q_pickF rfl (by conv => lhs; whnf) ?_)
              refine ev_q rfl (q_move (by conv => lhs; whnf) ?_)
              refine ev_skip rfl ?_
              refine ev_skip rfl ?_
              refine ev_skip rfl ?_
              refine ev_q rfl (q_pickT rfl (by conv => lhs; whnf) ?_)
              refine ev_nil (hK7 _ ?_); clear hK7
              refine good_condT rfl ?_
              refine good_seq fun K17 hK17 => ?_
              refine good_region rfl ?_
              refine ev_q rfl (q_assign (by conv => lhs; whnf) ?_)
              refine ev_q rfl (q_assign (by conv => lhs; whnf) ?_)
              refine ev_q rfl (q_assign (by conv => lhs; whnf) ?_)
              refine ev_nil (hK17 _ ?_); clear hK17
              refine good_ret ?_
              repeat (first | refine thenQ_ret ?_ | refine blockQ_ret ?_)
              refine ret_many rfl ?_
              refine res_tmp (by conv => lhs; whnf) rfl ?_
              refine res_tmp (by conv => lhs; whnf) rfl ?_
              refine res_tmp (by conv => lhs; whnf) rfl ?_
              refine res_nil ?_
              clear hK6
              first | exact fTup1 (fI (by rw [if_neg (by assumption)])) (fTup1 (fI (by rw [if_neg (by assumption)])) (fTup1 (fI (by rw [if_neg (by assumption)])) rfl)) | exact fTup1 (fI (by rw [if_pos (by assumption), if_neg (fun h => by grind)])) (fTup1 (fI (by rw [if_pos (by assumption), if_neg (fun h => by grind)])) (fTup1 (fI (by rw [if_pos (by assumption), if_neg (fun h => by grind)])) rfl)) | (have e : n = 300 := (by omega); have okr : (1 ≤ co ∧ co ≤ 1000) ∧ (0 ≤ pr ∧ pr ≤ 1000) ∧ (0 ≤ he ∧ he ≤ 1000) ∧ (1 ≤ ye ∧ ye ≤ 100) ∧ (-5000 ≤ wa ∧ wa ≤ 20000) ∧ (-5000 ≤ gr ∧ gr ≤ 20000) := ⟨(by assumption), (by assumption), (by assumption), (by assumption), (by assumption), (by assumption)⟩; exact fTup1 (fI (by rw [if_pos (by assumption), if_pos okr, e])) (fTup1 (fI (by rw [if_pos (by assumption), if_pos okr]; first | (rw [btI_ne (by omega), e]) | rw [e])) (fTup1 (fI (by rw [if_pos (by assumption), if_pos okr])) rfl)))
            · first | replace hb16 := dT hb16 | skip
              refine ev_q rfl (q_not rfl rfl ?_)
              refine ev_q rfl (q_pickF rfl (by conv => lhs; whnf) ?_)
              refine ev_q rfl (q_move (by conv => lhs; whnf) ?_)
              refine ev_q rfl (q_move (by conv => lhs; whnf) ?_)
              refine ev_q rfl (q_callB rfl rfl rfl (D_spec_l03Degrees ..) ?_)
              intro b18 hb18; cases b18
              · first | replace hb18 := dF hb18 | skip
                refine ev_q rfl (q_not rfl rfl ?_)
                refine ev_q rfl (q_pickF rfl (by conv => lhs; whnf) ?_)
                refine ev_nil (hK7 _ ?_); clear hK7
                refine good_condT rfl ?_
                refine good_seq fun K19 hK19 => ?_
                refine good_region rfl ?_
                refine ev_q rfl (q_assign (by conv => lhs; whnf) ?_)
                refine ev_q rfl (q_assign (by conv => lhs; whnf) ?_)
                refine ev_q rfl (q_assign (by conv => lhs; whnf) ?_)
                refine ev_nil (hK19 _ ?_); clear hK19
                refine good_ret ?_
                repeat (first | refine thenQ_ret ?_ | refine blockQ_ret ?_)
                refine ret_many rfl ?_
                refine res_tmp (by conv => lhs; whnf) rfl ?_
                refine res_tmp (by conv => lhs; whnf) rfl ?_
                refine res_tmp (by conv => lhs; whnf) rfl ?_
                refine res_nil ?_
                clear hK6
                first | exact fTup1 (fI (by rw [if_neg (by assumption)])) (fTup1 (fI (by rw [if_neg (by assumption)])) (fTup1 (fI (by rw [if_neg (by assumption)])) rfl)) | exact fTup1 (fI (by rw [if_pos (by assumption), if_neg (fun h => by grind)])) (fTup1 (fI (by rw [if_pos (by assumption), if_neg (fun h => by grind)])) (fTup1 (fI (by rw [if_pos (by assumption), if_neg (fun h => by grind)])) rfl)) | (have e : n = 300 := (by omega); have okr : (1 ≤ co ∧ co ≤ 1000) ∧ (0 ≤ pr ∧ pr ≤ 1000) ∧ (0 ≤ he ∧ he ≤ 1000) ∧ (1 ≤ ye ∧ ye ≤ 100) ∧ (-5000 ≤ wa ∧ wa ≤ 20000) ∧ (-5000 ≤ gr ∧ gr ≤ 20000) := ⟨(by assumption), (by assumption), (by assumption), (by assumption), (by assumption), (by assumption)⟩; exact fTup1 (fI (by rw [if_pos (by assumption), if_pos okr, e])) (fTup1 (fI (by rw [if_pos (by assumption), if_pos okr]; first | (rw [btI_ne (by omega), e]) | rw [e])) (fTup1 (fI (by rw [if_pos (by assumption), if_pos okr])) rfl)))
              · first | replace hb18 := dT hb18 | skip
                refine ev_q rfl (q_not rfl rfl ?_)
                refine ev_q rfl (q_pickF rfl (by conv => lhs; whnf) ?_)
                refine ev_nil (hK7 _ ?_); clear hK7
                refine good_condF rfl ?_
                refine good_skip (hK6 _ ?_); clear hK6
                refine good_seq fun K20 hK20 => ?_
                refine good_region rfl ?_
                refine ev_q rfl (q_assign (by conv => lhs; whnf) ?_)
                refine ev_nil (hK20 _ ?_); clear hK20
                refine good_seq fun K21 hK21 => ?_
                refine good_region rfl ?_
                refine ev_q rfl (q_assign (by conv => lhs; whnf) ?_)
                refine ev_nil (hK21 _ ?_); clear hK21
                refine good_seq fun K22 hK22 => ?_
                refine good_seq fun K23 hK23 => ?_
                refine good_region rfl ?_
                refine ev_q rfl (q_assign (by conv => lhs; whnf) ?_)
                refine ev_nil (hK23 _ ?_); clear hK23
                refine good_block ?_
                refine good_loop (α := Nat) (fun n => { env := upd (upd (upd (upd (upd (upd (upd (upd (upd (upd ((fun _ => .junk)) 1 (.s (.int .i64 co))) 2 (.s (.int .i64 pr))) 3 (.s (.int .i64 he))) 4 (.s (.int .i64 ye))) 5 (.s (.int .i64 wa))) 6 (.s (.int .i64 gr))) 7 (.ptr 7 0)) 17 (.s (.int .i64 ((btG (btC di le co pr he ye wa gr) n).1)))) 18 (.s (.int .i64 ((btG (btC di le co pr he ye wa gr) n).2)))) 19 (.s (.int .i64 (n + 1))), H := upd ((fun _ => none)) 7 (some (.box 27 [.s (.string s), .s (.int .i64 fm), .s (.int .i64 tt), .s (.int .i64 le), .s (.int .i64 di), .s (.int .i64 lo)])) }) (fun n => n ≤ 300) (fun n => 300 - n) 0 ?_ ?_ ?_
                · show 0 ≤ 300; omega
                · refine sub_weak ?_ ?_
                  · exact weakH_box (boxEq (rfl)) rfl (weakH_none _)
                  · refine weakE_upd ?e19 ?r19 (weakE_upd ?e18 ?r18 (weakE_upd ?e17 ?r17 (weakE_upd ?e7 ?r7 (weakE_upd ?e6 ?r6 (weakE_upd ?e5 ?r5 (weakE_upd ?e4 ?r4 (weakE_upd ?e3 ?r3 (weakE_upd ?e2 ?r2 (weakE_upd ?e1 ?r1 (weakE_junk _ _))))))))))
                    case e1 => first | rfl | exact fI (by omega) | (simp_all)
                    case r1 => intro h hh; cases hh
                    case e2 => first | rfl | exact fI (by omega) | (simp_all)
                    case r2 => intro h hh; cases hh
                    case e3 => first | rfl | exact fI (by omega) | (simp_all)
                    case r3 => intro h hh; cases hh
                    case e4 => first | rfl | exact fI (by omega) | (simp_all)
                    case r4 => intro h hh; cases hh
                    case e5 => first | rfl | exact fI (by omega) | (simp_all)
                    case r5 => intro h hh; cases hh
                    case e6 => first | rfl | exact fI (by omega) | (simp_all)
                    case r6 => intro h hh; cases hh
                    case e7 => first | rfl | exact fI (by omega) | (simp_all)
                    case r7 => intro h hh; simp [refs] at hh; subst hh; rfl
                    case e17 => first | rfl | exact fI (by omega) | (first | rfl | exact fI (by rw [hG]))
                    case r17 => intro h hh; cases hh
                    case e18 => first | rfl | exact fI (by omega) | (first | exact fI (by rw [hG]; simp only; omega) | exact fI (by rw [hG]))
                    case r18 => intro h hh; cases hh
                    case e19 => first | rfl | exact fI (by omega) | (simp_all)
                    case r19 => intro h hh; cases hh
                · rintro n hI
                  refine good_seq fun K24 hK24 => ?_
                  refine good_seq fun K25 hK25 => ?_
                  refine good_region rfl ?_
                  refine ev_q rfl (q_move (by conv => lhs; whnf) ?_)
                  refine ev_q rfl (q_int rfl rfl ?_)
                  intro b26 hb26; cases b26
                  · replace hb26 := dF hb26
                    refine ev_nil (hK25 _ ?_); clear hK25
                    refine good_condF rfl ?_
                    refine good_exit ?_
                    repeat (first | refine thenQ_exit ?_ | refine blockQ_pass rfl ?_)
                    refine blockQ_exit (hK22 _ ?_); clear hK22
                    refine good_seq fun K27 hK27 => ?_
                    refine good_region rfl ?_
                    refine ev_q rfl (q_move (by conv => lhs; whnf) ?_)
                    refine ev_q rfl (q_move (by conv => lhs; whnf) ?_)
                    refine ev_q rfl (q_assign (by conv => lhs; whnf) ?_)
                    refine ev_q rfl (q_assign (by conv => lhs; whnf) ?_)
                    refine ev_q rfl (q_assign (by conv => lhs; whnf) ?_)
                    refine ev_nil (hK27 _ ?_); clear hK27
                    refine good_ret ?_
                    repeat (first | refine thenQ_ret ?_ | refine blockQ_ret ?_)
                    refine ret_many rfl ?_
                    refine res_tmp (by conv => lhs; whnf) rfl ?_
                    refine res_tmp (by conv => lhs; whnf) rfl ?_
                    refine res_tmp (by conv => lhs; whnf) rfl ?_
                    refine res_nil ?_
                    clear hK24
                    first | exact fTup1 (fI (by rw [if_neg (by assumption)])) (fTup1 (fI (by rw [if_neg (by assumption)])) (fTup1 (fI (by rw [if_neg (by assumption)])) rfl)) | exact fTup1 (fI (by rw [if_pos (by assumption), if_neg (fun h => by grind)])) (fTup1 (fI (by rw [if_pos (by assumption), if_neg (fun h => by grind)])) (fTup1 (fI (by rw [if_pos (by assumption), if_neg (fun h => by grind)])) rfl)) | (have e : n = 300 := (by omega); have okr : (1 ≤ co ∧ co ≤ 1000) ∧ (0 ≤ pr ∧ pr ≤ 1000) ∧ (0 ≤ he ∧ he ≤ 1000) ∧ (1 ≤ ye ∧ ye ≤ 100) ∧ (-5000 ≤ wa ∧ wa ≤ 20000) ∧ (-5000 ≤ gr ∧ gr ≤ 20000) := ⟨(by assumption), (by assumption), (by assumption), (by assumption), (by assumption), (by assumption)⟩; exact fTup1 (fI (by rw [if_pos (by assumption), if_pos okr, e])) (fTup1 (fI (by rw [if_pos (by assumption), if_pos okr]; first | (rw [btI_ne (by omega), e]) | rw [e])) (fTup1 (fI (by rw [if_pos (by assumption), if_pos okr])) rfl)))
                  · replace hb26 := dT hb26
                    have okr : (1 ≤ co ∧ co ≤ 1000) ∧ (0 ≤ pr ∧ pr ≤ 1000) ∧ (0 ≤ he ∧ he ≤ 1000) ∧ (1 ≤ ye ∧ ye ≤ 100) ∧ (-5000 ≤ wa ∧ wa ≤ 20000) ∧ (-5000 ≤ gr ∧ gr ≤ 20000) := by omega
                    have okq := ‹isName s = true ∧ _›.2
                    have hb := btB (t := n + 1) (di := di) (le := le) (co := co) (pr := pr) (he := he) (ye := ye) (wa := wa) (gr := gr) (by omega) (by omega) (by omega) (by omega) (by omega) (by omega) (by omega) (by omega)
                    refine ev_nil (hK25 _ ?_); clear hK25
                    refine good_condT rfl ?_
                    refine good_skip (hK24 _ ?_); clear hK24
                    refine good_seq fun K28 hK28 => ?_
                    refine good_block ?_
                    refine good_seq fun K29 hK29 => ?_
                    refine good_draw 12 hmix (by kernel_rfl) rfl ?_
                    refine qo_q rfl (q_fieldAddrP fO27_4 rfl rfl ?_)
                    refine qo_q rfl (q_load tA2 rfl ?_)
                    refine qo_q rfl (q_move (by conv => lhs; whnf) ?_)
                    refine qo_q rfl (q_move (by conv => lhs; whnf) ?_)
                    refine qo_q rfl (q_callI rfl rfl rfl (D_spec_l10Coat _ _ _ (by omega)) ?_)
                    intro n30 hn30
                    have hc := coat_bd (d := di) (t := n + 1) (c := co)
                    rw [← hn30] at hc
                    refine qo_q rfl (q_fieldAddrP fO27_3 rfl rfl ?_)
                    refine qo_q rfl (q_load tA2 rfl ?_)
                    refine qo_q rfl (q_move (by conv => lhs; whnf) ?_)
                    refine qo_q rfl (q_move (by conv => lhs; whnf) ?_)
                    refine qo_q rfl (q_callI rfl rfl rfl (D_spec_l10Loses _ _ _ _ (by omega) (by omega) (by omega) (by omega)) ?_)
                    intro n31 hn31
                    rw [hn30] at hn31
                    refine qo_q rfl (q_callI rfl rfl rfl (D_spec_l00Max ..) ?_)
                    intro n32 hn32
                    have hL : n32 = btL di le co wa gr (n + 1) := by unfold btL; rw [← hn31]; omega
                    refine qo_q rfl (q_assign (by conv => lhs; whnf) ?_)
                    refine qo_nil ?_
                    refine ev_nil (hK29 _ ?_); clear hK29
                    refine good_seq fun K33 hK33 => ?_
                    refine good_region rfl ?_
                    refine ev_q rfl (q_fieldAddrP fO27_3 rfl rfl ?_)
                    refine ev_q rfl (q_load tA2 rfl ?_)
                    refine ev_q rfl (q_move (by conv => lhs; whnf) ?_)
                    refine ev_q rfl (q_move (by conv => lhs; whnf) ?_)
                    refine ev_q rfl (q_callI rfl rfl rfl (D_spec_l10Costs _ _ _ (by omega) (by omega) (by omega)) ?_)
                    intro n34 hn34
                    refine ev_q rfl (q_move (by conv => lhs; whnf) ?_)
                    refine ev_q rfl (q_int rfl rfl ?_)
                    intro n35 hn35
                    rw [hL] at hn35
                    replace hn35 := in64 hn35 (by omega) (by omega)
                    refine ev_q rfl (q_move (by conv => lhs; whnf) ?_)
                    refine ev_q rfl (q_int rfl rfl ?_)
                    intro n36 hn36
                    rw [hn35] at hn36
                    replace hn36 := in64 hn36 (by omega) (by omega)
                    refine ev_q rfl (q_move (by conv => lhs; whnf) ?_)
                    refine ev_q rfl (q_int rfl rfl ?_)
                    intro n37 hn37
                    rw [hn36] at hn37
                    replace hn37 := in64 hn37 (by omega) (by omega)
                    refine ev_q rfl (q_callI rfl rfl rfl (D_spec_l01Div _ _ (by omega) (by omega)) ?_)
                    intro n38 hn38
                    rw [hn37] at hn38
                    refine ev_q rfl (q_int rfl rfl ?_)
                    intro n39 hn39
                    replace hn39 := in64 hn39 (by omega) (by omega)
                    have hC : n39 = btC di le co pr he ye wa gr (n + 1) := by unfold btC; omega
                    refine ev_q rfl (q_assign (by conv => lhs; whnf) ?_)
                    refine ev_nil (hK33 _ ?_); clear hK33
                    refine good_seq fun K40 hK40 => ?_
                    refine good_region rfl ?_
                    refine ev_q rfl (q_move (by conv => lhs; whnf) ?_)
                    refine ev_q rfl (q_int rfl rfl ?_)
                    intro b41 hb41; cases b41
                    · replace hb41 := eqF hb41
                      have hn0 : ¬ n = 0 := by intro h; subst h; exact absurd rfl (by assumption)
                      refine ev_q rfl (q_move (by conv => lhs; whnf) ?_)
                      refine ev_q rfl (q_move (by conv => lhs; whnf) ?_)
                      refine ev_q rfl (q_move (by conv => lhs; whnf) ?_)
                      refine ev_q rfl (q_int rfl rfl ?_)
                      intro b42 hb42; cases b42
                      · replace hb42 := dF hb42
                        have hG := btG_F (c := (btC di le co pr he ye wa gr)) (n := n) hn0 (by omega)
                        refine ev_q rfl (q_pickF rfl (by conv => lhs; whnf) ?_)
                        refine ev_nil (hK40 _ ?_); clear hK40
                        refine good_condF rfl ?_
                        refine good_skip (hK28 _ ?_); clear hK28
                        refine good_region rfl ?_
                        refine ev_q rfl (q_move (by conv => lhs; whnf) ?_)
                        refine ev_q rfl (q_int rfl rfl ?_)
                        intro n43 hn43
                        replace hn43 := in64 hn43 (by omega) (by omega)
                        refine ev_q rfl (q_assign (by conv => lhs; whnf) ?_)
                        refine ev_nil ?_
                        clear hK22
                        refine ⟨n + 1, ?_, ?_, ?_⟩
                        · show _ ≤ 300; omega
                        · first | omega | (simp only []; omega) | (dsimp only; omega)
                        · refine sub_weak ?_ ?_
                          · exact weakH_box (boxEq (rfl)) rfl (weakH_none _)
                          · refine weakE_upd ?e19 ?r19 (weakE_upd ?e18 ?r18 (weakE_upd ?e17 ?r17 (weakE_upd ?e7 ?r7 (weakE_upd ?e6 ?r6 (weakE_upd ?e5 ?r5 (weakE_upd ?e4 ?r4 (weakE_upd ?e3 ?r3 (weakE_upd ?e2 ?r2 (weakE_upd ?e1 ?r1 (weakE_junk _ _))))))))))
                            case e1 => first | rfl | exact fI (by omega) | (simp_all)
                            case r1 => intro h hh; cases hh
                            case e2 => first | rfl | exact fI (by omega) | (simp_all)
                            case r2 => intro h hh; cases hh
                            case e3 => first | rfl | exact fI (by omega) | (simp_all)
                            case r3 => intro h hh; cases hh
                            case e4 => first | rfl | exact fI (by omega) | (simp_all)
                            case r4 => intro h hh; cases hh
                            case e5 => first | rfl | exact fI (by omega) | (simp_all)
                            case r5 => intro h hh; cases hh
                            case e6 => first | rfl | exact fI (by omega) | (simp_all)
                            case r6 => intro h hh; cases hh
                            case e7 => first | rfl | exact fI (by omega) | (simp_all)
                            case r7 => intro h hh; simp [refs] at hh; subst hh; rfl
                            case e17 => first | rfl | exact fI (by omega) | (first | rfl | exact fI (by rw [hG]))
                            case r17 => intro h hh; cases hh
                            case e18 => first | rfl | exact fI (by omega) | (first | exact fI (by rw [hG]; simp only; omega) | exact fI (by rw [hG]))
                            case r18 => intro h hh; cases hh
                            case e19 => first | rfl | exact fI (by omega) | (simp_all)
                            case r19 => intro h hh; cases hh
                      · replace hb42 := dT hb42
                        have hG := btG_T (c := (btC di le co pr he ye wa gr)) (n := n) (.inr (by omega))
                        refine ev_q rfl (q_pickF rfl (by conv => lhs; whnf) ?_)
                        refine ev_nil (hK40 _ ?_); clear hK40
                        refine good_condT rfl ?_
                        refine good_seq fun K44 hK44 => ?_
                        refine good_region rfl ?_
                        refine ev_q rfl (q_move (by conv => lhs; whnf) ?_)
                        refine ev_q rfl (q_assign (by conv => lhs; whnf) ?_)
                        refine ev_nil (hK44 _ ?_); clear hK44
                        refine good_region rfl ?_
                        refine ev_q rfl (q_move (by conv => lhs; whnf) ?_)
                        refine ev_q rfl (q_assign (by conv => lhs; whnf) ?_)
                        refine ev_nil (hK28 _ ?_); clear hK28
                        refine good_region rfl ?_
                        refine ev_q rfl (q_move (by conv => lhs; whnf) ?_)
                        refine ev_q rfl (q_int rfl rfl ?_)
                        intro n45 hn45
                        replace hn45 := in64 hn45 (by omega) (by omega)
                        refine ev_q rfl (q_assign (by conv => lhs; whnf) ?_)
                        refine ev_nil ?_
                        clear hK22
                        refine ⟨n + 1, ?_, ?_, ?_⟩
                        · show _ ≤ 300; omega
                        · first | omega | (simp only []; omega) | (dsimp only; omega)
                        · refine sub_weak ?_ ?_
                          · exact weakH_box (boxEq (rfl)) rfl (weakH_none _)
                          · refine weakE_upd ?e19 ?r19 (weakE_upd ?e18 ?r18 (weakE_upd ?e17 ?r17 (weakE_upd ?e7 ?r7 (weakE_upd ?e6 ?r6 (weakE_upd ?e5 ?r5 (weakE_upd ?e4 ?r4 (weakE_upd ?e3 ?r3 (weakE_upd ?e2 ?r2 (weakE_upd ?e1 ?r1 (weakE_junk _ _))))))))))
                            case e1 => first | rfl | exact fI (by omega) | (simp_all)
                            case r1 => intro h hh; cases hh
                            case e2 => first | rfl | exact fI (by omega) | (simp_all)
                            case r2 => intro h hh; cases hh
                            case e3 => first | rfl | exact fI (by omega) | (simp_all)
                            case r3 => intro h hh; cases hh
                            case e4 => first | rfl | exact fI (by omega) | (simp_all)
                            case r4 => intro h hh; cases hh
                            case e5 => first | rfl | exact fI (by omega) | (simp_all)
                            case r5 => intro h hh; cases hh
                            case e6 => first | rfl | exact fI (by omega) | (simp_all)
                            case r6 => intro h hh; cases hh
                            case e7 => first | rfl | exact fI (by omega) | (simp_all)
                            case r7 => intro h hh; simp [refs] at hh; subst hh; rfl
                            case e17 => first | rfl | exact fI (by omega) | (first | rfl | exact fI (by rw [hG]))
                            case r17 => intro h hh; cases hh
                            case e18 => first | rfl | exact fI (by omega) | (first | exact fI (by rw [hG]; simp only; omega) | exact fI (by rw [hG]))
                            case r18 => intro h hh; cases hh
                            case e19 => first | rfl | exact fI (by omega) | (simp_all)
                            case r19 => intro h hh; cases hh
                    · replace hb41 := eqT hb41
                      have hG := btG_T (c := (btC di le co pr he ye wa gr)) (n := n) (.inl (by apply Classical.byContradiction; intro h; have := btG_pos (c := (btC di le co pr he ye wa gr)) n (by omega); omega))
                      refine ev_q rfl (q_move (by conv => lhs; whnf) ?_)
                      refine ev_skip rfl ?_
                      refine ev_skip rfl ?_
                      refine ev_skip rfl ?_
                      refine ev_q rfl (q_pickT rfl (by conv => lhs; whnf) ?_)
                      refine ev_nil (hK40 _ ?_); clear hK40
                      refine good_condT rfl ?_
                      refine good_seq fun K46 hK46 => ?_
                      refine good_region rfl ?_
                      refine ev_q rfl (q_move (by conv => lhs; whnf) ?_)
                      refine ev_q rfl (q_assign (by conv => lhs; whnf) ?_)
                      refine ev_nil (hK46 _ ?_); clear hK46
                      refine good_region rfl ?_
                      refine ev_q rfl (q_move (by conv => lhs; whnf) ?_)
                      refine ev_q rfl (q_assign (by conv => lhs; whnf) ?_)
                      refine ev_nil (hK28 _ ?_); clear hK28
                      refine good_region rfl ?_
                      refine ev_q rfl (q_move (by conv => lhs; whnf) ?_)
                      refine ev_q rfl (q_int rfl rfl ?_)
                      intro n47 hn47
                      replace hn47 := in64 hn47 (by omega) (by omega)
                      refine ev_q rfl (q_assign (by conv => lhs; whnf) ?_)
                      refine ev_nil ?_
                      clear hK22
                      refine ⟨n + 1, ?_, ?_, ?_⟩
                      · show _ ≤ 300; omega
                      · first | omega | (simp only []; omega) | (dsimp only; omega)
                      · refine sub_weak ?_ ?_
                        · exact weakH_box (boxEq (rfl)) rfl (weakH_none _)
                        · refine weakE_upd ?e19 ?r19 (weakE_upd ?e18 ?r18 (weakE_upd ?e17 ?r17 (weakE_upd ?e7 ?r7 (weakE_upd ?e6 ?r6 (weakE_upd ?e5 ?r5 (weakE_upd ?e4 ?r4 (weakE_upd ?e3 ?r3 (weakE_upd ?e2 ?r2 (weakE_upd ?e1 ?r1 (weakE_junk _ _))))))))))
                          case e1 => first | rfl | exact fI (by omega) | (simp_all)
                          case r1 => intro h hh; cases hh
                          case e2 => first | rfl | exact fI (by omega) | (simp_all)
                          case r2 => intro h hh; cases hh
                          case e3 => first | rfl | exact fI (by omega) | (simp_all)
                          case r3 => intro h hh; cases hh
                          case e4 => first | rfl | exact fI (by omega) | (simp_all)
                          case r4 => intro h hh; cases hh
                          case e5 => first | rfl | exact fI (by omega) | (simp_all)
                          case r5 => intro h hh; cases hh
                          case e6 => first | rfl | exact fI (by omega) | (simp_all)
                          case r6 => intro h hh; cases hh
                          case e7 => first | rfl | exact fI (by omega) | (simp_all)
                          case r7 => intro h hh; simp [refs] at hh; subst hh; rfl
                          case e17 => first | rfl | exact fI (by omega) | (first | rfl | exact fI (by rw [hG]))
                          case r17 => intro h hh; cases hh
                          case e18 => first | rfl | exact fI (by omega) | (first | exact fI (by rw [hG]; simp only; omega) | exact fI (by rw [hG]))
                          case r18 => intro h hh; cases hh
                          case e19 => first | rfl | exact fI (by omega) | (simp_all)
                          case r19 => intro h hh; cases hh

-- impl.BestThickness
set_option maxRecDepth 20000 in
set_option maxHeartbeats 8000000 in
theorem D_impl_BestThickness (s : ByteArray) (fm tt le di lo : Int) (co pr he ye wa gr : Int) (hs : s.size ≤ 140737488351232) : Den Try.prog 18 [.agg [.s (.string s), .s (.int .i64 fm), .s (.int .i64 tt), .s (.int .i64 le), .s (.int .i64 di), .s (.int .i64 lo)], .s (.int .i64 co), .s (.int .i64 pr), .s (.int .i64 he), .s (.int .i64 ye), .s (.int .i64 wa), .s (.int .i64 gr)] (.tup [.s (.int .i64 (if isName s = true ∧ (0 ≤ fm ∧ fm ≤ 15) ∧ (0 ≤ tt ∧ tt ≤ 15) ∧ ¬ fm = tt ∧ (1 ≤ le ∧ le ≤ 10000) ∧ (20 ≤ di ∧ di ≤ 1000) ∧ (0 ≤ lo ∧ lo ≤ 5000) then (if (1 ≤ co ∧ co ≤ 1000) ∧ (0 ≤ pr ∧ pr ≤ 1000) ∧ (0 ≤ he ∧ he ≤ 1000) ∧ (1 ≤ ye ∧ ye ≤ 100) ∧ (-5000 ≤ wa ∧ wa ≤ 20000) ∧ (-5000 ≤ gr ∧ gr ≤ 20000) then (btG (btC di le co pr he ye wa gr) 300).1 else 0) else 0)), .s (.int .i64 (if isName s = true ∧ (0 ≤ fm ∧ fm ≤ 15) ∧ (0 ≤ tt ∧ tt ≤ 15) ∧ ¬ fm = tt ∧ (1 ≤ le ∧ le ≤ 10000) ∧ (20 ≤ di ∧ di ≤ 1000) ∧ (0 ≤ lo ∧ lo ≤ 5000) then (if (1 ≤ co ∧ co ≤ 1000) ∧ (0 ≤ pr ∧ pr ≤ 1000) ∧ (0 ≤ he ∧ he ≤ 1000) ∧ (1 ≤ ye ∧ ye ≤ 100) ∧ (-5000 ≤ wa ∧ wa ≤ 20000) ∧ (-5000 ≤ gr ∧ gr ≤ 20000) then (btG (btC di le co pr he ye wa gr) 300).2 else 0) else 0)), .s (.int .i64 (if isName s = true ∧ (0 ≤ fm ∧ fm ≤ 15) ∧ (0 ≤ tt ∧ tt ≤ 15) ∧ ¬ fm = tt ∧ (1 ≤ le ∧ le ≤ 10000) ∧ (20 ≤ di ∧ di ≤ 1000) ∧ (0 ≤ lo ∧ lo ≤ 5000) then (if (1 ≤ co ∧ co ≤ 1000) ∧ (0 ≤ pr ∧ pr ≤ 1000) ∧ (0 ≤ he ∧ he ≤ 1000) ∧ (1 ≤ ye ∧ ye ≤ 100) ∧ (-5000 ≤ wa ∧ wa ≤ 20000) ∧ (-5000 ≤ gr ∧ gr ≤ 20000) then 0 else 2) else 1))]) := by
  refine den_of_good Try.func18 (by decide) rfl (Nat.le_of_ble_eq_true rfl) ?_
  refine good_seq fun K1 hK1 => ?_
  refine good_region rfl ?_
  refine ev_k rfl (k_box (by conv => lhs; whnf) rfl rfl rfl ?_)
  refine ev_q rfl (q_assign (by conv => lhs; whnf) ?_)
  refine ev_q rfl (q_assign (by conv => lhs; whnf) ?_)
  refine ev_q rfl (q_assign (by conv => lhs; whnf) ?_)
  refine ev_nil (hK1 _ ?_); clear hK1
  refine good_seq fun K2 hK2 => ?_
  refine good_block ?_
  refine good_seq fun K3 hK3 => ?_
  refine good_region rfl ?_
  refine ev_q rfl (q_loadA tA27 rfl rfl rfl rfl ?_)
  refine ev_q rfl (q_callB rfl rfl rfl (D_impl_ValidPipe _ _ _ _ _ _ hs) ?_)
  intro b4 hb4; cases b4
  · first | replace hb4 := dF hb4 | skip
    refine ev_q rfl (q_not rfl rfl ?_)
    refine ev_q rfl (q_assign (by conv => lhs; whnf) ?_)
    refine ev_nil (hK3 _ ?_); clear hK3
    refine good_condT rfl ?_
    refine good_seq fun K5 hK5 => ?_
    refine good_region rfl ?_
    refine ev_q rfl (q_assign (by conv => lhs; whnf) ?_)
    refine ev_q rfl (q_assign (by conv => lhs; whnf) ?_)
    refine ev_q rfl (q_assign (by conv => lhs; whnf) ?_)
    refine ev_nil (hK5 _ ?_); clear hK5
    refine good_ret ?_
    repeat (first | refine thenQ_ret ?_ | refine blockQ_ret ?_)
    refine ret_many rfl ?_
    refine res_tmp (by conv => lhs; whnf) rfl ?_
    refine res_tmp (by conv => lhs; whnf) rfl ?_
    refine res_tmp (by conv => lhs; whnf) rfl ?_
    refine res_nil ?_
    clear hK2
    first | exact fTup1 (fI (by rw [if_neg (by assumption)])) (fTup1 (fI (by rw [if_neg (by assumption)])) (fTup1 (fI (by rw [if_neg (by assumption)])) rfl)) | exact fTup1 (fI (by rw [if_pos (by assumption), if_neg (fun h => by grind)])) (fTup1 (fI (by rw [if_pos (by assumption), if_neg (fun h => by grind)])) (fTup1 (fI (by rw [if_pos (by assumption), if_neg (fun h => by grind)])) rfl)) | (have e : n = 300 := (by omega); have okr : (1 ≤ co ∧ co ≤ 1000) ∧ (0 ≤ pr ∧ pr ≤ 1000) ∧ (0 ≤ he ∧ he ≤ 1000) ∧ (1 ≤ ye ∧ ye ≤ 100) ∧ (-5000 ≤ wa ∧ wa ≤ 20000) ∧ (-5000 ≤ gr ∧ gr ≤ 20000) := ⟨(by assumption), (by assumption), (by assumption), (by assumption), (by assumption), (by assumption)⟩; exact fTup1 (fI (by rw [if_pos (by assumption), if_pos okr, e])) (fTup1 (fI (by rw [if_pos (by assumption), if_pos okr]; first | (rw [btI_ne (by omega), e]) | rw [e])) (fTup1 (fI (by rw [if_pos (by assumption), if_pos okr])) rfl)))
  · first | replace hb4 := dT hb4 | skip
    refine ev_q rfl (q_not rfl rfl ?_)
    refine ev_q rfl (q_assign (by conv => lhs; whnf) ?_)
    refine ev_nil (hK3 _ ?_); clear hK3
    refine good_condF rfl ?_
    refine good_seq fun K6 hK6 => ?_
    refine good_region rfl ?_
    refine ev_q rfl (q_move (by conv => lhs; whnf) ?_)
    refine ev_q rfl (q_callB rfl rfl rfl (D_impl_within ..) ?_)
    intro b7 hb7; cases b7
    · first | replace hb7 := dF hb7 | skip
      refine ev_q rfl (q_not rfl rfl ?_)
      refine ev_q rfl (q_move (by conv => lhs; whnf) ?_)
      refine ev_skip rfl ?_
      refine ev_skip rfl ?_
      refine ev_skip rfl ?_
      refine ev_q rfl (q_pickT rfl (by conv => lhs; whnf) ?_)
      refine ev_q rfl (q_move (by conv => lhs; whnf) ?_)
      refine ev_skip rfl ?_
      refine ev_skip rfl ?_
      refine ev_skip rfl ?_
      refine ev_q rfl (q_pickT rfl (by conv => lhs; whnf) ?_)
      refine ev_q rfl (q_move (by conv => lhs; whnf) ?_)
      refine ev_skip rfl ?_
      refine ev_skip rfl ?_
      refine ev_skip rfl ?_
      refine ev_q rfl (q_pickT rfl (by conv => lhs; whnf) ?_)
      refine ev_q rfl (q_move (by conv => lhs; whnf) ?_)
      refine ev_skip rfl ?_
      refine ev_skip rfl ?_
      refine ev_skip rfl ?_
      refine ev_q rfl (q_pickT rfl (by conv => lhs; whnf) ?_)
      refine ev_q rfl (q_move (by conv => lhs; whnf) ?_)
      refine ev_skip rfl ?_
      refine ev_skip rfl ?_
      refine ev_skip rfl ?_
      refine ev_q rfl (q_pickT rfl (by conv => lhs; whnf) ?_)
      refine ev_q rfl (q_assign (by conv => lhs; whnf) ?_)
      refine ev_nil (hK6 _ ?_); clear hK6
      refine good_condT rfl ?_
      refine good_seq fun K8 hK8 => ?_
      refine good_region rfl ?_
      refine ev_q rfl (q_assign (by conv => lhs; whnf) ?_)
      refine ev_q rfl (q_assign (by conv => lhs; whnf) ?_)
      refine ev_q rfl (q_assign (by conv => lhs; whnf) ?_)
      refine ev_nil (hK8 _ ?_); clear hK8
      refine good_ret ?_
      repeat (first | refine thenQ_ret ?_ | refine blockQ_ret ?_)
      refine ret_many rfl ?_
      refine res_tmp (by conv => lhs; whnf) rfl ?_
      refine res_tmp (by conv => lhs; whnf) rfl ?_
      refine res_tmp (by conv => lhs; whnf) rfl ?_
      refine res_nil ?_
      clear hK2
      first | exact fTup1 (fI (by rw [if_neg (by assumption)])) (fTup1 (fI (by rw [if_neg (by assumption)])) (fTup1 (fI (by rw [if_neg (by assumption)])) rfl)) | exact fTup1 (fI (by rw [if_pos (by assumption), if_neg (fun h => by grind)])) (fTup1 (fI (by rw [if_pos (by assumption), if_neg (fun h => by grind)])) (fTup1 (fI (by rw [if_pos (by assumption), if_neg (fun h => by grind)])) rfl)) | (have e : n = 300 := (by omega); have okr : (1 ≤ co ∧ co ≤ 1000) ∧ (0 ≤ pr ∧ pr ≤ 1000) ∧ (0 ≤ he ∧ he ≤ 1000) ∧ (1 ≤ ye ∧ ye ≤ 100) ∧ (-5000 ≤ wa ∧ wa ≤ 20000) ∧ (-5000 ≤ gr ∧ gr ≤ 20000) := ⟨(by assumption), (by assumption), (by assumption), (by assumption), (by assumption), (by assumption)⟩; exact fTup1 (fI (by rw [if_pos (by assumption), if_pos okr, e])) (fTup1 (fI (by rw [if_pos (by assumption), if_pos okr]; first | (rw [btI_ne (by omega), e]) | rw [e])) (fTup1 (fI (by rw [if_pos (by assumption), if_pos okr])) rfl)))
    · first | replace hb7 := dT hb7 | skip
      refine ev_q rfl (q_not rfl rfl ?_)
      refine ev_q rfl (q_move (by conv => lhs; whnf) ?_)
      refine ev_q rfl (q_move (by conv => lhs; whnf) ?_)
      refine ev_q rfl (q_callB rfl rfl rfl (D_impl_within ..) ?_)
      intro b9 hb9; cases b9
      · first | replace hb9 := dF hb9 | skip
        refine ev_q rfl (q_not rfl rfl ?_)
        refine ev_q rfl (q_pickF rfl (by conv => lhs; whnf) ?_)
        refine ev_q rfl (q_move (by conv => lhs; whnf) ?_)
        refine ev_skip rfl ?_
        refine ev_skip rfl ?_
        refine ev_skip rfl ?_
        refine ev_q rfl (q_pickT rfl (by conv => lhs; whnf) ?_)
        refine ev_q rfl (q_move (by conv => lhs; whnf) ?_)
        refine ev_skip rfl ?_
        refine ev_skip rfl ?_
        refine ev_skip rfl ?_
        refine ev_q rfl (q_pickT rfl (by conv => lhs; whnf) ?_)
        refine ev_q rfl (q_move (by conv => lhs; whnf) ?_)
        refine ev_skip rfl ?_
        refine ev_skip rfl ?_
        refine ev_skip rfl ?_
        refine ev_q rfl (q_pickT rfl (by conv => lhs; whnf) ?_)
        refine ev_q rfl (q_move (by conv => lhs; whnf) ?_)
        refine ev_skip rfl ?_
        refine ev_skip rfl ?_
        refine ev_skip rfl ?_
        refine ev_q rfl (q_pickT rfl (by conv => lhs; whnf) ?_)
        refine ev_q rfl (q_assign (by conv => lhs; whnf) ?_)
        refine ev_nil (hK6 _ ?_); clear hK6
        refine good_condT rfl ?_
        refine good_seq fun K10 hK10 => ?_
        refine good_region rfl ?_
        refine ev_q rfl (q_assign (by conv => lhs; whnf) ?_)
        refine ev_q rfl (q_assign (by conv => lhs; whnf) ?_)
        refine ev_q rfl (q_assign (by conv => lhs; whnf) ?_)
        refine ev_nil (hK10 _ ?_); clear hK10
        refine good_ret ?_
        repeat (first | refine thenQ_ret ?_ | refine blockQ_ret ?_)
        refine ret_many rfl ?_
        refine res_tmp (by conv => lhs; whnf) rfl ?_
        refine res_tmp (by conv => lhs; whnf) rfl ?_
        refine res_tmp (by conv => lhs; whnf) rfl ?_
        refine res_nil ?_
        clear hK2
        first | exact fTup1 (fI (by rw [if_neg (by assumption)])) (fTup1 (fI (by rw [if_neg (by assumption)])) (fTup1 (fI (by rw [if_neg (by assumption)])) rfl)) | exact fTup1 (fI (by rw [if_pos (by assumption), if_neg (fun h => by grind)])) (fTup1 (fI (by rw [if_pos (by assumption), if_neg (fun h => by grind)])) (fTup1 (fI (by rw [if_pos (by assumption), if_neg (fun h => by grind)])) rfl)) | (have e : n = 300 := (by omega); have okr : (1 ≤ co ∧ co ≤ 1000) ∧ (0 ≤ pr ∧ pr ≤ 1000) ∧ (0 ≤ he ∧ he ≤ 1000) ∧ (1 ≤ ye ∧ ye ≤ 100) ∧ (-5000 ≤ wa ∧ wa ≤ 20000) ∧ (-5000 ≤ gr ∧ gr ≤ 20000) := ⟨(by assumption), (by assumption), (by assumption), (by assumption), (by assumption), (by assumption)⟩; exact fTup1 (fI (by rw [if_pos (by assumption), if_pos okr, e])) (fTup1 (fI (by rw [if_pos (by assumption), if_pos okr]; first | (rw [btI_ne (by omega), e]) | rw [e])) (fTup1 (fI (by rw [if_pos (by assumption), if_pos okr])) rfl)))
      · first | replace hb9 := dT hb9 | skip
        refine ev_q rfl (q_not rfl rfl ?_)
        refine ev_q rfl (q_pickF rfl (by conv => lhs; whnf) ?_)
        refine ev_q rfl (q_move (by conv => lhs; whnf) ?_)
        refine ev_q rfl (q_move (by conv => lhs; whnf) ?_)
        refine ev_q rfl (q_callB rfl rfl rfl (D_impl_within ..) ?_)
        intro b11 hb11; cases b11
        · first | replace hb11 := dF hb11 | skip
          refine ev_q rfl (q_not rfl rfl ?_)
          refine ev_q rfl (q_pickF rfl (by conv => lhs; whnf) ?_)
          refine ev_q rfl (q_move (by conv => lhs; whnf) ?_)
          refine ev_skip rfl ?_
          refine ev_skip rfl ?_
          refine ev_skip rfl ?_
          refine ev_q rfl (q_pickT rfl (by conv => lhs; whnf) ?_)
          refine ev_q rfl (q_move (by conv => lhs; whnf) ?_)
          refine ev_skip rfl ?_
          refine ev_skip rfl ?_
          refine ev_skip rfl ?_
          refine ev_q rfl (q_pickT rfl (by conv => lhs; whnf) ?_)
          refine ev_q rfl (q_move (by conv => lhs; whnf) ?_)
          refine ev_skip rfl ?_
          refine ev_skip rfl ?_
          refine ev_skip rfl ?_
          refine ev_q rfl (q_pickT rfl (by conv => lhs; whnf) ?_)
          refine ev_q rfl (q_assign (by conv => lhs; whnf) ?_)
          refine ev_nil (hK6 _ ?_); clear hK6
          refine good_condT rfl ?_
          refine good_seq fun K12 hK12 => ?_
          refine good_region rfl ?_
          refine ev_q rfl (q_assign (by conv => lhs; whnf) ?_)
          refine ev_q rfl (q_assign (by conv => lhs; whnf) ?_)
          refine ev_q rfl (q_assign (by conv => lhs; whnf) ?_)
          refine ev_nil (hK12 _ ?_); clear hK12
          refine good_ret ?_
          repeat (first | refine thenQ_ret ?_ | refine blockQ_ret ?_)
          refine ret_many rfl ?_
          refine res_tmp (by conv => lhs; whnf) rfl ?_
          refine res_tmp (by conv => lhs; whnf) rfl ?_
          refine res_tmp (by conv => lhs; whnf) rfl ?_
          refine res_nil ?_
          clear hK2
          first | exact fTup1 (fI (by rw [if_neg (by assumption)])) (fTup1 (fI (by rw [if_neg (by assumption)])) (fTup1 (fI (by rw [if_neg (by assumption)])) rfl)) | exact fTup1 (fI (by rw [if_pos (by assumption), if_neg (fun h => by grind)])) (fTup1 (fI (by rw [if_pos (by assumption), if_neg (fun h => by grind)])) (fTup1 (fI (by rw [if_pos (by assumption), if_neg (fun h => by grind)])) rfl)) | (have e : n = 300 := (by omega); have okr : (1 ≤ co ∧ co ≤ 1000) ∧ (0 ≤ pr ∧ pr ≤ 1000) ∧ (0 ≤ he ∧ he ≤ 1000) ∧ (1 ≤ ye ∧ ye ≤ 100) ∧ (-5000 ≤ wa ∧ wa ≤ 20000) ∧ (-5000 ≤ gr ∧ gr ≤ 20000) := ⟨(by assumption), (by assumption), (by assumption), (by assumption), (by assumption), (by assumption)⟩; exact fTup1 (fI (by rw [if_pos (by assumption), if_pos okr, e])) (fTup1 (fI (by rw [if_pos (by assumption), if_pos okr]; first | (rw [btI_ne (by omega), e]) | rw [e])) (fTup1 (fI (by rw [if_pos (by assumption), if_pos okr])) rfl)))
        · first | replace hb11 := dT hb11 | skip
          refine ev_q rfl (q_not rfl rfl ?_)
          refine ev_q rfl (q_pickF rfl (by conv => lhs; whnf) ?_)
          refine ev_q rfl (q_move (by conv => lhs; whnf) ?_)
          refine ev_q rfl (q_move (by conv => lhs; whnf) ?_)
          refine ev_q rfl (q_callB rfl rfl rfl (D_impl_within ..) ?_)
          intro b13 hb13; cases b13
          · first | replace hb13 := dF hb13 | skip
            refine ev_q rfl (q_not rfl rfl ?_)
            refine ev_q rfl (q_pickF rfl (by conv => lhs; whnf) ?_)
            refine ev_q rfl (q_move (by conv => lhs; whnf) ?_)
            refine ev_skip rfl ?_
            refine ev_skip rfl ?_
            refine ev_skip rfl ?_
            refine ev_q rfl (q_pickT rfl (by conv => lhs; whnf) ?_)
            refine ev_q rfl (q_move (by conv => lhs; whnf) ?_)
            refine ev_skip rfl ?_
            refine ev_skip rfl ?_
            refine ev_skip rfl ?_
            refine ev_q rfl (q_pickT rfl (by conv => lhs; whnf) ?_)
            refine ev_q rfl (q_assign (by conv => lhs; whnf) ?_)
            refine ev_nil (hK6 _ ?_); clear hK6
            refine good_condT rfl ?_
            refine good_seq fun K14 hK14 => ?_
            refine good_region rfl ?_
            refine ev_q rfl (q_assign (by conv => lhs; whnf) ?_)
            refine ev_q rfl (q_assign (by conv => lhs; whnf) ?_)
            refine ev_q rfl (q_assign (by conv => lhs; whnf) ?_)
            refine ev_nil (hK14 _ ?_); clear hK14
            refine good_ret ?_
            repeat (first | refine thenQ_ret ?_ | refine blockQ_ret ?_)
            refine ret_many rfl ?_
            refine res_tmp (by conv => lhs; whnf) rfl ?_
            refine res_tmp (by conv => lhs; whnf) rfl ?_
            refine res_tmp (by conv => lhs; whnf) rfl ?_
            refine res_nil ?_
            clear hK2
            first | exact fTup1 (fI (by rw [if_neg (by assumption)])) (fTup1 (fI (by rw [if_neg (by assumption)])) (fTup1 (fI (by rw [if_neg (by assumption)])) rfl)) | exact fTup1 (fI (by rw [if_pos (by assumption), if_neg (fun h => by grind)])) (fTup1 (fI (by rw [if_pos (by assumption), if_neg (fun h => by grind)])) (fTup1 (fI (by rw [if_pos (by assumption), if_neg (fun h => by grind)])) rfl)) | (have e : n = 300 := (by omega); have okr : (1 ≤ co ∧ co ≤ 1000) ∧ (0 ≤ pr ∧ pr ≤ 1000) ∧ (0 ≤ he ∧ he ≤ 1000) ∧ (1 ≤ ye ∧ ye ≤ 100) ∧ (-5000 ≤ wa ∧ wa ≤ 20000) ∧ (-5000 ≤ gr ∧ gr ≤ 20000) := ⟨(by assumption), (by assumption), (by assumption), (by assumption), (by assumption), (by assumption)⟩; exact fTup1 (fI (by rw [if_pos (by assumption), if_pos okr, e])) (fTup1 (fI (by rw [if_pos (by assumption), if_pos okr]; first | (rw [btI_ne (by omega), e]) | rw [e])) (fTup1 (fI (by rw [if_pos (by assumption), if_pos okr])) rfl)))
          · first | replace hb13 := dT hb13 | skip
            refine ev_q rfl (q_not rfl rfl ?_)
            refine ev_q rfl (q_pickF rfl (by conv => lhs; whnf) ?_)
            refine ev_q rfl (q_move (by conv => lhs; whnf) ?_)
            refine ev_q rfl (q_move (by conv => lhs; whnf) ?_)
            refine ev_q rfl (q_callB rfl rfl rfl (D_impl_degreesOk ..) ?_)
            intro b15 hb15; cases b15
            · first | replace hb15 := dF hb15 | skip
              refine ev_q rfl (q_not rfl rfl ?_)
              refine ev_q rfl (q_pickF rfl (by conv => lhs; whnf) ?_)
              refine ev_q rfl (q_move (by conv => lhs; whnf) ?_)
              refine ev_skip rfl ?_
              refine ev_skip rfl ?_
              refine ev_skip rfl ?_
              refine ev_q rfl (q_pickT rfl (by conv => lhs; whnf) ?_)
              refine ev_q rfl (q_assign (by conv => lhs; whnf) ?_)
              refine ev_nil (hK6 _ ?_); clear hK6
              refine good_condT rfl ?_
              refine good_seq fun K16 hK16 => ?_
              refine good_region rfl ?_
              refine ev_q rfl (q_assign (by conv => lhs; whnf) ?_)
              refine ev_q rfl (q_assign (by conv => lhs; whnf) ?_)
              refine ev_q rfl (q_assign (by conv => lhs; whnf) ?_)
              refine ev_nil (hK16 _ ?_); clear hK16
              refine good_ret ?_
              repeat (first | refine thenQ_ret ?_ | refine blockQ_ret ?_)
              refine ret_many rfl ?_
              refine res_tmp (by conv => lhs; whnf) rfl ?_
              refine res_tmp (by conv => lhs; whnf) rfl ?_
              refine res_tmp (by conv => lhs; whnf) rfl ?_
              refine res_nil ?_
              clear hK2
              first | exact fTup1 (fI (by rw [if_neg (by assumption)])) (fTup1 (fI (by rw [if_neg (by assumption)])) (fTup1 (fI (by rw [if_neg (by assumption)])) rfl)) | exact fTup1 (fI (by rw [if_pos (by assumption), if_neg (fun h => by grind)])) (fTup1 (fI (by rw [if_pos (by assumption), if_neg (fun h => by grind)])) (fTup1 (fI (by rw [if_pos (by assumption), if_neg (fun h => by grind)])) rfl)) | (have e : n = 300 := (by omega); have okr : (1 ≤ co ∧ co ≤ 1000) ∧ (0 ≤ pr ∧ pr ≤ 1000) ∧ (0 ≤ he ∧ he ≤ 1000) ∧ (1 ≤ ye ∧ ye ≤ 100) ∧ (-5000 ≤ wa ∧ wa ≤ 20000) ∧ (-5000 ≤ gr ∧ gr ≤ 20000) := ⟨(by assumption), (by assumption), (by assumption), (by assumption), (by assumption), (by assumption)⟩; exact fTup1 (fI (by rw [if_pos (by assumption), if_pos okr, e])) (fTup1 (fI (by rw [if_pos (by assumption), if_pos okr]; first | (rw [btI_ne (by omega), e]) | rw [e])) (fTup1 (fI (by rw [if_pos (by assumption), if_pos okr])) rfl)))
            · first | replace hb15 := dT hb15 | skip
              refine ev_q rfl (q_not rfl rfl ?_)
              refine ev_q rfl (q_pickF rfl (by conv => lhs; whnf) ?_)
              refine ev_q rfl (q_move (by conv => lhs; whnf) ?_)
              refine ev_q rfl (q_move (by conv => lhs; whnf) ?_)
              refine ev_q rfl (q_callB rfl rfl rfl (D_impl_degreesOk ..) ?_)
              intro b17 hb17; cases b17
              · first | replace hb17 := dF hb17 | skip
                refine ev_q rfl (q_not rfl rfl ?_)
                refine ev_q rfl (q_pickF rfl (by conv => lhs; whnf) ?_)
                refine ev_q rfl (q_assign (by conv => lhs; whnf) ?_)
                refine ev_nil (hK6 _ ?_); clear hK6
                refine good_condT rfl ?_
                refine good_seq fun K18 hK18 => ?_
                refine good_region rfl ?_
                refine ev_q rfl (q_assign (by conv => lhs; whnf) ?_)
                refine ev_q rfl (q_assign (by conv => lhs; whnf) ?_)
                refine ev_q rfl (q_assign (by conv => lhs; whnf) ?_)
                refine ev_nil (hK18 _ ?_); clear hK18
                refine good_ret ?_
                repeat (first | refine thenQ_ret ?_ | refine blockQ_ret ?_)
                refine ret_many rfl ?_
                refine res_tmp (by conv => lhs; whnf) rfl ?_
                refine res_tmp (by conv => lhs; whnf) rfl ?_
                refine res_tmp (by conv => lhs; whnf) rfl ?_
                refine res_nil ?_
                clear hK2
                first | exact fTup1 (fI (by rw [if_neg (by assumption)])) (fTup1 (fI (by rw [if_neg (by assumption)])) (fTup1 (fI (by rw [if_neg (by assumption)])) rfl)) | exact fTup1 (fI (by rw [if_pos (by assumption), if_neg (fun h => by grind)])) (fTup1 (fI (by rw [if_pos (by assumption), if_neg (fun h => by grind)])) (fTup1 (fI (by rw [if_pos (by assumption), if_neg (fun h => by grind)])) rfl)) | (have e : n = 300 := (by omega); have okr : (1 ≤ co ∧ co ≤ 1000) ∧ (0 ≤ pr ∧ pr ≤ 1000) ∧ (0 ≤ he ∧ he ≤ 1000) ∧ (1 ≤ ye ∧ ye ≤ 100) ∧ (-5000 ≤ wa ∧ wa ≤ 20000) ∧ (-5000 ≤ gr ∧ gr ≤ 20000) := ⟨(by assumption), (by assumption), (by assumption), (by assumption), (by assumption), (by assumption)⟩; exact fTup1 (fI (by rw [if_pos (by assumption), if_pos okr, e])) (fTup1 (fI (by rw [if_pos (by assumption), if_pos okr]; first | (rw [btI_ne (by omega), e]) | rw [e])) (fTup1 (fI (by rw [if_pos (by assumption), if_pos okr])) rfl)))
              · first | replace hb17 := dT hb17 | skip
                refine ev_q rfl (q_not rfl rfl ?_)
                refine ev_q rfl (q_pickF rfl (by conv => lhs; whnf) ?_)
                refine ev_q rfl (q_assign (by conv => lhs; whnf) ?_)
                refine ev_nil (hK6 _ ?_); clear hK6
                refine good_condF rfl ?_
                refine good_skip (hK2 _ ?_); clear hK2
                refine good_seq fun K19 hK19 => ?_
                refine good_region rfl ?_
                refine ev_q rfl (q_assign (by conv => lhs; whnf) ?_)
                refine ev_q rfl (q_assign (by conv => lhs; whnf) ?_)
                refine ev_nil (hK19 _ ?_); clear hK19
                refine good_seq fun K20 hK20 => ?_
                refine good_seq fun K21 hK21 => ?_
                refine good_region rfl ?_
                refine ev_q rfl (q_assign (by conv => lhs; whnf) ?_)
                refine ev_nil (hK21 _ ?_); clear hK21
                refine good_block ?_
                refine good_loop (α := Nat) (fun n => { env := upd (upd (upd (upd (upd (upd (upd (upd (upd (upd ((fun _ => .junk)) 1 (.s (.int .i64 co))) 2 (.s (.int .i64 pr))) 3 (.s (.int .i64 he))) 4 (.s (.int .i64 ye))) 5 (.s (.int .i64 wa))) 6 (.s (.int .i64 gr))) 7 (.ptr 7 0)) 17 (.s (.int .i64 ((btG (btC di le co pr he ye wa gr) n).1)))) 18 (.s (.int .i64 (btI (btC di le co pr he ye wa gr) n)))) 19 (.s (.int .i64 (n + 1))), H := upd ((fun _ => none)) 7 (some (.box 27 [.s (.string s), .s (.int .i64 fm), .s (.int .i64 tt), .s (.int .i64 le), .s (.int .i64 di), .s (.int .i64 lo)])) }) (fun n => n ≤ 300) (fun n => 300 - n) 0 ?_ ?_ ?_
                · show 0 ≤ 300; omega
                · refine sub_weak ?_ ?_
                  · exact weakH_box (boxEq (rfl)) rfl (weakH_none _)
                  · refine weakE_upd ?e19 ?r19 (weakE_upd ?e18 ?r18 (weakE_upd ?e17 ?r17 (weakE_upd ?e7 ?r7 (weakE_upd ?e6 ?r6 (weakE_upd ?e5 ?r5 (weakE_upd ?e4 ?r4 (weakE_upd ?e3 ?r3 (weakE_upd ?e2 ?r2 (weakE_upd ?e1 ?r1 (weakE_junk _ _))))))))))
                    case e1 => first | rfl | exact fI (by omega) | (simp_all)
                    case r1 => intro h hh; cases hh
                    case e2 => first | rfl | exact fI (by omega) | (simp_all)
                    case r2 => intro h hh; cases hh
                    case e3 => first | rfl | exact fI (by omega) | (simp_all)
                    case r3 => intro h hh; cases hh
                    case e4 => first | rfl | exact fI (by omega) | (simp_all)
                    case r4 => intro h hh; cases hh
                    case e5 => first | rfl | exact fI (by omega) | (simp_all)
                    case r5 => intro h hh; cases hh
                    case e6 => first | rfl | exact fI (by omega) | (simp_all)
                    case r6 => intro h hh; cases hh
                    case e7 => first | rfl | exact fI (by omega) | (simp_all)
                    case r7 => intro h hh; simp [refs] at hh; subst hh; rfl
                    case e17 => first | rfl | exact fI (by omega) | (first | rfl | exact fI (by rw [hG]))
                    case r17 => intro h hh; cases hh
                    case e18 => first | rfl | exact fI (by omega) | (first | exact fI (by rw [btI_ne (by omega), hG]; simp only; omega) | exact fI (by rw [btI_ne (by omega), hG, btI_ne hn0]) | rfl)
                    case r18 => intro h hh; cases hh
                    case e19 => first | rfl | exact fI (by omega) | (simp_all)
                    case r19 => intro h hh; cases hh
                · rintro n hI
                  refine good_seq fun K22 hK22 => ?_
                  refine good_seq fun K23 hK23 => ?_
                  refine good_region rfl ?_
                  refine ev_q rfl (q_move (by conv => lhs; whnf) ?_)
                  refine ev_q rfl (q_int rfl rfl ?_)
                  intro b24 hb24; cases b24
                  · replace hb24 := dF hb24
                    refine ev_nil (hK23 _ ?_); clear hK23
                    refine good_condF rfl ?_
                    refine good_exit ?_
                    repeat (first | refine thenQ_exit ?_ | refine blockQ_pass rfl ?_)
                    refine blockQ_exit (hK20 _ ?_); clear hK20
                    refine good_seq fun K25 hK25 => ?_
                    refine good_region rfl ?_
                    refine ev_q rfl (q_move (by conv => lhs; whnf) ?_)
                    refine ev_q rfl (q_move (by conv => lhs; whnf) ?_)
                    refine ev_q rfl (q_assign (by conv => lhs; whnf) ?_)
                    refine ev_q rfl (q_assign (by conv => lhs; whnf) ?_)
                    refine ev_q rfl (q_assign (by conv => lhs; whnf) ?_)
                    refine ev_nil (hK25 _ ?_); clear hK25
                    refine good_ret ?_
                    repeat (first | refine thenQ_ret ?_ | refine blockQ_ret ?_)
                    refine ret_many rfl ?_
                    refine res_tmp (by conv => lhs; whnf) rfl ?_
                    refine res_tmp (by conv => lhs; whnf) rfl ?_
                    refine res_tmp (by conv => lhs; whnf) rfl ?_
                    refine res_nil ?_
                    clear hK22
                    first | exact fTup1 (fI (by rw [if_neg (by assumption)])) (fTup1 (fI (by rw [if_neg (by assumption)])) (fTup1 (fI (by rw [if_neg (by assumption)])) rfl)) | exact fTup1 (fI (by rw [if_pos (by assumption), if_neg (fun h => by grind)])) (fTup1 (fI (by rw [if_pos (by assumption), if_neg (fun h => by grind)])) (fTup1 (fI (by rw [if_pos (by assumption), if_neg (fun h => by grind)])) rfl)) | (have e : n = 300 := (by omega); have okr : (1 ≤ co ∧ co ≤ 1000) ∧ (0 ≤ pr ∧ pr ≤ 1000) ∧ (0 ≤ he ∧ he ≤ 1000) ∧ (1 ≤ ye ∧ ye ≤ 100) ∧ (-5000 ≤ wa ∧ wa ≤ 20000) ∧ (-5000 ≤ gr ∧ gr ≤ 20000) := ⟨(by assumption), (by assumption), (by assumption), (by assumption), (by assumption), (by assumption)⟩; exact fTup1 (fI (by rw [if_pos (by assumption), if_pos okr, e])) (fTup1 (fI (by rw [if_pos (by assumption), if_pos okr]; first | (rw [btI_ne (by omega), e]) | rw [e])) (fTup1 (fI (by rw [if_pos (by assumption), if_pos okr])) rfl)))
                  · replace hb24 := dT hb24
                    have okr : (1 ≤ co ∧ co ≤ 1000) ∧ (0 ≤ pr ∧ pr ≤ 1000) ∧ (0 ≤ he ∧ he ≤ 1000) ∧ (1 ≤ ye ∧ ye ≤ 100) ∧ (-5000 ≤ wa ∧ wa ≤ 20000) ∧ (-5000 ≤ gr ∧ gr ≤ 20000) := by omega
                    have okq := ‹isName s = true ∧ _›.2
                    have hb := btB (t := n + 1) (di := di) (le := le) (co := co) (pr := pr) (he := he) (ye := ye) (wa := wa) (gr := gr) (by omega) (by omega) (by omega) (by omega) (by omega) (by omega) (by omega) (by omega)
                    have hnn := btG_nn (c := (btC di le co pr he ye wa gr)) (fun t h1 h2 => (btB (t := t) (by omega) (by omega) (by omega) (by omega) (by omega) (by omega) (by omega) (by omega)).2.2.2.2.2) n hI
                    refine ev_nil (hK23 _ ?_); clear hK23
                    refine good_condT rfl ?_
                    refine good_skip (hK22 _ ?_); clear hK22
                    refine good_seq fun K26 hK26 => ?_
                    refine good_block ?_
                    refine good_seq fun K27 hK27 => ?_
                    refine good_region rfl ?_
                    refine ev_q rfl (q_loadA tA27 rfl rfl rfl rfl ?_)
                    refine ev_k rfl (k_alloc zA27 rfl ?_)
                    refine ev_k rfl (k_store sz27 rfl (by conv => lhs; whnf) rfl rfl rfl (Nat.le_of_ble_eq_true rfl) rfl ?_)
                    refine ev_nil (hK27 _ ?_); clear hK27
                    refine good_seq fun K28 hK28 => ?_
                    refine good_region rfl ?_
                    refine ev_q rfl (q_fieldAddrP fO27_4 rfl rfl ?_)
                    refine ev_q rfl (q_load tA2 rfl ?_)
                    refine ev_q rfl (q_move (by conv => lhs; whnf) ?_)
                    refine ev_q rfl (q_move (by conv => lhs; whnf) ?_)
                    refine ev_q rfl (q_callI rfl rfl rfl (D_impl_coatLoss _ _ _ (by omega)) ?_)
                    intro n29 hn29
                    have hc := coat_bd (d := di) (t := n + 1) (c := co)
                    rw [← hn29] at hc
                    refine ev_q rfl (q_fieldAddrP fO27_5 rfl rfl ?_)
                    refine ev_k rfl (k_store sz2 rfl (by conv => lhs; whnf) rfl rfl rfl (Nat.le_of_ble_eq_true rfl) rfl ?_)
                    refine ev_nil (hK28 _ ?_); clear hK28
                    refine good_seq fun K30 hK30 => ?_
                    refine good_region rfl ?_
                    refine ev_q rfl (q_loadA tA27 rfl rfl rfl rfl ?_)
                    refine ev_q rfl (q_move (by conv => lhs; whnf) ?_)
                    refine ev_q rfl (q_move (by conv => lhs; whnf) ?_)
                    refine ev_q rfl (q_callI rfl rfl rfl (D_impl_Pipe_loss _ _ _ _ _ _ _ _ (by omega) (by omega) (by omega) (by omega)) ?_)
                    intro n31 hn31
                    rw [hn29] at hn31
                    refine ev_q rfl (q_max rfl rfl ?_)
                    intro n32 hn32; simp only [mxI, mnI] at hn32
                    have hL : n32 = btL di le co wa gr (n + 1) := by unfold btL; rw [← hn31]; omega
                    refine ev_q rfl (q_assign (by conv => lhs; whnf) ?_)
                    refine ev_nil (hK30 _ ?_); clear hK30
                    refine good_seq fun K33 hK33 => ?_
                    refine good_region rfl ?_
                    refine ev_q rfl (q_loadA tA27 rfl rfl rfl rfl ?_)
                    refine ev_q rfl (q_move (by conv => lhs; whnf) ?_)
                    refine ev_q rfl (q_move (by conv => lhs; whnf) ?_)
                    refine ev_q rfl (q_callI rfl rfl rfl (D_impl_Pipe_coatCost _ _ _ _ _ _ _ _ (by omega) (by omega) (by omega)) ?_)
                    intro n34 hn34
                    refine ev_q rfl (q_move (by conv => lhs; whnf) ?_)
                    refine ev_q rfl (q_int rfl rfl ?_)
                    intro n35 hn35
                    rw [hL] at hn35
                    replace hn35 := in64 hn35 (by omega) (by omega)
                    refine ev_q rfl (q_move (by conv => lhs; whnf) ?_)
                    refine ev_q rfl (q_int rfl rfl ?_)
                    intro n36 hn36
                    rw [hn35] at hn36
                    replace hn36 := in64 hn36 (by omega) (by omega)
                    refine ev_q rfl (q_move (by conv => lhs; whnf) ?_)
                    refine ev_q rfl (q_int rfl rfl ?_)
                    intro n37 hn37
                    rw [hn36] at hn37
                    replace hn37 := in64 hn37 (by omega) (by omega)
                    refine ev_q rfl (q_callI rfl rfl rfl (D_impl_divRound _ _ (by omega) (by omega)) ?_)
                    intro n38 hn38
                    rw [hn37] at hn38
                    refine ev_q rfl (q_int rfl rfl ?_)
                    intro n39 hn39
                    replace hn39 := in64 hn39 (by omega) (by omega)
                    have hC : n39 = btC di le co pr he ye wa gr (n + 1) := by unfold btC; omega
                    refine ev_q rfl (q_assign (by conv => lhs; whnf) ?_)
                    refine ev_nil (hK33 _ ?_); clear hK33
                    refine good_seq fun K40 hK40 => ?_
                    refine good_region rfl ?_
                    refine ev_q rfl (q_move (by conv => lhs; whnf) ?_)
                    refine ev_q rfl (q_int rfl rfl ?_)
                    intro b41 hb41; cases b41
                    · replace hb41 := dF hb41
                      have hn0 : ¬ n = 0 := by intro h; subst h; exact absurd (show (-1 : Int) < 0 by decide) (by assumption)
                      have hI18 := btI_ne (c := (btC di le co pr he ye wa gr)) hn0
                      refine ev_q rfl (q_move (by conv => lhs; whnf) ?_)
                      refine ev_q rfl (q_move (by conv => lhs; whnf) ?_)
                      refine ev_q rfl (q_move (by conv => lhs; whnf) ?_)
                      refine ev_q rfl (q_int rfl rfl ?_)
                      intro b42 hb42; cases b42
                      · replace hb42 := dF hb42
                        have hG := btG_F (c := (btC di le co pr he ye wa gr)) (n := n) hn0 (by omega)
                        refine ev_q rfl (q_pickF rfl (by conv => lhs; whnf) ?_)
                        refine ev_nil (hK40 _ ?_); clear hK40
                        refine good_condF rfl ?_
                        refine good_skip (hK26 _ ?_); clear hK26
                        refine good_region rfl ?_
                        refine ev_q rfl (q_move (by conv => lhs; whnf) ?_)
                        refine ev_q rfl (q_int rfl rfl ?_)
                        intro n43 hn43
                        replace hn43 := in64 hn43 (by omega) (by omega)
                        refine ev_q rfl (q_assign (by conv => lhs; whnf) ?_)
                        refine ev_nil ?_
                        clear hK20
                        refine ⟨n + 1, ?_, ?_, ?_⟩
                        · show _ ≤ 300; omega
                        · first | omega | (simp only []; omega) | (dsimp only; omega)
                        · refine sub_weak ?_ ?_
                          · exact weakH_box (boxEq (rfl)) rfl (weakH_none _)
                          · refine weakE_upd ?e19 ?r19 (weakE_upd ?e18 ?r18 (weakE_upd ?e17 ?r17 (weakE_upd ?e7 ?r7 (weakE_upd ?e6 ?r6 (weakE_upd ?e5 ?r5 (weakE_upd ?e4 ?r4 (weakE_upd ?e3 ?r3 (weakE_upd ?e2 ?r2 (weakE_upd ?e1 ?r1 (weakE_junk _ _))))))))))
                            case e1 => first | rfl | exact fI (by omega) | (simp_all)
                            case r1 => intro h hh; cases hh
                            case e2 => first | rfl | exact fI (by omega) | (simp_all)
                            case r2 => intro h hh; cases hh
                            case e3 => first | rfl | exact fI (by omega) | (simp_all)
                            case r3 => intro h hh; cases hh
                            case e4 => first | rfl | exact fI (by omega) | (simp_all)
                            case r4 => intro h hh; cases hh
                            case e5 => first | rfl | exact fI (by omega) | (simp_all)
                            case r5 => intro h hh; cases hh
                            case e6 => first | rfl | exact fI (by omega) | (simp_all)
                            case r6 => intro h hh; cases hh
                            case e7 => first | rfl | exact fI (by omega) | (simp_all)
                            case r7 => intro h hh; simp [refs] at hh; subst hh; rfl
                            case e17 => first | rfl | exact fI (by omega) | (first | rfl | exact fI (by rw [hG]))
                            case r17 => intro h hh; cases hh
                            case e18 => first | rfl | exact fI (by omega) | (first | exact fI (by rw [btI_ne (by omega), hG]; simp only; omega) | exact fI (by rw [btI_ne (by omega), hG, btI_ne hn0]) | rfl)
                            case r18 => intro h hh; cases hh
                            case e19 => first | rfl | exact fI (by omega) | (simp_all)
                            case r19 => intro h hh; cases hh
                      · replace hb42 := dT hb42
                        have hG := btG_T (c := (btC di le co pr he ye wa gr)) (n := n) (.inr (by omega))
                        refine ev_q rfl (q_pickF rfl (by conv => lhs; whnf) ?_)
                        refine ev_nil (hK40 _ ?_); clear hK40
                        refine good_condT rfl ?_
                        refine good_region rfl ?_
                        refine ev_q rfl (q_move (by conv => lhs; whnf) ?_)
                        refine ev_q rfl (q_move (by conv => lhs; whnf) ?_)
                        refine ev_q rfl (q_assign (by conv => lhs; whnf) ?_)
                        refine ev_q rfl (q_assign (by conv => lhs; whnf) ?_)
                        refine ev_nil (hK26 _ ?_); clear hK26
                        refine good_region rfl ?_
                        refine ev_q rfl (q_move (by conv => lhs; whnf) ?_)
                        refine ev_q rfl (q_int rfl rfl ?_)
                        intro n44 hn44
                        replace hn44 := in64 hn44 (by omega) (by omega)
                        refine ev_q rfl (q_assign (by conv => lhs; whnf) ?_)
                        refine ev_nil ?_
                        clear hK20
                        refine ⟨n + 1, ?_, ?_, ?_⟩
                        · show _ ≤ 300; omega
                        · first | omega | (simp only []; omega) | (dsimp only; omega)
                        · refine sub_weak ?_ ?_
                          · exact weakH_box (boxEq (rfl)) rfl (weakH_none _)
                          · refine weakE_upd ?e19 ?r19 (weakE_upd ?e18 ?r18 (weakE_upd ?e17 ?r17 (weakE_upd ?e7 ?r7 (weakE_upd ?e6 ?r6 (weakE_upd ?e5 ?r5 (weakE_upd ?e4 ?r4 (weakE_upd ?e3 ?r3 (weakE_upd ?e2 ?r2 (weakE_upd ?e1 ?r1 (weakE_junk _ _))))))))))
                            case e1 => first | rfl | exact fI (by omega) | (simp_all)
                            case r1 => intro h hh; cases hh
                            case e2 => first | rfl | exact fI (by omega) | (simp_all)
                            case r2 => intro h hh; cases hh
                            case e3 => first | rfl | exact fI (by omega) | (simp_all)
                            case r3 => intro h hh; cases hh
                            case e4 => first | rfl | exact fI (by omega) | (simp_all)
                            case r4 => intro h hh; cases hh
                            case e5 => first | rfl | exact fI (by omega) | (simp_all)
                            case r5 => intro h hh; cases hh
                            case e6 => first | rfl | exact fI (by omega) | (simp_all)
                            case r6 => intro h hh; cases hh
                            case e7 => first | rfl | exact fI (by omega) | (simp_all)
                            case r7 => intro h hh; simp [refs] at hh; subst hh; rfl
                            case e17 => first | rfl | exact fI (by omega) | (first | rfl | exact fI (by rw [hG]))
                            case r17 => intro h hh; cases hh
                            case e18 => first | rfl | exact fI (by omega) | (first | exact fI (by rw [btI_ne (by omega), hG]; simp only; omega) | exact fI (by rw [btI_ne (by omega), hG, btI_ne hn0]) | rfl)
                            case r18 => intro h hh; cases hh
                            case e19 => first | rfl | exact fI (by omega) | (simp_all)
                            case r19 => intro h hh; cases hh
                    · replace hb41 := dT hb41
                      have hn0 : n = 0 := by apply Classical.byContradiction; intro h; have := btI_ne (c := (btC di le co pr he ye wa gr)) h; omega
                      have hG := btG_T (c := (btC di le co pr he ye wa gr)) (n := n) (.inl hn0)
                      refine ev_q rfl (q_move (by conv => lhs; whnf) ?_)
                      refine ev_skip rfl ?_
                      refine ev_skip rfl ?_
                      refine ev_skip rfl ?_
                      refine ev_q rfl (q_pickT rfl (by conv => lhs; whnf) ?_)
                      refine ev_nil (hK40 _ ?_); clear hK40
                      refine good_condT rfl ?_
                      refine good_region rfl ?_
                      refine ev_q rfl (q_move (by conv => lhs; whnf) ?_)
                      refine ev_q rfl (q_move (by conv => lhs; whnf) ?_)
                      refine ev_q rfl (q_assign (by conv => lhs; whnf) ?_)
                      refine ev_q rfl (q_assign (by conv => lhs; whnf) ?_)
                      refine ev_nil (hK26 _ ?_); clear hK26
                      refine good_region rfl ?_
                      refine ev_q rfl (q_move (by conv => lhs; whnf) ?_)
                      refine ev_q rfl (q_int rfl rfl ?_)
                      intro n45 hn45
                      replace hn45 := in64 hn45 (by omega) (by omega)
                      refine ev_q rfl (q_assign (by conv => lhs; whnf) ?_)
                      refine ev_nil ?_
                      clear hK20
                      refine ⟨n + 1, ?_, ?_, ?_⟩
                      · show _ ≤ 300; omega
                      · first | omega | (simp only []; omega) | (dsimp only; omega)
                      · refine sub_weak ?_ ?_
                        · exact weakH_box (boxEq (rfl)) rfl (weakH_none _)
                        · refine weakE_upd ?e19 ?r19 (weakE_upd ?e18 ?r18 (weakE_upd ?e17 ?r17 (weakE_upd ?e7 ?r7 (weakE_upd ?e6 ?r6 (weakE_upd ?e5 ?r5 (weakE_upd ?e4 ?r4 (weakE_upd ?e3 ?r3 (weakE_upd ?e2 ?r2 (weakE_upd ?e1 ?r1 (weakE_junk _ _))))))))))
                          case e1 => first | rfl | exact fI (by omega) | (simp_all)
                          case r1 => intro h hh; cases hh
                          case e2 => first | rfl | exact fI (by omega) | (simp_all)
                          case r2 => intro h hh; cases hh
                          case e3 => first | rfl | exact fI (by omega) | (simp_all)
                          case r3 => intro h hh; cases hh
                          case e4 => first | rfl | exact fI (by omega) | (simp_all)
                          case r4 => intro h hh; cases hh
                          case e5 => first | rfl | exact fI (by omega) | (simp_all)
                          case r5 => intro h hh; cases hh
                          case e6 => first | rfl | exact fI (by omega) | (simp_all)
                          case r6 => intro h hh; cases hh
                          case e7 => first | rfl | exact fI (by omega) | (simp_all)
                          case r7 => intro h hh; simp [refs] at hh; subst hh; rfl
                          case e17 => first | rfl | exact fI (by omega) | (first | rfl | exact fI (by rw [hG]))
                          case r17 => intro h hh; cases hh
                          case e18 => first | rfl | exact fI (by omega) | (first | exact fI (by rw [btI_ne (by omega), hG]; simp only; omega) | exact fI (by rw [btI_ne (by omega), hG, btI_ne hn0]) | rfl)
                          case r18 => intro h hh; cases hh
                          case e19 => first | rfl | exact fI (by omega) | (simp_all)
                          case r19 => intro h hh; cases hh

-- laws.FnExactBestThickness
set_option maxRecDepth 20000 in
set_option maxHeartbeats 8000000 in
theorem D_laws_FnExactBestThickness (s : ByteArray) (fm tt le di lo : Int) (co pr he ye wa gr : Int) (hs : s.size ≤ 140737488351232) : Den Try.prog 4 [.agg [.s (.string s), .s (.int .i64 fm), .s (.int .i64 tt), .s (.int .i64 le), .s (.int .i64 di), .s (.int .i64 lo)], .s (.int .i64 co), .s (.int .i64 pr), .s (.int .i64 he), .s (.int .i64 ye), .s (.int .i64 wa), .s (.int .i64 gr)] (.s (.bool true)) := by
  refine den_of_good Try.func4 (by decide) rfl (Nat.le_of_ble_eq_true rfl) ?_
  refine good_seq fun K1 hK1 => ?_
  refine good_region rfl ?_
  refine ev_k rfl (k_box (by conv => lhs; whnf) rfl rfl rfl ?_)
  refine ev_q rfl (q_assign (by conv => lhs; whnf) ?_)
  refine ev_nil (hK1 _ ?_); clear hK1
  refine good_seq fun K2 hK2 => ?_
  refine good_region rfl ?_
  refine ev_q rfl (q_assign (by conv => lhs; whnf) ?_)
  refine ev_nil (hK2 _ ?_); clear hK2
  refine good_seq fun K3 hK3 => ?_
  refine good_region rfl ?_
  refine ev_q rfl (q_loadA tA23 rfl rfl rfl rfl ?_)
  refine ev_q rfl (q_move (by conv => lhs; whnf) ?_)
  refine ev_q rfl (q_callI rfl rfl rfl (D_laws_szPipe _ _ _ _ _ _ _ hs (by omega)) ?_)
  intro n4 hn4
  refine ev_q rfl (q_assign (by conv => lhs; whnf) ?_)
  refine ev_nil (hK3 _ ?_); clear hK3
  refine good_seq fun K5 hK5 => ?_
  refine good_seq fun K6 hK6 => ?_
  refine good_region rfl ?_
  refine ev_q rfl (q_move (by conv => lhs; whnf) ?_)
  refine ev_q rfl (q_int rfl rfl ?_)
  intro b7 hb7; cases b7
  · replace hb7 := dF hb7
    refine ev_nil (hK6 _ ?_); clear hK6
    refine good_condF rfl ?_
    refine good_skip (hK5 _ ?_); clear hK5
    refine good_seq fun K8 hK8 => ?_
    refine good_region rfl ?_
    refine ev_q rfl (q_loadA tA23 rfl rfl rfl rfl ?_)
    refine ev_q rfl (q_call rfl rfl rfl (D_laws_toPipe ..) rfl ?_)
    refine ev_q rfl (q_move (by conv => lhs; whnf) ?_)
    refine ev_q rfl (q_move (by conv => lhs; whnf) ?_)
    refine ev_q rfl (q_move (by conv => lhs; whnf) ?_)
    refine ev_q rfl (q_move (by conv => lhs; whnf) ?_)
    refine ev_q rfl (q_move (by conv => lhs; whnf) ?_)
    refine ev_q rfl (q_move (by conv => lhs; whnf) ?_)
    refine ev_q rfl (q_call rfl rfl rfl (D_spec_BestThickness _ _ _ _ _ _ _ _ _ _ _ _ hs) rfl ?_)
    refine ev_q rfl (q_move (by conv => lhs; whnf) ?_)
    refine ev_q rfl (q_extractI rfl rfl ?_)
    intro n9 hn9
    refine ev_q rfl (q_extractI rfl rfl ?_)
    intro n10 hn10
    refine ev_q rfl (q_extractI rfl rfl ?_)
    intro n11 hn11
    refine ev_q rfl (q_assign (by conv => lhs; whnf) ?_)
    refine ev_q rfl (q_assign (by conv => lhs; whnf) ?_)
    refine ev_q rfl (q_assign (by conv => lhs; whnf) ?_)
    refine ev_nil (hK8 _ ?_); clear hK8
    refine good_seq fun K12 hK12 => ?_
    refine good_region rfl ?_
    refine ev_q rfl (q_loadA tA23 rfl rfl rfl rfl ?_)
    refine ev_q rfl (q_call rfl rfl rfl (D_laws_toPipe ..) rfl ?_)
    refine ev_q rfl (q_move (by conv => lhs; whnf) ?_)
    refine ev_q rfl (q_move (by conv => lhs; whnf) ?_)
    refine ev_q rfl (q_move (by conv => lhs; whnf) ?_)
    refine ev_q rfl (q_move (by conv => lhs; whnf) ?_)
    refine ev_q rfl (q_move (by conv => lhs; whnf) ?_)
    refine ev_q rfl (q_move (by conv => lhs; whnf) ?_)
    refine ev_q rfl (q_call rfl rfl rfl (D_impl_BestThickness _ _ _ _ _ _ _ _ _ _ _ _ hs) rfl ?_)
    refine ev_q rfl (q_move (by conv => lhs; whnf) ?_)
    refine ev_q rfl (q_extractI rfl rfl ?_)
    intro n13 hn13
    refine ev_q rfl (q_extractI rfl rfl ?_)
    intro n14 hn14
    refine ev_q rfl (q_extractI rfl rfl ?_)
    intro n15 hn15
    refine ev_q rfl (q_assign (by conv => lhs; whnf) ?_)
    refine ev_q rfl (q_assign (by conv => lhs; whnf) ?_)
    refine ev_q rfl (q_assign (by conv => lhs; whnf) ?_)
    refine ev_nil (hK12 _ ?_); clear hK12
    refine good_seq fun K16 hK16 => ?_
    refine good_seq fun K17 hK17 => ?_
    refine good_region rfl ?_
    refine ev_q rfl (q_move (by conv => lhs; whnf) ?_)
    refine ev_q rfl (q_move (by conv => lhs; whnf) ?_)
    refine ev_q rfl (q_int rfl rfl ?_)
    intro b18 hb18; cases b18
    · replace hb18 := neF hb18
      refine ev_q rfl (q_move (by conv => lhs; whnf) ?_)
      refine ev_q rfl (q_move (by conv => lhs; whnf) ?_)
      refine ev_q rfl (q_move (by conv => lhs; whnf) ?_)
      refine ev_q rfl (q_int rfl rfl ?_)
      intro b19 hb19; cases b19
      · replace hb19 := neF hb19
        refine ev_q rfl (q_pickF rfl (by conv => lhs; whnf) ?_)
        refine ev_q rfl (q_move (by conv => lhs; whnf) ?_)
        refine ev_q rfl (q_move (by conv => lhs; whnf) ?_)
        refine ev_q rfl (q_move (by conv => lhs; whnf) ?_)
        refine ev_q rfl (q_int rfl rfl ?_)
        intro b20 hb20; cases b20
        · replace hb20 := neF hb20
          refine ev_q rfl (q_pickF rfl (by conv => lhs; whnf) ?_)
          refine ev_nil (hK17 _ ?_); clear hK17
          refine good_condF rfl ?_
          refine good_skip (hK16 _ ?_); clear hK16
          refine good_seq fun K21 hK21 => ?_
          refine good_region rfl ?_
          refine ev_q rfl (q_assign (by conv => lhs; whnf) ?_)
          refine ev_nil (hK21 _ ?_); clear hK21
          refine good_ret ?_
          repeat (first | refine thenQ_ret ?_ | refine blockQ_ret ?_)
          refine ret_tmp (st := _) rfl (by conv => lhs; whnf) rfl ?_
          first | rfl | exact fT (by first | omega | grind) | exact fF (by first | omega | grind) | exact fT' (by first | omega | grind) | (exfalso; first | omega | grind)
        · replace hb20 := neT hb20
          refine ev_q rfl (q_pickF rfl (by conv => lhs; whnf) ?_)
          refine ev_nil (hK17 _ ?_); clear hK17
          refine good_condT rfl ?_
          refine good_seq fun K22 hK22 => ?_
          refine good_region rfl ?_
          refine ev_q rfl (q_assign (by conv => lhs; whnf) ?_)
          refine ev_nil (hK22 _ ?_); clear hK22
          refine good_ret ?_
          repeat (first | refine thenQ_ret ?_ | refine blockQ_ret ?_)
          refine ret_tmp (st := _) rfl (by conv => lhs; whnf) rfl ?_
          clear hK16
          first | rfl | exact fT (by first | omega | grind) | exact fF (by first | omega | grind) | exact fT' (by first | omega | grind) | (exfalso; first | omega | grind)
      · replace hb19 := neT hb19
        refine ev_q rfl (q_pickF rfl (by conv => lhs; whnf) ?_)
        refine ev_q rfl (q_move (by conv => lhs; whnf) ?_)
        refine ev_skip rfl ?_
        refine ev_skip rfl ?_
        refine ev_skip rfl ?_
        refine ev_q rfl (q_pickT rfl (by conv => lhs; whnf) ?_)
        refine ev_nil (hK17 _ ?_); clear hK17
        refine good_condT rfl ?_
        refine good_seq fun K23 hK23 => ?_
        refine good_region rfl ?_
        refine ev_q rfl (q_assign (by conv => lhs; whnf) ?_)
        refine ev_nil (hK23 _ ?_); clear hK23
        refine good_ret ?_
        repeat (first | refine thenQ_ret ?_ | refine blockQ_ret ?_)
        refine ret_tmp (st := _) rfl (by conv => lhs; whnf) rfl ?_
        clear hK16
        first | rfl | exact fT (by first | omega | grind) | exact fF (by first | omega | grind) | exact fT' (by first | omega | grind) | (exfalso; first | omega | grind)
    · replace hb18 := neT hb18
      refine ev_q rfl (q_move (by conv => lhs; whnf) ?_)
      refine ev_skip rfl ?_
      refine ev_skip rfl ?_
      refine ev_skip rfl ?_
      refine ev_q rfl (q_pickT rfl (by conv => lhs; whnf) ?_)
      refine ev_q rfl (q_move (by conv => lhs; whnf) ?_)
      refine ev_skip rfl ?_
      refine ev_skip rfl ?_
      refine ev_skip rfl ?_
      refine ev_q rfl (q_pickT rfl (by conv => lhs; whnf) ?_)
      refine ev_nil (hK17 _ ?_); clear hK17
      refine good_condT rfl ?_
      refine good_seq fun K24 hK24 => ?_
      refine good_region rfl ?_
      refine ev_q rfl (q_assign (by conv => lhs; whnf) ?_)
      refine ev_nil (hK24 _ ?_); clear hK24
      refine good_ret ?_
      repeat (first | refine thenQ_ret ?_ | refine blockQ_ret ?_)
      refine ret_tmp (st := _) rfl (by conv => lhs; whnf) rfl ?_
      clear hK16
      first | rfl | exact fT (by first | omega | grind) | exact fF (by first | omega | grind) | exact fT' (by first | omega | grind) | (exfalso; first | omega | grind)
  · replace hb7 := dT hb7
    refine ev_nil (hK6 _ ?_); clear hK6
    refine good_condT rfl ?_
    refine good_seq fun K25 hK25 => ?_
    refine good_region rfl ?_
    refine ev_q rfl (q_assign (by conv => lhs; whnf) ?_)
    refine ev_nil (hK25 _ ?_); clear hK25
    refine good_ret ?_
    repeat (first | refine thenQ_ret ?_ | refine blockQ_ret ?_)
    refine ret_tmp (st := _) rfl (by conv => lhs; whnf) rfl ?_
    clear hK5
    first | rfl | exact fT (by first | omega | grind) | exact fF (by first | omega | grind) | exact fT' (by first | omega | grind) | (exfalso; first | omega | grind)

end Go.Proofs.Ytjboimldlbapkaa.DFnExactBestThickness
