/- Walks through the functions that FnExactValidSubstations reaches: what each answers. -/
import Derived.Test.YthhajcpgbcpbmaaEvO
import Derived.Test.YthhajcpgbcpbmaaProg
set_option linter.unusedVariables false
set_option linter.unusedSimpArgs false
namespace Go.Proofs.Ythhajcpgbcpbmaa.DFnExactValidSubstations
open Go Go.RowKit Go.Proofs Go.Proofs.Ythhajcpgbcpbmaa Go.Proofs.Ythhajcpgbcpbmaa.Ev
def small (u : UInt8) : Bool := decide (97 ≤ u.toNat ∧ u.toNat ≤ 122)
def digit (u : UInt8) : Bool := decide (48 ≤ u.toNat ∧ u.toNat ≤ 57)
def nbc (u : UInt8) : Bool := small u || digit u
def allNb (s : ByteArray) : Bool := s.data.all nbc
def head1 (s : ByteArray) : Bool := match s[0]? with
  | some u => small u
  | none => false
def isName (s : ByteArray) : Bool := decide (1 ≤ s.size) && decide (s.size ≤ 10) && head1 s && allNb s
theorem getB {s : ByteArray} {i : Nat} (h : i < s.size) : ∃ u, s[i]? = some u := ⟨s[i], by simp [h]⟩
theorem allNb_T {s : ByteArray} (h : ∀ j u, j < s.size → s[j]? = some u → nbc u = true) : allNb s = true := by
  unfold allNb
  rw [Array.all_eq_true]
  intro i hi
  exact h i _ hi (getElem?_pos s i hi)
theorem allNb_F {s : ByteArray} {j : Nat} {u : UInt8} (h : s[j]? = some u) (hn : nbc u = false) : allNb s = false := by
  have hj : j < s.size := by
    apply Classical.byContradiction; intro hc
    rw [getElem?_neg s j hc] at h; cases h
  unfold allNb
  rw [Array.all_eq_false]
  refine ⟨j, hj, ?_⟩
  rw [getElem?_pos s j hj] at h
  cases h
  intro hc
  have hc2 : nbc s[j] = true := hc
  rw [hn] at hc2; cases hc2
theorem isName_long {s : ByteArray} (h : ¬ s.size ≤ 10) : isName s = false := by simp [isName, h]
theorem isName_none {s : ByteArray} (h : s.size = 0) : isName s = false := by simp [isName, h]
theorem isName_head {s : ByteArray} {u : UInt8} (h : s[0]? = some u) (hn : small u = false) : isName s = false := by simp [isName, head1, h, hn]
theorem isName_eq {s : ByteArray} {u : UInt8} (h1 : 1 ≤ s.size) (h2 : s.size ≤ 10) (h : s[0]? = some u) (hn : small u = true) : isName s = allNb s := by simp [isName, head1, h, hn, h1, h2]
theorem fB {b c : Bool} (h : b = c) : AV.s (.bool b) = .s (.bool c) := by rw [h]
def tot {α : Type} (f : α → Nat) (xs : List α) (i : Nat) : Nat := ((xs.take i).map f).sum
theorem tot_zero {α : Type} (f : α → Nat) (xs : List α) : tot f xs 0 = 0 := by simp [tot]
theorem tot_step {α : Type} {f : α → Nat} {xs : List α} {i : Nat} {p : α} (h : xs[i]? = some p) : tot f xs (i + 1) = tot f xs i + f p := by
  unfold tot
  rw [List.take_add_one, h]; simp
theorem tot_le {α : Type} {f : α → Nat} {xs : List α} {i : Nat} : tot f xs i ≤ tot f xs xs.length := by
  unfold tot
  rw [List.take_length]
  have e : (xs.map f).sum = ((xs.take i).map f).sum + ((xs.drop i).map f).sum := by rw [← List.sum_append, ← List.map_append, List.take_append_drop]
  omega
theorem tot_end {α : Type} {f : α → Nat} {xs : List α} {i : Nat} (h : xs.length ≤ i) : tot f xs i = tot f xs xs.length := by
  unfold tot; rw [List.take_of_length_le h, List.take_of_length_le (Nat.le_refl _)]
theorem bytesLess_tri : ∀ (x y : List UInt8), Op.bytesLess x y = false ↔ (Op.bytesLess y x = true ∨ y = x)
  | [], [] => by simp [Op.bytesLess]
  | [], _ :: _ => by simp [Op.bytesLess]
  | _ :: _, [] => by simp [Op.bytesLess]
  | a :: x, b :: y => by
    have ih := bytesLess_tri x y
    have e1 : (a = b) ↔ a.toNat = b.toNat := ⟨fun h => by rw [h], fun h => UInt8.toNat_inj.1 h⟩
    have e2 : a < b ↔ a.toNat < b.toNat := UInt8.lt_iff_toNat_lt
    have e3 : b < a ↔ b.toNat < a.toNat := UInt8.lt_iff_toNat_lt
    by_cases h : a = b
    · subst h; simp [Op.bytesLess, ih]
    · have l : Op.bytesLess (a :: x) (b :: y) = decide (a < b) := by simp [Op.bytesLess, h]
      have r : Op.bytesLess (b :: y) (a :: x) = decide (b < a) := by simp [Op.bytesLess, Ne.symm h]
      have hn : ¬ a.toNat = b.toNat := fun e => h (e1.2 e)
      have hc : ¬ (b :: y = a :: x) := fun e => h (List.cons.inj e).1.symm
      rw [l, r]
      simp only [decide_eq_false_iff_not, decide_eq_true_eq, e2, e3, hc, or_false]
      omega
def idLt (x y : ByteArray) : Prop := Op.bytesLess x.toList y.toList = true
structure Sb where
  id : ByteArray
  nd : Int
  tr : Int
  su : Int
  re : Int
def sbA (x : Sb) : AV := .agg [.s (.string x.id), .s (.int .i64 x.nd), .s (.int .i64 x.tr), .s (.int .i64 x.su), .s (.int .i64 x.re)]
def sbZ : AV := .agg [.s (.string ⟨#[]⟩), .s (.int .i64 0), .s (.int .i64 0), .s (.int .i64 0), .s (.int .i64 0)]
def sbOk (x : Sb) : Prop := isName x.id = true ∧ (0 ≤ x.nd ∧ x.nd ≤ 15) ∧ (1 ≤ x.tr ∧ x.tr ≤ 100000) ∧ (0 ≤ x.su ∧ x.su ≤ 18000) ∧ (0 ≤ x.re ∧ x.re ≤ x.su - 1)
def sbAt (xs : List Sb) (j : Nat) (x : Sb) : Prop := sbOk x ∧ ∀ y, 0 < j → xs[j - 1]? = some y → idLt y.id x.id
def subsOk (xs : List Sb) : Prop := xs.length ≤ 12 ∧ ∀ (j : Nat) (x : Sb), xs[j]? = some x → sbAt xs j x
noncomputable instance (xs : List Sb) : Decidable (subsOk xs) := Classical.propDecidable _
theorem subs_no {xs : List Sb} {i : Nat} {p : Sb} (h : xs[i]? = some p) (hn : ¬ sbAt xs i p) : ¬ subsOk xs := fun ⟨_, h2⟩ => hn (h2 i p h)
theorem all_extS {α : Type} {xs : List α} {i : Nat} {Q : Nat → α → Prop} {p : α} (hJ : ∀ j q, j < i → xs[j]? = some q → Q j q) (hp : xs[i]? = some p) (h : Q i p) : ∀ j q, j < i + 1 → xs[j]? = some q → Q j q := by
  intro j q hj hq
  by_cases e : j = i
  · subst e; rw [hp] at hq; cases hq; exact h
  · exact hJ j q (by omega) hq
theorem all_finS {α : Type} {xs : List α} {i : Nat} {Q : Nat → α → Prop} (hJ : ∀ j q, j < i → xs[j]? = some q → Q j q) (hi : xs.length ≤ i) : ∀ j q, xs[j]? = some q → Q j q := by
  intro j q hq
  exact hJ j q (by have := (List.getElem?_eq_some_iff.1 hq).1; omega) hq
theorem lt_ge {x y : ByteArray} (h : false = !Op.bytesLess x.toList y.toList) : idLt x y := by simpa [idLt] using h.symm
theorem nlt_ge {x y : ByteArray} (h : true = !Op.bytesLess x.toList y.toList) : ¬ idLt x y := by simp [idLt]; simpa using h.symm
theorem lt_le {x y : ByteArray} (h : false = (Op.bytesLess y.toList x.toList || y.toList == x.toList)) : idLt x y := by
  unfold idLt
  cases e : Op.bytesLess x.toList y.toList with
  | true => rfl
  | false =>
    have := (bytesLess_tri _ _).1 e
    rcases this with h1 | h1
    · rw [h1] at h; simp at h
    · rw [h1] at h; simp at h
theorem nlt_le {x y : ByteArray} (h : true = (Op.bytesLess y.toList x.toList || y.toList == x.toList)) : ¬ idLt x y := by
  unfold idLt
  intro e
  have : Op.bytesLess x.toList y.toList = false := (bytesLess_tri _ _).2 (by have h2 := h.symm; simp only [Bool.or_eq_true, beq_iff_eq] at h2; exact h2)
  rw [this] at e; cases e
theorem fO23_0 : fOff Try.prog 23 0 = some 0 := by kernel_rfl
theorem fO23_1 : fOff Try.prog 23 1 = some 1 := by kernel_rfl
theorem fO23_2 : fOff Try.prog 23 2 = some 2 := by kernel_rfl
theorem fO23_3 : fOff Try.prog 23 3 = some 3 := by kernel_rfl
theorem fO23_4 : fOff Try.prog 23 4 = some 4 := by kernel_rfl
theorem fO27_0 : fOff Try.prog 27 0 = some 0 := by kernel_rfl
theorem fO27_1 : fOff Try.prog 27 1 = some 1 := by kernel_rfl
theorem fO27_2 : fOff Try.prog 27 2 = some 2 := by kernel_rfl
theorem fO27_3 : fOff Try.prog 27 3 = some 3 := by kernel_rfl
theorem fO27_4 : fOff Try.prog 27 4 = some 4 := by kernel_rfl
theorem hmix : Try.prog.follows .mixedOrders = true := by kernel_rfl
theorem sz2 : tSz Try.prog 2 = some 1 := by kernel_rfl
theorem sz27 : tSz Try.prog 27 = some 5 := by kernel_rfl
theorem sz9 : tSz Try.prog 9 = some 1 := by kernel_rfl
theorem tA2 : tAgg Try.prog 2 = some none := by kernel_rfl
theorem tA23 : tAgg Try.prog 23 = some (some 5) := by kernel_rfl
theorem tA27 : tAgg Try.prog 27 = some (some 5) := by kernel_rfl
theorem tA9 : tAgg Try.prog 9 = some none := by kernel_rfl
theorem tB4 : tIsBool Try.prog 4 = true := by kernel_rfl
theorem tBy27 : tBytes Try.prog 27 = some 48 := by kernel_rfl
theorem tE30 : tElem Try.prog 30 = some (23, 5) := by kernel_rfl
theorem tE33 : tElem Try.prog 33 = some (27, 5) := by kernel_rfl
theorem tEs30 : (tElem Try.prog 30).isSome = true := by kernel_rfl
theorem tEs33 : (tElem Try.prog 33).isSome = true := by kernel_rfl
theorem tStr9 : tIsStr Try.prog 9 = true := by kernel_rfl
theorem zA27 : zeroA Try.prog 27 = some [.s (.string ⟨#[]⟩), .s (.int .i64 0), .s (.int .i64 0), .s (.int .i64 0), .s (.int .i64 0)] := by kernel_rfl

-- impl.within
set_option maxRecDepth 20000 in
set_option maxHeartbeats 8000000 in
theorem D_impl_within (a lo hi : Int)  : Den Try.prog 51 [.s (.int .i64 a), .s (.int .i64 lo), .s (.int .i64 hi)] (.s (.bool (decide (lo ≤ a ∧ a ≤ hi)))) := by
  refine den_of_good Try.func51 (by decide) rfl (Nat.le_of_ble_eq_true rfl) ?_
  refine good_seq fun K1 hK1 => ?_
  refine good_region rfl ?_
  refine ev_q rfl (q_assign (by conv => lhs; whnf) ?_)
  refine ev_nil (hK1 _ ?_); clear hK1
  refine good_seq fun K2 hK2 => ?_
  refine good_region rfl ?_
  refine ev_q rfl (q_move (by conv => lhs; whnf) ?_)
  refine ev_q rfl (q_move (by conv => lhs; whnf) ?_)
  refine ev_q rfl (q_int rfl rfl ?_)
  intro b3 hb3; cases b3
  · replace hb3 := dF hb3
    refine ev_q rfl (q_move (by conv => lhs; whnf) ?_)
    refine ev_skip rfl ?_
    refine ev_skip rfl ?_
    refine ev_skip rfl ?_
    refine ev_q rfl (q_pickF rfl (by conv => lhs; whnf) ?_)
    refine ev_q rfl (q_assign (by conv => lhs; whnf) ?_)
    refine ev_nil (hK2 _ ?_); clear hK2
    refine good_ret ?_
    repeat (first | refine thenQ_ret ?_ | refine blockQ_ret ?_)
    refine ret_tmp (st := _) rfl (by conv => lhs; whnf) rfl ?_
    first | rfl | exact fT (by first | omega | grind) | exact fF (by first | omega | grind) | exact fT' (by first | omega | grind) | (exfalso; first | omega | grind)
  · replace hb3 := dT hb3
    refine ev_q rfl (q_move (by conv => lhs; whnf) ?_)
    refine ev_q rfl (q_move (by conv => lhs; whnf) ?_)
    refine ev_q rfl (q_move (by conv => lhs; whnf) ?_)
    refine ev_q rfl (q_int rfl rfl ?_)
    intro b4 hb4; cases b4
    · replace hb4 := dF hb4
      refine ev_q rfl (q_pickT rfl (by conv => lhs; whnf) ?_)
      refine ev_q rfl (q_assign (by conv => lhs; whnf) ?_)
      refine ev_nil (hK2 _ ?_); clear hK2
      refine good_ret ?_
      repeat (first | refine thenQ_ret ?_ | refine blockQ_ret ?_)
      refine ret_tmp (st := _) rfl (by conv => lhs; whnf) rfl ?_
      first | rfl | exact fT (by first | omega | grind) | exact fF (by first | omega | grind) | exact fT' (by first | omega | grind) | (exfalso; first | omega | grind)
    · replace hb4 := dT hb4
      refine ev_q rfl (q_pickT rfl (by conv => lhs; whnf) ?_)
      refine ev_q rfl (q_assign (by conv => lhs; whnf) ?_)
      refine ev_nil (hK2 _ ?_); clear hK2
      refine good_ret ?_
      repeat (first | refine thenQ_ret ?_ | refine blockQ_ret ?_)
      refine ret_tmp (st := _) rfl (by conv => lhs; whnf) rfl ?_
      first | rfl | exact fT (by first | omega | grind) | exact fF (by first | omega | grind) | exact fT' (by first | omega | grind) | (exfalso; first | omega | grind)

-- spec.l00In
set_option maxRecDepth 20000 in
set_option maxHeartbeats 8000000 in
theorem D_spec_l00In (a lo hi : Int)  : Den Try.prog 47 [.s (.int .i64 a), .s (.int .i64 lo), .s (.int .i64 hi)] (.s (.bool (decide (lo ≤ a ∧ a ≤ hi)))) := by
  refine den_of_good Try.func47 (by decide) rfl (Nat.le_of_ble_eq_true rfl) ?_
  refine good_seq fun K1 hK1 => ?_
  refine good_region rfl ?_
  refine ev_q rfl (q_assign (by conv => lhs; whnf) ?_)
  refine ev_nil (hK1 _ ?_); clear hK1
  refine good_seq fun K2 hK2 => ?_
  refine good_region rfl ?_
  refine ev_q rfl (q_move (by conv => lhs; whnf) ?_)
  refine ev_q rfl (q_move (by conv => lhs; whnf) ?_)
  refine ev_q rfl (q_int rfl rfl ?_)
  intro b3 hb3; cases b3
  · replace hb3 := dF hb3
    refine ev_q rfl (q_move (by conv => lhs; whnf) ?_)
    refine ev_skip rfl ?_
    refine ev_skip rfl ?_
    refine ev_skip rfl ?_
    refine ev_q rfl (q_pickF rfl (by conv => lhs; whnf) ?_)
    refine ev_q rfl (q_assign (by conv => lhs; whnf) ?_)
    refine ev_nil (hK2 _ ?_); clear hK2
    refine good_ret ?_
    repeat (first | refine thenQ_ret ?_ | refine blockQ_ret ?_)
    refine ret_tmp (st := _) rfl (by conv => lhs; whnf) rfl ?_
    first | rfl | exact fT (by first | omega | grind) | exact fF (by first | omega | grind) | exact fT' (by first | omega | grind) | (exfalso; first | omega | grind)
  · replace hb3 := dT hb3
    refine ev_q rfl (q_move (by conv => lhs; whnf) ?_)
    refine ev_q rfl (q_move (by conv => lhs; whnf) ?_)
    refine ev_q rfl (q_move (by conv => lhs; whnf) ?_)
    refine ev_q rfl (q_int rfl rfl ?_)
    intro b4 hb4; cases b4
    · replace hb4 := dF hb4
      refine ev_q rfl (q_pickT rfl (by conv => lhs; whnf) ?_)
      refine ev_q rfl (q_assign (by conv => lhs; whnf) ?_)
      refine ev_nil (hK2 _ ?_); clear hK2
      refine good_ret ?_
      repeat (first | refine thenQ_ret ?_ | refine blockQ_ret ?_)
      refine ret_tmp (st := _) rfl (by conv => lhs; whnf) rfl ?_
      first | rfl | exact fT (by first | omega | grind) | exact fF (by first | omega | grind) | exact fT' (by first | omega | grind) | (exfalso; first | omega | grind)
    · replace hb4 := dT hb4
      refine ev_q rfl (q_pickT rfl (by conv => lhs; whnf) ?_)
      refine ev_q rfl (q_assign (by conv => lhs; whnf) ?_)
      refine ev_nil (hK2 _ ?_); clear hK2
      refine good_ret ?_
      repeat (first | refine thenQ_ret ?_ | refine blockQ_ret ?_)
      refine ret_tmp (st := _) rfl (by conv => lhs; whnf) rfl ?_
      first | rfl | exact fT (by first | omega | grind) | exact fF (by first | omega | grind) | exact fT' (by first | omega | grind) | (exfalso; first | omega | grind)

-- spec.l01Small
set_option maxRecDepth 20000 in
set_option maxHeartbeats 8000000 in
theorem D_spec_l01Small (u : UInt8)  : Den Try.prog 95 [.s (.int .u8 u.toNat)] (.s (.bool (small u))) := by
  refine den_of_good Try.func95 (by decide) rfl (Nat.le_of_ble_eq_true rfl) ?_
  refine good_seq fun K1 hK1 => ?_
  refine good_region rfl ?_
  refine ev_q rfl (q_assign (by conv => lhs; whnf) ?_)
  refine ev_nil (hK1 _ ?_); clear hK1
  refine good_seq fun K2 hK2 => ?_
  refine good_region rfl ?_
  refine ev_q rfl (q_move (by conv => lhs; whnf) ?_)
  refine ev_q rfl (q_int rfl rfl ?_)
  intro b3 hb3; cases b3
  · replace hb3 := dF hb3
    refine ev_q rfl (q_move (by conv => lhs; whnf) ?_)
    refine ev_skip rfl ?_
    refine ev_skip rfl ?_
    refine ev_q rfl (q_pickF rfl (by conv => lhs; whnf) ?_)
    refine ev_q rfl (q_assign (by conv => lhs; whnf) ?_)
    refine ev_nil (hK2 _ ?_); clear hK2
    refine good_ret ?_
    repeat (first | refine thenQ_ret ?_ | refine blockQ_ret ?_)
    refine ret_tmp (st := _) rfl (by conv => lhs; whnf) rfl ?_
    exact fB (by simp only [small]; grind)
  · replace hb3 := dT hb3
    refine ev_q rfl (q_move (by conv => lhs; whnf) ?_)
    refine ev_q rfl (q_move (by conv => lhs; whnf) ?_)
    refine ev_q rfl (q_int rfl rfl ?_)
    intro b4 hb4; cases b4
    · replace hb4 := dF hb4
      refine ev_q rfl (q_pickT rfl (by conv => lhs; whnf) ?_)
      refine ev_q rfl (q_assign (by conv => lhs; whnf) ?_)
      refine ev_nil (hK2 _ ?_); clear hK2
      refine good_ret ?_
      repeat (first | refine thenQ_ret ?_ | refine blockQ_ret ?_)
      refine ret_tmp (st := _) rfl (by conv => lhs; whnf) rfl ?_
      exact fB (by simp only [small]; grind)
    · replace hb4 := dT hb4
      refine ev_q rfl (q_pickT rfl (by conv => lhs; whnf) ?_)
      refine ev_q rfl (q_assign (by conv => lhs; whnf) ?_)
      refine ev_nil (hK2 _ ?_); clear hK2
      refine good_ret ?_
      repeat (first | refine thenQ_ret ?_ | refine blockQ_ret ?_)
      refine ret_tmp (st := _) rfl (by conv => lhs; whnf) rfl ?_
      exact fB (by simp only [small]; grind)

-- spec.l01Digit
set_option maxRecDepth 20000 in
set_option maxHeartbeats 8000000 in
theorem D_spec_l01Digit (u : UInt8)  : Den Try.prog 96 [.s (.int .u8 u.toNat)] (.s (.bool (digit u))) := by
  refine den_of_good Try.func96 (by decide) rfl (Nat.le_of_ble_eq_true rfl) ?_
  refine good_seq fun K1 hK1 => ?_
  refine good_region rfl ?_
  refine ev_q rfl (q_assign (by conv => lhs; whnf) ?_)
  refine ev_nil (hK1 _ ?_); clear hK1
  refine good_seq fun K2 hK2 => ?_
  refine good_region rfl ?_
  refine ev_q rfl (q_move (by conv => lhs; whnf) ?_)
  refine ev_q rfl (q_int rfl rfl ?_)
  intro b3 hb3; cases b3
  · replace hb3 := dF hb3
    refine ev_q rfl (q_move (by conv => lhs; whnf) ?_)
    refine ev_skip rfl ?_
    refine ev_skip rfl ?_
    refine ev_q rfl (q_pickF rfl (by conv => lhs; whnf) ?_)
    refine ev_q rfl (q_assign (by conv => lhs; whnf) ?_)
    refine ev_nil (hK2 _ ?_); clear hK2
    refine good_ret ?_
    repeat (first | refine thenQ_ret ?_ | refine blockQ_ret ?_)
    refine ret_tmp (st := _) rfl (by conv => lhs; whnf) rfl ?_
    exact fB (by simp only [digit]; grind)
  · replace hb3 := dT hb3
    refine ev_q rfl (q_move (by conv => lhs; whnf) ?_)
    refine ev_q rfl (q_move (by conv => lhs; whnf) ?_)
    refine ev_q rfl (q_int rfl rfl ?_)
    intro b4 hb4; cases b4
    · replace hb4 := dF hb4
      refine ev_q rfl (q_pickT rfl (by conv => lhs; whnf) ?_)
      refine ev_q rfl (q_assign (by conv => lhs; whnf) ?_)
      refine ev_nil (hK2 _ ?_); clear hK2
      refine good_ret ?_
      repeat (first | refine thenQ_ret ?_ | refine blockQ_ret ?_)
      refine ret_tmp (st := _) rfl (by conv => lhs; whnf) rfl ?_
      exact fB (by simp only [digit]; grind)
    · replace hb4 := dT hb4
      refine ev_q rfl (q_pickT rfl (by conv => lhs; whnf) ?_)
      refine ev_q rfl (q_assign (by conv => lhs; whnf) ?_)
      refine ev_nil (hK2 _ ?_); clear hK2
      refine good_ret ?_
      repeat (first | refine thenQ_ret ?_ | refine blockQ_ret ?_)
      refine ret_tmp (st := _) rfl (by conv => lhs; whnf) rfl ?_
      exact fB (by simp only [digit]; grind)

-- impl.onlyNameBytes
set_option maxRecDepth 20000 in
set_option maxHeartbeats 8000000 in
theorem D_impl_onlyNameBytes (s : ByteArray) (hs : s.size ≤ 140737488351232) : Den Try.prog 97 [.s (.string s)] (.s (.bool (allNb s))) := by
  refine den_of_good Try.func97 (by decide) rfl (Nat.le_of_ble_eq_true rfl) ?_
  refine good_seq fun K1 hK1 => ?_
  refine good_region rfl ?_
  refine ev_q rfl (q_assign (by conv => lhs; whnf) ?_)
  refine ev_nil (hK1 _ ?_); clear hK1
  refine good_seq fun K2 hK2 => ?_
  refine good_seq fun K3 hK3 => ?_
  refine good_region rfl ?_
  refine ev_q rfl (q_move (by conv => lhs; whnf) ?_)
  refine ev_q rfl (q_lenS tStr9 rfl ?_)
  intro n4 hn4
  refine ev_q rfl (q_move (by conv => lhs; whnf) ?_)
  refine ev_nil (hK3 _ ?_); clear hK3
  refine good_block ?_
  refine good_loop (α := Nat) (fun i => { env := upd (upd (upd ((fun _ => .junk)) 0 (.s (.string s))) 6 (.s (.int .i64 (s.size)))) 7 (.s (.int .i64 i)), H := fun _ => none }) (fun i => i ≤ s.size ∧ ∀ j u, j < i → s[j]? = some u → nbc u = true) (fun i => s.size - i) 0 ?_ ?_ ?_
  · exact ⟨by omega, fun j u hj => by omega⟩
  · refine sub_weak ?_ ?_
    · exact weakH_none _
    · refine weakE_upd ?e7 ?r7 (weakE_upd ?e6 ?r6 (weakE_upd ?e0 ?r0 (weakE_junk _ _)))
      case e0 => first | rfl | exact fI (by omega) | (simp_all)
      case r0 => intro h hh; cases hh
      case e6 => first | rfl | exact fI (by omega) | (simp_all)
      case r6 => intro h hh; cases hh
      case e7 => first | rfl | exact fI (by omega) | (simp_all)
      case r7 => intro h hh; cases hh
  · rintro i ⟨hI, hJ⟩
    refine good_seq fun K5 hK5 => ?_
    refine good_region rfl ?_
    refine ev_q rfl (q_int rfl rfl ?_)
    intro b6 hb6; cases b6
    · replace hb6 := dF hb6
      refine ev_nil (hK5 _ ?_); clear hK5
      refine good_seq fun K7 hK7 => ?_
      refine good_condF rfl ?_
      refine good_exit ?_
      repeat (first | refine thenQ_exit ?_ | refine blockQ_pass rfl ?_)
      refine blockQ_exit (hK2 _ ?_); clear hK2
      refine good_seq fun K8 hK8 => ?_
      refine good_region rfl ?_
      refine ev_q rfl (q_assign (by conv => lhs; whnf) ?_)
      refine ev_nil (hK8 _ ?_); clear hK8
      refine good_ret ?_
      repeat (first | refine thenQ_ret ?_ | refine blockQ_ret ?_)
      refine ret_tmp (st := _) rfl (by conv => lhs; whnf) rfl ?_
      clear hK7
      first | exact fB (allNb_T (fun j u hj => hJ j u (by omega))).symm | exact fB (allNb_F hu (by simp only [nbc, small, digit]; grind)).symm
    · replace hb6 := dT hb6
      obtain ⟨u, hu⟩ := getB (s := s) (i := i) (by omega)
      refine ev_nil (hK5 _ ?_); clear hK5
      refine good_seq fun K9 hK9 => ?_
      refine good_condT rfl ?_
      refine good_skip (hK9 _ ?_); clear hK9
      refine good_seq fun K10 hK10 => ?_
      refine good_block ?_
      refine good_seq fun K11 hK11 => ?_
      refine good_region rfl ?_
      refine ev_q rfl (q_move (by conv => lhs; whnf) ?_)
      refine ev_q rfl (q_assign (by conv => lhs; whnf) ?_)
      refine ev_nil (hK11 _ ?_); clear hK11
      refine good_seq fun K12 hK12 => ?_
      refine good_region rfl ?_
      refine ev_q rfl (q_move (by conv => lhs; whnf) ?_)
      refine ev_q rfl (q_move (by conv => lhs; whnf) ?_)
      refine ev_q rfl (q_indexS tStr9 rfl rfl (by exact Int.natCast_nonneg _) (by exact hu) ?_)
      intro n13 hn13
      refine ev_q rfl (q_assign (by conv => lhs; whnf) ?_)
      refine ev_nil (hK12 _ ?_); clear hK12
      refine good_seq fun K14 hK14 => ?_
      refine good_region rfl ?_
      refine ev_q rfl (q_move (by conv => lhs; whnf) ?_)
      refine ev_q rfl (q_int rfl rfl ?_)
      intro b15 hb15; cases b15
      · replace hb15 := dF hb15
        refine ev_q rfl (q_move (by conv => lhs; whnf) ?_)
        refine ev_q rfl (q_move (by conv => lhs; whnf) ?_)
        refine ev_q rfl (q_int rfl rfl ?_)
        intro b16 hb16; cases b16
        · replace hb16 := dF hb16
          refine ev_q rfl (q_pickF rfl (by conv => lhs; whnf) ?_)
          refine ev_q rfl (q_move (by conv => lhs; whnf) ?_)
          refine ev_skip rfl ?_
          refine ev_skip rfl ?_
          refine ev_skip rfl ?_
          refine ev_skip rfl ?_
          refine ev_skip rfl ?_
          refine ev_skip rfl ?_
          refine ev_q rfl (q_pickF rfl (by conv => lhs; whnf) ?_)
          refine ev_nil (hK14 _ ?_); clear hK14
          refine good_condF rfl ?_
          refine good_skip (hK10 _ ?_); clear hK10
          refine good_region rfl ?_
          refine ev_q rfl (q_int rfl rfl ?_)
          intro n17 hn17
          replace hn17 := in64 hn17 (by omega) (by omega)
          refine ev_q rfl (q_move (by conv => lhs; whnf) ?_)
          refine ev_nil ?_
          clear hK2
          refine ⟨i + 1, ?_, ?_, ?_⟩
          · refine ⟨by omega, fun j v hj hv => ?_⟩
            by_cases hji : j = i
            · subst hji; rw [hu] at hv; cases hv; simp only [nbc, small, digit] at *; grind
            · exact hJ j v (by omega) hv
          · first | omega | (simp only []; omega) | (dsimp only; omega)
          · refine sub_weak ?_ ?_
            · exact weakH_none _
            · refine weakE_upd ?e7 ?r7 (weakE_upd ?e6 ?r6 (weakE_upd ?e0 ?r0 (weakE_junk _ _)))
              case e0 => first | rfl | exact fI (by omega) | (simp_all)
              case r0 => intro h hh; cases hh
              case e6 => first | rfl | exact fI (by omega) | (simp_all)
              case r6 => intro h hh; cases hh
              case e7 => first | rfl | exact fI (by omega) | (simp_all)
              case r7 => intro h hh; cases hh
        · replace hb16 := dT hb16
          refine ev_q rfl (q_pickF rfl (by conv => lhs; whnf) ?_)
          refine ev_q rfl (q_move (by conv => lhs; whnf) ?_)
          refine ev_q rfl (q_move (by conv => lhs; whnf) ?_)
          refine ev_q rfl (q_int rfl rfl ?_)
          intro b18 hb18; cases b18
          · replace hb18 := dF hb18
            refine ev_q rfl (q_move (by conv => lhs; whnf) ?_)
            refine ev_q rfl (q_move (by conv => lhs; whnf) ?_)
            refine ev_q rfl (q_int rfl rfl ?_)
            intro b19 hb19; cases b19
            · replace hb19 := dF hb19
              refine ev_q rfl (q_pickF rfl (by conv => lhs; whnf) ?_)
              refine ev_q rfl (q_pickT rfl (by conv => lhs; whnf) ?_)
              refine ev_nil (hK14 _ ?_); clear hK14
              refine good_condF rfl ?_
              refine good_skip (hK10 _ ?_); clear hK10
              refine good_region rfl ?_
              refine ev_q rfl (q_int rfl rfl ?_)
              intro n20 hn20
              replace hn20 := in64 hn20 (by omega) (by omega)
              refine ev_q rfl (q_move (by conv => lhs; whnf) ?_)
              refine ev_nil ?_
              clear hK2
              refine ⟨i + 1, ?_, ?_, ?_⟩
              · refine ⟨by omega, fun j v hj hv => ?_⟩
                by_cases hji : j = i
                · subst hji; rw [hu] at hv; cases hv; simp only [nbc, small, digit] at *; grind
                · exact hJ j v (by omega) hv
              · first | omega | (simp only []; omega) | (dsimp only; omega)
              · refine sub_weak ?_ ?_
                · exact weakH_none _
                · refine weakE_upd ?e7 ?r7 (weakE_upd ?e6 ?r6 (weakE_upd ?e0 ?r0 (weakE_junk _ _)))
                  case e0 => first | rfl | exact fI (by omega) | (simp_all)
                  case r0 => intro h hh; cases hh
                  case e6 => first | rfl | exact fI (by omega) | (simp_all)
                  case r6 => intro h hh; cases hh
                  case e7 => first | rfl | exact fI (by omega) | (simp_all)
                  case r7 => intro h hh; cases hh
            · replace hb19 := dT hb19
              refine ev_q rfl (q_pickF rfl (by conv => lhs; whnf) ?_)
              refine ev_q rfl (q_pickT rfl (by conv => lhs; whnf) ?_)
              refine ev_nil (hK14 _ ?_); clear hK14
              refine good_condT rfl ?_
              refine good_seq fun K21 hK21 => ?_
              refine good_region rfl ?_
              refine ev_q rfl (q_assign (by conv => lhs; whnf) ?_)
              refine ev_nil (hK21 _ ?_); clear hK21
              refine good_ret ?_
              repeat (first | refine thenQ_ret ?_ | refine blockQ_ret ?_)
              refine ret_tmp (st := _) rfl (by conv => lhs; whnf) rfl ?_
              clear hK2 hK10
              first | exact fB (allNb_T (fun j u hj => hJ j u (by omega))).symm | exact fB (allNb_F hu (by simp only [nbc, small, digit]; grind)).symm
          · replace hb18 := dT hb18
            refine ev_q rfl (q_move (by conv => lhs; whnf) ?_)
            refine ev_skip rfl ?_
            refine ev_skip rfl ?_
            refine ev_q rfl (q_pickT rfl (by conv => lhs; whnf) ?_)
            refine ev_q rfl (q_pickT rfl (by conv => lhs; whnf) ?_)
            refine ev_nil (hK14 _ ?_); clear hK14
            refine good_condT rfl ?_
            refine good_seq fun K22 hK22 => ?_
            refine good_region rfl ?_
            refine ev_q rfl (q_assign (by conv => lhs; whnf) ?_)
            refine ev_nil (hK22 _ ?_); clear hK22
            refine good_ret ?_
            repeat (first | refine thenQ_ret ?_ | refine blockQ_ret ?_)
            refine ret_tmp (st := _) rfl (by conv => lhs; whnf) rfl ?_
            clear hK2 hK10
            first | exact fB (allNb_T (fun j u hj => hJ j u (by omega))).symm | exact fB (allNb_F hu (by simp only [nbc, small, digit]; grind)).symm
      · replace hb15 := dT hb15
        refine ev_q rfl (q_move (by conv => lhs; whnf) ?_)
        refine ev_skip rfl ?_
        refine ev_skip rfl ?_
        refine ev_q rfl (q_pickT rfl (by conv => lhs; whnf) ?_)
        refine ev_q rfl (q_move (by conv => lhs; whnf) ?_)
        refine ev_q rfl (q_move (by conv => lhs; whnf) ?_)
        refine ev_q rfl (q_int rfl rfl ?_)
        intro b23 hb23; cases b23
        · replace hb23 := dF hb23
          refine ev_q rfl (q_move (by conv => lhs; whnf) ?_)
          refine ev_q rfl (q_move (by conv => lhs; whnf) ?_)
          refine ev_q rfl (q_int rfl rfl ?_)
          intro b24 hb24; cases b24
          · replace hb24 := dF hb24
            refine ev_q rfl (q_pickF rfl (by conv => lhs; whnf) ?_)
            refine ev_q rfl (q_pickT rfl (by conv => lhs; whnf) ?_)
            refine ev_nil (hK14 _ ?_); clear hK14
            refine good_condF rfl ?_
            refine good_skip (hK10 _ ?_); clear hK10
            refine good_region rfl ?_
            refine ev_q rfl (q_int rfl rfl ?_)
            intro n25 hn25
            replace hn25 := in64 hn25 (by omega) (by omega)
            refine ev_q rfl (q_move (by conv => lhs; whnf) ?_)
            refine ev_nil ?_
            clear hK2
            refine ⟨i + 1, ?_, ?_, ?_⟩
            · refine ⟨by omega, fun j v hj hv => ?_⟩
              by_cases hji : j = i
              · subst hji; rw [hu] at hv; cases hv; simp only [nbc, small, digit] at *; grind
              · exact hJ j v (by omega) hv
            · first | omega | (simp only []; omega) | (dsimp only; omega)
            · refine sub_weak ?_ ?_
              · exact weakH_none _
              · refine weakE_upd ?e7 ?r7 (weakE_upd ?e6 ?r6 (weakE_upd ?e0 ?r0 (weakE_junk _ _)))
                case e0 => first | rfl | exact fI (by omega) | (simp_all)
                case r0 => intro h hh; cases hh
                case e6 => first | rfl | exact fI (by omega) | (simp_all)
                case r6 => intro h hh; cases hh
                case e7 => first | rfl | exact fI (by omega) | (simp_all)
                case r7 => intro h hh; cases hh
          · replace hb24 := dT hb24
            refine ev_q rfl (q_pickF rfl (by conv => lhs; whnf) ?_)
            refine ev_q rfl (q_pickT rfl (by conv => lhs; whnf) ?_)
            refine ev_nil (hK14 _ ?_); clear hK14
            refine good_condT rfl ?_
            refine good_seq fun K26 hK26 => ?_
            refine good_region rfl ?_
            refine ev_q rfl (q_assign (by conv => lhs; whnf) ?_)
            refine ev_nil (hK26 _ ?_); clear hK26
            refine good_ret ?_
            repeat (first | refine thenQ_ret ?_ | refine blockQ_ret ?_)
            refine ret_tmp (st := _) rfl (by conv => lhs; whnf) rfl ?_
            clear hK2 hK10
            first | exact fB (allNb_T (fun j u hj => hJ j u (by omega))).symm | exact fB (allNb_F hu (by simp only [nbc, small, digit]; grind)).symm
        · replace hb23 := dT hb23
          refine ev_q rfl (q_move (by conv => lhs; whnf) ?_)
          refine ev_skip rfl ?_
          refine ev_skip rfl ?_
          refine ev_q rfl (q_pickT rfl (by conv => lhs; whnf) ?_)
          refine ev_q rfl (q_pickT rfl (by conv => lhs; whnf) ?_)
          refine ev_nil (hK14 _ ?_); clear hK14
          refine good_condT rfl ?_
          refine good_seq fun K27 hK27 => ?_
          refine good_region rfl ?_
          refine ev_q rfl (q_assign (by conv => lhs; whnf) ?_)
          refine ev_nil (hK27 _ ?_); clear hK27
          refine good_ret ?_
          repeat (first | refine thenQ_ret ?_ | refine blockQ_ret ?_)
          refine ret_tmp (st := _) rfl (by conv => lhs; whnf) rfl ?_
          clear hK2 hK10
          first | exact fB (allNb_T (fun j u hj => hJ j u (by omega))).symm | exact fB (allNb_F hu (by simp only [nbc, small, digit]; grind)).symm

-- impl.IsName
set_option maxRecDepth 20000 in
set_option maxHeartbeats 8000000 in
theorem D_impl_IsName (s : ByteArray) (hs : s.size ≤ 140737488351232) : Den Try.prog 80 [.s (.string s)] (.s (.bool (isName s))) := by
  refine den_of_good Try.func80 (by decide) rfl (Nat.le_of_ble_eq_true rfl) ?_
  refine good_seq fun K1 hK1 => ?_
  refine good_region rfl ?_
  refine ev_q rfl (q_assign (by conv => lhs; whnf) ?_)
  refine ev_nil (hK1 _ ?_); clear hK1
  refine good_seq fun K2 hK2 => ?_
  refine good_seq fun K3 hK3 => ?_
  refine good_region rfl ?_
  refine ev_q rfl (q_move (by conv => lhs; whnf) ?_)
  refine ev_q rfl (q_lenS tStr9 rfl ?_)
  intro n4 hn4
  refine ev_q rfl (q_int rfl rfl ?_)
  intro b5 hb5; cases b5
  · replace hb5 := dF hb5
    refine ev_q rfl (q_move (by conv => lhs; whnf) ?_)
    refine ev_q rfl (q_move (by conv => lhs; whnf) ?_)
    refine ev_q rfl (q_lenS tStr9 rfl ?_)
    intro n6 hn6
    refine ev_q rfl (q_int rfl rfl ?_)
    intro b7 hb7; cases b7
    · replace hb7 := dF hb7
      obtain ⟨u, hu⟩ := getB (s := s) (i := 0) (by omega)
      refine ev_q rfl (q_pickF rfl (by conv => lhs; whnf) ?_)
      refine ev_q rfl (q_move (by conv => lhs; whnf) ?_)
      refine ev_q rfl (q_move (by conv => lhs; whnf) ?_)
      refine ev_q rfl (q_indexS tStr9 rfl rfl (by decide) (by exact hu) ?_)
      intro n8 hn8
      refine ev_q rfl (q_int rfl rfl ?_)
      intro b9 hb9; cases b9
      · replace hb9 := dF hb9
        refine ev_q rfl (q_pickF rfl (by conv => lhs; whnf) ?_)
        refine ev_q rfl (q_move (by conv => lhs; whnf) ?_)
        refine ev_q rfl (q_move (by conv => lhs; whnf) ?_)
        refine ev_q rfl (q_indexS tStr9 rfl rfl (by decide) (by exact hu) ?_)
        intro n10 hn10
        refine ev_q rfl (q_int rfl rfl ?_)
        intro b11 hb11; cases b11
        · replace hb11 := dF hb11
          refine ev_q rfl (q_pickF rfl (by conv => lhs; whnf) ?_)
          refine ev_nil (hK3 _ ?_); clear hK3
          refine good_condF rfl ?_
          refine good_skip (hK2 _ ?_); clear hK2
          refine good_seq fun K12 hK12 => ?_
          refine good_region rfl ?_
          refine ev_q rfl (q_move (by conv => lhs; whnf) ?_)
          refine ev_q rfl (q_callB rfl rfl rfl (D_impl_onlyNameBytes _ hs) ?_)
          intro b13 hb13; cases b13
          · first | replace hb13 := dF hb13 | skip
            refine ev_q rfl (q_assign (by conv => lhs; whnf) ?_)
            refine ev_nil (hK12 _ ?_); clear hK12
            refine good_ret ?_
            repeat (first | refine thenQ_ret ?_ | refine blockQ_ret ?_)
            refine ret_tmp (st := _) rfl (by conv => lhs; whnf) rfl ?_
            first | exact fB (isName_none (by omega)).symm | exact fB (isName_long (by omega)).symm | exact fB (isName_head hu (by simp only [small]; grind)).symm | (exact fB (by rw [isName_eq (by omega) (by omega) hu (by simp only [small]; grind)]; grind))
          · first | replace hb13 := dT hb13 | skip
            refine ev_q rfl (q_assign (by conv => lhs; whnf) ?_)
            refine ev_nil (hK12 _ ?_); clear hK12
            refine good_ret ?_
            repeat (first | refine thenQ_ret ?_ | refine blockQ_ret ?_)
            refine ret_tmp (st := _) rfl (by conv => lhs; whnf) rfl ?_
            first | exact fB (isName_none (by omega)).symm | exact fB (isName_long (by omega)).symm | exact fB (isName_head hu (by simp only [small]; grind)).symm | (exact fB (by rw [isName_eq (by omega) (by omega) hu (by simp only [small]; grind)]; grind))
        · replace hb11 := dT hb11
          refine ev_q rfl (q_pickF rfl (by conv => lhs; whnf) ?_)
          refine ev_nil (hK3 _ ?_); clear hK3
          refine good_condT rfl ?_
          refine good_seq fun K14 hK14 => ?_
          refine good_region rfl ?_
          refine ev_q rfl (q_assign (by conv => lhs; whnf) ?_)
          refine ev_nil (hK14 _ ?_); clear hK14
          refine good_ret ?_
          repeat (first | refine thenQ_ret ?_ | refine blockQ_ret ?_)
          refine ret_tmp (st := _) rfl (by conv => lhs; whnf) rfl ?_
          clear hK2
          first | exact fB (isName_none (by omega)).symm | exact fB (isName_long (by omega)).symm | exact fB (isName_head hu (by simp only [small]; grind)).symm | (exact fB (by rw [isName_eq (by omega) (by omega) hu (by simp only [small]; grind)]; grind))
      · replace hb9 := dT hb9
        refine ev_q rfl (q_pickF rfl (by conv => lhs; whnf) ?_)
        refine ev_q rfl (q_move (by conv => lhs; whnf) ?_)
        refine ev_skip rfl ?_
        refine ev_skip rfl ?_
        refine ev_skip rfl ?_
        refine ev_q rfl (q_pickT rfl (by conv => lhs; whnf) ?_)
        refine ev_nil (hK3 _ ?_); clear hK3
        refine good_condT rfl ?_
        refine good_seq fun K15 hK15 => ?_
        refine good_region rfl ?_
        refine ev_q rfl (q_assign (by conv => lhs; whnf) ?_)
        refine ev_nil (hK15 _ ?_); clear hK15
        refine good_ret ?_
        repeat (first | refine thenQ_ret ?_ | refine blockQ_ret ?_)
        refine ret_tmp (st := _) rfl (by conv => lhs; whnf) rfl ?_
        clear hK2
        first | exact fB (isName_none (by omega)).symm | exact fB (isName_long (by omega)).symm | exact fB (isName_head hu (by simp only [small]; grind)).symm | (exact fB (by rw [isName_eq (by omega) (by omega) hu (by simp only [small]; grind)]; grind))
    · replace hb7 := dT hb7
      refine ev_q rfl (q_pickF rfl (by conv => lhs; whnf) ?_)
      refine ev_q rfl (q_move (by conv => lhs; whnf) ?_)
      refine ev_skip rfl ?_
      refine ev_skip rfl ?_
      refine ev_skip rfl ?_
      refine ev_q rfl (q_pickT rfl (by conv => lhs; whnf) ?_)
      refine ev_q rfl (q_move (by conv => lhs; whnf) ?_)
      refine ev_skip rfl ?_
      refine ev_skip rfl ?_
      refine ev_skip rfl ?_
      refine ev_q rfl (q_pickT rfl (by conv => lhs; whnf) ?_)
      refine ev_nil (hK3 _ ?_); clear hK3
      refine good_condT rfl ?_
      refine good_seq fun K16 hK16 => ?_
      refine good_region rfl ?_
      refine ev_q rfl (q_assign (by conv => lhs; whnf) ?_)
      refine ev_nil (hK16 _ ?_); clear hK16
      refine good_ret ?_
      repeat (first | refine thenQ_ret ?_ | refine blockQ_ret ?_)
      refine ret_tmp (st := _) rfl (by conv => lhs; whnf) rfl ?_
      clear hK2
      first | exact fB (isName_none (by omega)).symm | exact fB (isName_long (by omega)).symm | exact fB (isName_head hu (by simp only [small]; grind)).symm | (exact fB (by rw [isName_eq (by omega) (by omega) hu (by simp only [small]; grind)]; grind))
  · replace hb5 := dT hb5
    refine ev_q rfl (q_move (by conv => lhs; whnf) ?_)
    refine ev_skip rfl ?_
    refine ev_skip rfl ?_
    refine ev_skip rfl ?_
    refine ev_q rfl (q_pickT rfl (by conv => lhs; whnf) ?_)
    refine ev_q rfl (q_move (by conv => lhs; whnf) ?_)
    refine ev_skip rfl ?_
    refine ev_skip rfl ?_
    refine ev_skip rfl ?_
    refine ev_q rfl (q_pickT rfl (by conv => lhs; whnf) ?_)
    refine ev_q rfl (q_move (by conv => lhs; whnf) ?_)
    refine ev_skip rfl ?_
    refine ev_skip rfl ?_
    refine ev_skip rfl ?_
    refine ev_q rfl (q_pickT rfl (by conv => lhs; whnf) ?_)
    refine ev_nil (hK3 _ ?_); clear hK3
    refine good_condT rfl ?_
    refine good_seq fun K17 hK17 => ?_
    refine good_region rfl ?_
    refine ev_q rfl (q_assign (by conv => lhs; whnf) ?_)
    refine ev_nil (hK17 _ ?_); clear hK17
    refine good_ret ?_
    repeat (first | refine thenQ_ret ?_ | refine blockQ_ret ?_)
    refine ret_tmp (st := _) rfl (by conv => lhs; whnf) rfl ?_
    clear hK2
    first | exact fB (isName_none (by omega)).symm | exact fB (isName_long (by omega)).symm | exact fB (isName_head hu (by simp only [small]; grind)).symm | (exact fB (by rw [isName_eq (by omega) (by omega) hu (by simp only [small]; grind)]; grind))

-- spec.l01Name
set_option maxRecDepth 20000 in
set_option maxHeartbeats 8000000 in
theorem D_spec_l01Name (s : ByteArray) (hs : s.size ≤ 140737488351232) : Den Try.prog 79 [.s (.string s)] (.s (.bool (isName s))) := by
  refine den_of_good Try.func79 (by decide) rfl (Nat.le_of_ble_eq_true rfl) ?_
  refine good_seq fun K1 hK1 => ?_
  refine good_region rfl ?_
  refine ev_q rfl (q_assign (by conv => lhs; whnf) ?_)
  refine ev_nil (hK1 _ ?_); clear hK1
  refine good_seq fun K2 hK2 => ?_
  refine good_seq fun K3 hK3 => ?_
  refine good_region rfl ?_
  refine ev_q rfl (q_move (by conv => lhs; whnf) ?_)
  refine ev_q rfl (q_str rfl rfl ?_)
  intro b4 hb4; cases b4
  · replace hb4 := seF hb4
    have hz : 1 ≤ s.size := by
      apply Classical.byContradiction; intro hc; exact hb4 (size0 (by omega))
    refine ev_q rfl (q_move (by conv => lhs; whnf) ?_)
    refine ev_q rfl (q_move (by conv => lhs; whnf) ?_)
    refine ev_q rfl (q_lenS tStr9 rfl ?_)
    intro n5 hn5
    refine ev_q rfl (q_int rfl rfl ?_)
    intro b6 hb6; cases b6
    · replace hb6 := dF hb6
      obtain ⟨u0, hu0⟩ := getB (s := s) (i := 0) (by omega)
      refine ev_q rfl (q_pickF rfl (by conv => lhs; whnf) ?_)
      refine ev_q rfl (q_move (by conv => lhs; whnf) ?_)
      refine ev_q rfl (q_move (by conv => lhs; whnf) ?_)
      refine ev_q rfl (q_indexS tStr9 rfl rfl (by first | exact Int.natCast_nonneg _ | decide) (by first | exact hu0 | exact hu) ?_)
      intro n7 hn7
      subst hn7
      refine ev_q rfl (q_callB rfl rfl rfl (D_spec_l01Small ..) ?_)
      intro b8 hb8; cases b8
      · first | replace hb8 := dF hb8 | skip
        refine ev_q rfl (q_not rfl rfl ?_)
        refine ev_q rfl (q_pickF rfl (by conv => lhs; whnf) ?_)
        refine ev_nil (hK3 _ ?_); clear hK3
        refine good_condT rfl ?_
        refine good_seq fun K9 hK9 => ?_
        refine good_region rfl ?_
        refine ev_q rfl (q_assign (by conv => lhs; whnf) ?_)
        refine ev_nil (hK9 _ ?_); clear hK9
        refine good_ret ?_
        repeat (first | refine thenQ_ret ?_ | refine blockQ_ret ?_)
        refine ret_tmp (st := _) rfl (by conv => lhs; whnf) rfl ?_
        clear hK2
        first | exact fB (by rw [hb4]; rfl) | exact fB (isName_long (by omega)).symm | exact fB (isName_head hu0 (by simp only [small]; grind)).symm | exact fB (by rw [isName_eq (by omega) (by omega) hu0 (by simp only [small]; grind)]; exact (allNb_T (fun j u hj => hJ j u (by omega))).symm) | exact fB (by rw [isName_eq (by omega) (by omega) hu0 (by simp only [small]; grind)]; exact (allNb_F hu (by simp only [nbc, small, digit]; grind)).symm)
      · first | replace hb8 := dT hb8 | skip
        refine ev_q rfl (q_not rfl rfl ?_)
        refine ev_q rfl (q_pickF rfl (by conv => lhs; whnf) ?_)
        refine ev_nil (hK3 _ ?_); clear hK3
        refine good_condF rfl ?_
        refine good_skip (hK2 _ ?_); clear hK2
        refine good_seq fun K10 hK10 => ?_
        refine good_seq fun K11 hK11 => ?_
        refine good_region rfl ?_
        refine ev_q rfl (q_assign (by conv => lhs; whnf) ?_)
        refine ev_nil (hK11 _ ?_); clear hK11
        refine good_block ?_
        refine good_loop (α := Nat) (fun i => { env := upd (upd ((fun _ => .junk)) 0 (.s (.string s))) 3 (.s (.int .i64 i)), H := fun _ => none }) (fun i => i ≤ s.size ∧ ∀ j u, j < i → s[j]? = some u → nbc u = true) (fun i => s.size - i) 0 ?_ ?_ ?_
        · exact ⟨by omega, fun j u hj => by omega⟩
        · refine sub_weak ?_ ?_
          · exact weakH_none _
          · refine weakE_upd ?e3 ?r3 (weakE_upd ?e0 ?r0 (weakE_junk _ _))
            case e0 => first | rfl | exact fI (by omega) | (simp_all)
            case r0 => intro h hh; cases hh
            case e3 => first | rfl | exact fI (by omega) | (simp_all)
            case r3 => intro h hh; cases hh
        · rintro i ⟨hI, hJ⟩
          refine good_seq fun K12 hK12 => ?_
          refine good_seq fun K13 hK13 => ?_
          refine good_region rfl ?_
          refine ev_q rfl (q_move (by conv => lhs; whnf) ?_)
          refine ev_q rfl (q_move (by conv => lhs; whnf) ?_)
          refine ev_q rfl (q_lenS tStr9 rfl ?_)
          intro n14 hn14
          refine ev_q rfl (q_int rfl rfl ?_)
          intro b15 hb15; cases b15
          · replace hb15 := dF hb15
            refine ev_nil (hK13 _ ?_); clear hK13
            refine good_condF rfl ?_
            refine good_exit ?_
            repeat (first | refine thenQ_exit ?_ | refine blockQ_pass rfl ?_)
            refine blockQ_exit (hK10 _ ?_); clear hK10
            refine good_seq fun K16 hK16 => ?_
            refine good_region rfl ?_
            refine ev_q rfl (q_assign (by conv => lhs; whnf) ?_)
            refine ev_nil (hK16 _ ?_); clear hK16
            refine good_ret ?_
            repeat (first | refine thenQ_ret ?_ | refine blockQ_ret ?_)
            refine ret_tmp (st := _) rfl (by conv => lhs; whnf) rfl ?_
            clear hK12
            first | exact fB (by rw [hb4]; rfl) | exact fB (isName_long (by omega)).symm | exact fB (isName_head hu0 (by simp only [small]; grind)).symm | exact fB (by rw [isName_eq (by omega) (by omega) hu0 (by simp only [small]; grind)]; exact (allNb_T (fun j u hj => hJ j u (by omega))).symm) | exact fB (by rw [isName_eq (by omega) (by omega) hu0 (by simp only [small]; grind)]; exact (allNb_F hu (by simp only [nbc, small, digit]; grind)).symm)
          · replace hb15 := dT hb15
            obtain ⟨u, hu⟩ := getB (s := s) (i := i) (by omega)
            refine ev_nil (hK13 _ ?_); clear hK13
            refine good_condT rfl ?_
            refine good_skip (hK12 _ ?_); clear hK12
            refine good_seq fun K17 hK17 => ?_
            refine good_block ?_
            refine good_seq fun K18 hK18 => ?_
            refine good_region rfl ?_
            refine ev_q rfl (q_move (by conv => lhs; whnf) ?_)
            refine ev_q rfl (q_move (by conv => lhs; whnf) ?_)
            refine ev_q rfl (q_indexS tStr9 rfl rfl (by first | exact Int.natCast_nonneg _ | decide) (by first | exact hu0 | exact hu) ?_)
            intro n19 hn19
            subst hn19
            refine ev_q rfl (q_callB rfl rfl rfl (D_spec_l01Small ..) ?_)
            intro b20 hb20; cases b20
            · first | replace hb20 := dF hb20 | skip
              refine ev_q rfl (q_not rfl rfl ?_)
              refine ev_q rfl (q_move (by conv => lhs; whnf) ?_)
              refine ev_q rfl (q_move (by conv => lhs; whnf) ?_)
              refine ev_q rfl (q_move (by conv => lhs; whnf) ?_)
              refine ev_q rfl (q_indexS tStr9 rfl rfl (by first | exact Int.natCast_nonneg _ | decide) (by first | exact hu0 | exact hu) ?_)
              intro n21 hn21
              subst hn21
              refine ev_q rfl (q_callB rfl rfl rfl (D_spec_l01Digit ..) ?_)
              intro b22 hb22; cases b22
              · first | replace hb22 := dF hb22 | skip
                refine ev_q rfl (q_not rfl rfl ?_)
                refine ev_q rfl (q_pickT rfl (by conv => lhs; whnf) ?_)
                refine ev_nil (hK18 _ ?_); clear hK18
                refine good_condT rfl ?_
                refine good_seq fun K23 hK23 => ?_
                refine good_region rfl ?_
                refine ev_q rfl (q_assign (by conv => lhs; whnf) ?_)
                refine ev_nil (hK23 _ ?_); clear hK23
                refine good_ret ?_
                repeat (first | refine thenQ_ret ?_ | refine blockQ_ret ?_)
                refine ret_tmp (st := _) rfl (by conv => lhs; whnf) rfl ?_
                clear hK10 hK17
                first | exact fB (by rw [hb4]; rfl) | exact fB (isName_long (by omega)).symm | exact fB (isName_head hu0 (by simp only [small]; grind)).symm | exact fB (by rw [isName_eq (by omega) (by omega) hu0 (by simp only [small]; grind)]; exact (allNb_T (fun j u hj => hJ j u (by omega))).symm) | exact fB (by rw [isName_eq (by omega) (by omega) hu0 (by simp only [small]; grind)]; exact (allNb_F hu (by simp only [nbc, small, digit]; grind)).symm)
              · first | replace hb22 := dT hb22 | skip
                refine ev_q rfl (q_not rfl rfl ?_)
                refine ev_q rfl (q_pickT rfl (by conv => lhs; whnf) ?_)
                refine ev_nil (hK18 _ ?_); clear hK18
                refine good_condF rfl ?_
                refine good_skip (hK17 _ ?_); clear hK17
                refine good_region rfl ?_
                refine ev_q rfl (q_move (by conv => lhs; whnf) ?_)
                refine ev_q rfl (q_int rfl rfl ?_)
                intro n24 hn24
                replace hn24 := in64 hn24 (by omega) (by omega)
                refine ev_q rfl (q_assign (by conv => lhs; whnf) ?_)
                refine ev_nil ?_
                clear hK10
                refine ⟨i + 1, ?_, ?_, ?_⟩
                · refine ⟨by omega, fun j v hj hv => ?_⟩
                  by_cases hji : j = i
                  · subst hji; rw [hu] at hv; cases hv; simp only [nbc, small, digit] at *; grind
                  · exact hJ j v (by omega) hv
                · first | omega | (simp only []; omega) | (dsimp only; omega)
                · refine sub_weak ?_ ?_
                  · exact weakH_none _
                  · refine weakE_upd ?e3 ?r3 (weakE_upd ?e0 ?r0 (weakE_junk _ _))
                    case e0 => first | rfl | exact fI (by omega) | (simp_all)
                    case r0 => intro h hh; cases hh
                    case e3 => first | rfl | exact fI (by omega) | (simp_all)
                    case r3 => intro h hh; cases hh
            · first | replace hb20 := dT hb20 | skip
              refine ev_q rfl (q_not rfl rfl ?_)
              refine ev_q rfl (q_move (by conv => lhs; whnf) ?_)
              refine ev_skip rfl ?_
              refine ev_skip rfl ?_
              refine ev_skip rfl ?_
              refine ev_skip rfl ?_
              refine ev_skip rfl ?_
              refine ev_q rfl (q_pickF rfl (by conv => lhs; whnf) ?_)
              refine ev_nil (hK18 _ ?_); clear hK18
              refine good_condF rfl ?_
              refine good_skip (hK17 _ ?_); clear hK17
              refine good_region rfl ?_
              refine ev_q rfl (q_move (by conv => lhs; whnf) ?_)
              refine ev_q rfl (q_int rfl rfl ?_)
              intro n25 hn25
              replace hn25 := in64 hn25 (by omega) (by omega)
              refine ev_q rfl (q_assign (by conv => lhs; whnf) ?_)
              refine ev_nil ?_
              clear hK10
              refine ⟨i + 1, ?_, ?_, ?_⟩
              · refine ⟨by omega, fun j v hj hv => ?_⟩
                by_cases hji : j = i
                · subst hji; rw [hu] at hv; cases hv; simp only [nbc, small, digit] at *; grind
                · exact hJ j v (by omega) hv
              · first | omega | (simp only []; omega) | (dsimp only; omega)
              · refine sub_weak ?_ ?_
                · exact weakH_none _
                · refine weakE_upd ?e3 ?r3 (weakE_upd ?e0 ?r0 (weakE_junk _ _))
                  case e0 => first | rfl | exact fI (by omega) | (simp_all)
                  case r0 => intro h hh; cases hh
                  case e3 => first | rfl | exact fI (by omega) | (simp_all)
                  case r3 => intro h hh; cases hh
    · replace hb6 := dT hb6
      refine ev_q rfl (q_pickF rfl (by conv => lhs; whnf) ?_)
      refine ev_q rfl (q_move (by conv => lhs; whnf) ?_)
      refine ev_skip rfl ?_
      refine ev_skip rfl ?_
      refine ev_skip rfl ?_
      refine ev_skip rfl ?_
      refine ev_q rfl (q_pickT rfl (by conv => lhs; whnf) ?_)
      refine ev_nil (hK3 _ ?_); clear hK3
      refine good_condT rfl ?_
      refine good_seq fun K26 hK26 => ?_
      refine good_region rfl ?_
      refine ev_q rfl (q_assign (by conv => lhs; whnf) ?_)
      refine ev_nil (hK26 _ ?_); clear hK26
      refine good_ret ?_
      repeat (first | refine thenQ_ret ?_ | refine blockQ_ret ?_)
      refine ret_tmp (st := _) rfl (by conv => lhs; whnf) rfl ?_
      clear hK2
      first | exact fB (by rw [hb4]; rfl) | exact fB (isName_long (by omega)).symm | exact fB (isName_head hu0 (by simp only [small]; grind)).symm | exact fB (by rw [isName_eq (by omega) (by omega) hu0 (by simp only [small]; grind)]; exact (allNb_T (fun j u hj => hJ j u (by omega))).symm) | exact fB (by rw [isName_eq (by omega) (by omega) hu0 (by simp only [small]; grind)]; exact (allNb_F hu (by simp only [nbc, small, digit]; grind)).symm)
  · replace hb4 := seT hb4
    refine ev_q rfl (q_move (by conv => lhs; whnf) ?_)
    refine ev_skip rfl ?_
    refine ev_skip rfl ?_
    refine ev_skip rfl ?_
    refine ev_q rfl (q_pickT rfl (by conv => lhs; whnf) ?_)
    refine ev_q rfl (q_move (by conv => lhs; whnf) ?_)
    refine ev_skip rfl ?_
    refine ev_skip rfl ?_
    refine ev_skip rfl ?_
    refine ev_skip rfl ?_
    refine ev_q rfl (q_pickT rfl (by conv => lhs; whnf) ?_)
    refine ev_nil (hK3 _ ?_); clear hK3
    refine good_condT rfl ?_
    refine good_seq fun K27 hK27 => ?_
    refine good_region rfl ?_
    refine ev_q rfl (q_assign (by conv => lhs; whnf) ?_)
    refine ev_nil (hK27 _ ?_); clear hK27
    refine good_ret ?_
    repeat (first | refine thenQ_ret ?_ | refine blockQ_ret ?_)
    refine ret_tmp (st := _) rfl (by conv => lhs; whnf) rfl ?_
    clear hK2
    first | exact fB (by rw [hb4]; rfl) | exact fB (isName_long (by omega)).symm | exact fB (isName_head hu0 (by simp only [small]; grind)).symm | exact fB (by rw [isName_eq (by omega) (by omega) hu0 (by simp only [small]; grind)]; exact (allNb_T (fun j u hj => hJ j u (by omega))).symm) | exact fB (by rw [isName_eq (by omega) (by omega) hu0 (by simp only [small]; grind)]; exact (allNb_F hu (by simp only [nbc, small, digit]; grind)).symm)

-- impl.nodeOk
set_option maxRecDepth 20000 in
set_option maxHeartbeats 8000000 in
theorem D_impl_nodeOk (a : Int)  : Den Try.prog 81 [.s (.int .i64 a)] (.s (.bool (decide (0 ≤ a ∧ a ≤ 15)))) := by
  refine den_of_good Try.func81 (by decide) rfl (Nat.le_of_ble_eq_true rfl) ?_
  refine good_seq fun K1 hK1 => ?_
  refine good_region rfl ?_
  refine ev_q rfl (q_assign (by conv => lhs; whnf) ?_)
  refine ev_nil (hK1 _ ?_); clear hK1
  refine good_seq fun K2 hK2 => ?_
  refine good_region rfl ?_
  refine ev_q rfl (q_move (by conv => lhs; whnf) ?_)
  refine ev_q rfl (q_callB rfl rfl rfl (D_impl_within ..) ?_)
  intro b3 hb3; cases b3
  · first | replace hb3 := dF hb3 | skip
    refine ev_q rfl (q_assign (by conv => lhs; whnf) ?_)
    refine ev_nil (hK2 _ ?_); clear hK2
    refine good_ret ?_
    repeat (first | refine thenQ_ret ?_ | refine blockQ_ret ?_)
    refine ret_tmp (st := _) rfl (by conv => lhs; whnf) rfl ?_
    first | rfl | exact fT (by first | omega | grind) | exact fF (by first | omega | grind) | exact fT' (by first | omega | grind) | (exfalso; first | omega | grind)
  · first | replace hb3 := dT hb3 | skip
    refine ev_q rfl (q_assign (by conv => lhs; whnf) ?_)
    refine ev_nil (hK2 _ ?_); clear hK2
    refine good_ret ?_
    repeat (first | refine thenQ_ret ?_ | refine blockQ_ret ?_)
    refine ret_tmp (st := _) rfl (by conv => lhs; whnf) rfl ?_
    first | rfl | exact fT (by first | omega | grind) | exact fF (by first | omega | grind) | exact fT' (by first | omega | grind) | (exfalso; first | omega | grind)

-- impl.waterOk
set_option maxRecDepth 20000 in
set_option maxHeartbeats 8000000 in
theorem D_impl_waterOk (a : Int)  : Den Try.prog 50 [.s (.int .i64 a)] (.s (.bool (decide (0 ≤ a ∧ a ≤ 18000)))) := by
  refine den_of_good Try.func50 (by decide) rfl (Nat.le_of_ble_eq_true rfl) ?_
  refine good_seq fun K1 hK1 => ?_
  refine good_region rfl ?_
  refine ev_q rfl (q_assign (by conv => lhs; whnf) ?_)
  refine ev_nil (hK1 _ ?_); clear hK1
  refine good_seq fun K2 hK2 => ?_
  refine good_region rfl ?_
  refine ev_q rfl (q_move (by conv => lhs; whnf) ?_)
  refine ev_q rfl (q_callB rfl rfl rfl (D_impl_within ..) ?_)
  intro b3 hb3; cases b3
  · first | replace hb3 := dF hb3 | skip
    refine ev_q rfl (q_assign (by conv => lhs; whnf) ?_)
    refine ev_nil (hK2 _ ?_); clear hK2
    refine good_ret ?_
    repeat (first | refine thenQ_ret ?_ | refine blockQ_ret ?_)
    refine ret_tmp (st := _) rfl (by conv => lhs; whnf) rfl ?_
    first | rfl | exact fT (by first | omega | grind) | exact fF (by first | omega | grind) | exact fT' (by first | omega | grind) | (exfalso; first | omega | grind)
  · first | replace hb3 := dT hb3 | skip
    refine ev_q rfl (q_assign (by conv => lhs; whnf) ?_)
    refine ev_nil (hK2 _ ?_); clear hK2
    refine good_ret ?_
    repeat (first | refine thenQ_ret ?_ | refine blockQ_ret ?_)
    refine ret_tmp (st := _) rfl (by conv => lhs; whnf) rfl ?_
    first | rfl | exact fT (by first | omega | grind) | exact fF (by first | omega | grind) | exact fT' (by first | omega | grind) | (exfalso; first | omega | grind)

-- spec.l02Degrees
set_option maxRecDepth 20000 in
set_option maxHeartbeats 8000000 in
theorem D_spec_l02Degrees (a : Int)  : Den Try.prog 46 [.s (.int .i64 a)] (.s (.bool (decide (0 ≤ a ∧ a ≤ 18000)))) := by
  refine den_of_good Try.func46 (by decide) rfl (Nat.le_of_ble_eq_true rfl) ?_
  refine good_seq fun K1 hK1 => ?_
  refine good_region rfl ?_
  refine ev_q rfl (q_assign (by conv => lhs; whnf) ?_)
  refine ev_nil (hK1 _ ?_); clear hK1
  refine good_seq fun K2 hK2 => ?_
  refine good_region rfl ?_
  refine ev_q rfl (q_move (by conv => lhs; whnf) ?_)
  refine ev_q rfl (q_callB rfl rfl rfl (D_spec_l00In ..) ?_)
  intro b3 hb3; cases b3
  · first | replace hb3 := dF hb3 | skip
    refine ev_q rfl (q_assign (by conv => lhs; whnf) ?_)
    refine ev_nil (hK2 _ ?_); clear hK2
    refine good_ret ?_
    repeat (first | refine thenQ_ret ?_ | refine blockQ_ret ?_)
    refine ret_tmp (st := _) rfl (by conv => lhs; whnf) rfl ?_
    first | rfl | exact fT (by first | omega | grind) | exact fF (by first | omega | grind) | exact fT' (by first | omega | grind) | (exfalso; first | omega | grind)
  · first | replace hb3 := dT hb3 | skip
    refine ev_q rfl (q_assign (by conv => lhs; whnf) ?_)
    refine ev_nil (hK2 _ ?_); clear hK2
    refine good_ret ?_
    repeat (first | refine thenQ_ret ?_ | refine blockQ_ret ?_)
    refine ret_tmp (st := _) rfl (by conv => lhs; whnf) rfl ?_
    first | rfl | exact fT (by first | omega | grind) | exact fF (by first | omega | grind) | exact fT' (by first | omega | grind) | (exfalso; first | omega | grind)

-- spec.l12One
set_option maxRecDepth 20000 in
set_option maxHeartbeats 8000000 in
theorem D_spec_l12One (s : ByteArray) (nd tr su re : Int) (hs : s.size ≤ 140737488351232) : Den Try.prog 45 [.rp [.s (.string s), .s (.int .i64 nd), .s (.int .i64 tr), .s (.int .i64 su), .s (.int .i64 re)]] (.s (.bool (decide (isName s = true ∧ (0 ≤ nd ∧ nd ≤ 15) ∧ (1 ≤ tr ∧ tr ≤ 100000) ∧ (0 ≤ su ∧ su ≤ 18000) ∧ (0 ≤ re ∧ re ≤ su - 1))))) := by
  refine den_of_good Try.func45 (by decide) rfl (Nat.le_of_ble_eq_true rfl) ?_
  refine good_seq fun K1 hK1 => ?_
  refine good_region rfl ?_
  refine ev_q rfl (q_assign (by conv => lhs; whnf) ?_)
  refine ev_nil (hK1 _ ?_); clear hK1
  refine good_seq fun K2 hK2 => ?_
  refine good_draw 39 hmix (by kernel_rfl) rfl ?_
  refine qo_q rfl (q_move (by conv => lhs; whnf) ?_)
  refine qo_q rfl (q_nilCheck (by conv => lhs; whnf) rfl ?_)
  refine qo_q rfl (q_fieldAddr fO27_0 rfl rfl ?_)
  refine qo_q rfl (q_load tA9 rfl ?_)
  refine qo_q rfl (q_callB rfl rfl rfl (D_spec_l01Name _ hs) ?_)
  intro b3 hb3; cases b3
  · first | replace hb3 := dF hb3 | skip
    refine qo_q rfl (q_move (by conv => lhs; whnf) ?_)
    refine qo_skip rfl ?_
    refine qo_skip rfl ?_
    refine qo_skip rfl ?_
    refine qo_skip rfl ?_
    refine qo_skip rfl ?_
    refine qo_q rfl (q_pickF rfl (by conv => lhs; whnf) ?_)
    refine qo_q rfl (q_move (by conv => lhs; whnf) ?_)
    refine qo_skip rfl ?_
    refine qo_skip rfl ?_
    refine qo_skip rfl ?_
    refine qo_skip rfl ?_
    refine qo_skip rfl ?_
    refine qo_q rfl (q_pickF rfl (by conv => lhs; whnf) ?_)
    refine qo_q rfl (q_move (by conv => lhs; whnf) ?_)
    refine qo_skip rfl ?_
    refine qo_skip rfl ?_
    refine qo_skip rfl ?_
    refine qo_skip rfl ?_
    refine qo_skip rfl ?_
    refine qo_q rfl (q_pickF rfl (by conv => lhs; whnf) ?_)
    refine qo_q rfl (q_move (by conv => lhs; whnf) ?_)
    refine qo_skip rfl ?_
    refine qo_skip rfl ?_
    refine qo_skip rfl ?_
    refine qo_skip rfl ?_
    refine qo_skip rfl ?_
    refine qo_skip rfl ?_
    refine qo_skip rfl ?_
    refine qo_skip rfl ?_
    refine qo_skip rfl ?_
    refine qo_skip rfl ?_
    refine qo_q rfl (q_pickF rfl (by conv => lhs; whnf) ?_)
    refine qo_q rfl (q_assign (by conv => lhs; whnf) ?_)
    refine qo_nil ?_
    refine ev_nil (hK2 _ ?_); clear hK2
    refine good_ret ?_
    repeat (first | refine thenQ_ret ?_ | refine blockQ_ret ?_)
    refine ret_tmp (st := _) rfl (by conv => lhs; whnf) rfl ?_
    first | rfl | exact fT (by first | omega | grind) | exact fF (by first | omega | grind) | exact fT' (by first | omega | grind) | (exfalso; first | omega | grind)
  · first | replace hb3 := dT hb3 | skip
    refine qo_q rfl (q_move (by conv => lhs; whnf) ?_)
    refine qo_q rfl (q_move (by conv => lhs; whnf) ?_)
    refine qo_q rfl (q_nilCheck (by conv => lhs; whnf) rfl ?_)
    refine qo_q rfl (q_fieldAddr fO27_1 rfl rfl ?_)
    refine qo_q rfl (q_load tA2 rfl ?_)
    refine qo_q rfl (q_callB rfl rfl rfl (D_spec_l00In ..) ?_)
    intro b4 hb4; cases b4
    · first | replace hb4 := dF hb4 | skip
      refine qo_q rfl (q_pickT rfl (by conv => lhs; whnf) ?_)
      refine qo_q rfl (q_move (by conv => lhs; whnf) ?_)
      refine qo_skip rfl ?_
      refine qo_skip rfl ?_
      refine qo_skip rfl ?_
      refine qo_skip rfl ?_
      refine qo_skip rfl ?_
      refine qo_q rfl (q_pickF rfl (by conv => lhs; whnf) ?_)
      refine qo_q rfl (q_move (by conv => lhs; whnf) ?_)
      refine qo_skip rfl ?_
      refine qo_skip rfl ?_
      refine qo_skip rfl ?_
      refine qo_skip rfl ?_
      refine qo_skip rfl ?_
      refine qo_q rfl (q_pickF rfl (by conv => lhs; whnf) ?_)
      refine qo_q rfl (q_move (by conv => lhs; whnf) ?_)
      refine qo_skip rfl ?_
      refine qo_skip rfl ?_
      refine qo_skip rfl ?_
      refine qo_skip rfl ?_
      refine qo_skip rfl ?_
      refine qo_skip rfl ?_
      refine qo_skip rfl ?_
      refine qo_skip rfl ?_
      refine qo_skip rfl ?_
      refine qo_skip rfl ?_
      refine qo_q rfl (q_pickF rfl (by conv => lhs; whnf) ?_)
      refine qo_q rfl (q_assign (by conv => lhs; whnf) ?_)
      refine qo_nil ?_
      refine ev_nil (hK2 _ ?_); clear hK2
      refine good_ret ?_
      repeat (first | refine thenQ_ret ?_ | refine blockQ_ret ?_)
      refine ret_tmp (st := _) rfl (by conv => lhs; whnf) rfl ?_
      first | rfl | exact fT (by first | omega | grind) | exact fF (by first | omega | grind) | exact fT' (by first | omega | grind) | (exfalso; first | omega | grind)
    · first | replace hb4 := dT hb4 | skip
      refine qo_q rfl (q_pickT rfl (by conv => lhs; whnf) ?_)
      refine qo_q rfl (q_move (by conv => lhs; whnf) ?_)
      refine qo_q rfl (q_move (by conv => lhs; whnf) ?_)
      refine qo_q rfl (q_nilCheck (by conv => lhs; whnf) rfl ?_)
      refine qo_q rfl (q_fieldAddr fO27_2 rfl rfl ?_)
      refine qo_q rfl (q_load tA2 rfl ?_)
      refine qo_q rfl (q_callB rfl rfl rfl (D_spec_l00In ..) ?_)
      intro b5 hb5; cases b5
      · first | replace hb5 := dF hb5 | skip
        refine qo_q rfl (q_pickT rfl (by conv => lhs; whnf) ?_)
        refine qo_q rfl (q_move (by conv => lhs; whnf) ?_)
        refine qo_skip rfl ?_
        refine qo_skip rfl ?_
        refine qo_skip rfl ?_
        refine qo_skip rfl ?_
        refine qo_skip rfl ?_
        refine qo_q rfl (q_pickF rfl (by conv => lhs; whnf) ?_)
        refine qo_q rfl (q_move (by conv => lhs; whnf) ?_)
        refine qo_skip rfl ?_
        refine qo_skip rfl ?_
        refine qo_skip rfl ?_
        refine qo_skip rfl ?_
        refine qo_skip rfl ?_
        refine qo_skip rfl ?_
        refine qo_skip rfl ?_
        refine qo_skip rfl ?_
        refine qo_skip rfl ?_
        refine qo_skip rfl ?_
        refine qo_q rfl (q_pickF rfl (by conv => lhs; whnf) ?_)
        refine qo_q rfl (q_assign (by conv => lhs; whnf) ?_)
        refine qo_nil ?_
        refine ev_nil (hK2 _ ?_); clear hK2
        refine good_ret ?_
        repeat (first | refine thenQ_ret ?_ | refine blockQ_ret ?_)
        refine ret_tmp (st := _) rfl (by conv => lhs; whnf) rfl ?_
        first | rfl | exact fT (by first | omega | grind) | exact fF (by first | omega | grind) | exact fT' (by first | omega | grind) | (exfalso; first | omega | grind)
      · first | replace hb5 := dT hb5 | skip
        refine qo_q rfl (q_pickT rfl (by conv => lhs; whnf) ?_)
        refine qo_q rfl (q_move (by conv => lhs; whnf) ?_)
        refine qo_q rfl (q_move (by conv => lhs; whnf) ?_)
        refine qo_q rfl (q_nilCheck (by conv => lhs; whnf) rfl ?_)
        refine qo_q rfl (q_fieldAddr fO27_3 rfl rfl ?_)
        refine qo_q rfl (q_load tA2 rfl ?_)
        refine qo_q rfl (q_callB rfl rfl rfl (D_spec_l02Degrees ..) ?_)
        intro b6 hb6; cases b6
        · first | replace hb6 := dF hb6 | skip
          refine qo_q rfl (q_pickT rfl (by conv => lhs; whnf) ?_)
          refine qo_q rfl (q_move (by conv => lhs; whnf) ?_)
          refine qo_skip rfl ?_
          refine qo_skip rfl ?_
          refine qo_skip rfl ?_
          refine qo_skip rfl ?_
          refine qo_skip rfl ?_
          refine qo_skip rfl ?_
          refine qo_skip rfl ?_
          refine qo_skip rfl ?_
          refine qo_skip rfl ?_
          refine qo_skip rfl ?_
          refine qo_q rfl (q_pickF rfl (by conv => lhs; whnf) ?_)
          refine qo_q rfl (q_assign (by conv => lhs; whnf) ?_)
          refine qo_nil ?_
          refine ev_nil (hK2 _ ?_); clear hK2
          refine good_ret ?_
          repeat (first | refine thenQ_ret ?_ | refine blockQ_ret ?_)
          refine ret_tmp (st := _) rfl (by conv => lhs; whnf) rfl ?_
          first | rfl | exact fT (by first | omega | grind) | exact fF (by first | omega | grind) | exact fT' (by first | omega | grind) | (exfalso; first | omega | grind)
        · first | replace hb6 := dT hb6 | skip
          refine qo_q rfl (q_pickT rfl (by conv => lhs; whnf) ?_)
          refine qo_q rfl (q_move (by conv => lhs; whnf) ?_)
          refine qo_q rfl (q_move (by conv => lhs; whnf) ?_)
          refine qo_q rfl (q_nilCheck (by conv => lhs; whnf) rfl ?_)
          refine qo_q rfl (q_fieldAddr fO27_4 rfl rfl ?_)
          refine qo_q rfl (q_load tA2 rfl ?_)
          refine qo_q rfl (q_move (by conv => lhs; whnf) ?_)
          refine qo_q rfl (q_nilCheck (by conv => lhs; whnf) rfl ?_)
          refine qo_q rfl (q_fieldAddr fO27_3 rfl rfl ?_)
          refine qo_q rfl (q_load tA2 rfl ?_)
          refine qo_q rfl (q_int rfl rfl ?_)
          intro n7 hn7
          replace hn7 := in64 hn7 (by omega) (by omega)
          refine qo_q rfl (q_callB rfl rfl rfl (D_spec_l00In ..) ?_)
          intro b8 hb8; cases b8
          · first | replace hb8 := dF hb8 | skip
            refine qo_q rfl (q_pickT rfl (by conv => lhs; whnf) ?_)
            refine qo_q rfl (q_assign (by conv => lhs; whnf) ?_)
            refine qo_nil ?_
            refine ev_nil (hK2 _ ?_); clear hK2
            refine good_ret ?_
            repeat (first | refine thenQ_ret ?_ | refine blockQ_ret ?_)
            refine ret_tmp (st := _) rfl (by conv => lhs; whnf) rfl ?_
            first | rfl | exact fT (by first | omega | grind) | exact fF (by first | omega | grind) | exact fT' (by first | omega | grind) | (exfalso; first | omega | grind)
          · first | replace hb8 := dT hb8 | skip
            refine qo_q rfl (q_pickT rfl (by conv => lhs; whnf) ?_)
            refine qo_q rfl (q_assign (by conv => lhs; whnf) ?_)
            refine qo_nil ?_
            refine ev_nil (hK2 _ ?_); clear hK2
            refine good_ret ?_
            repeat (first | refine thenQ_ret ?_ | refine blockQ_ret ?_)
            refine ret_tmp (st := _) rfl (by conv => lhs; whnf) rfl ?_
            first | rfl | exact fT (by first | omega | grind) | exact fF (by first | omega | grind) | exact fT' (by first | omega | grind) | (exfalso; first | omega | grind)

-- impl.ValidSubstation
set_option maxRecDepth 20000 in
set_option maxHeartbeats 8000000 in
theorem D_impl_ValidSubstation (s : ByteArray) (nd tr su re : Int) (hs : s.size ≤ 140737488351232) : Den Try.prog 49 [.agg [.s (.string s), .s (.int .i64 nd), .s (.int .i64 tr), .s (.int .i64 su), .s (.int .i64 re)]] (.s (.bool (decide (isName s = true ∧ (0 ≤ nd ∧ nd ≤ 15) ∧ (1 ≤ tr ∧ tr ≤ 100000) ∧ (0 ≤ su ∧ su ≤ 18000) ∧ (0 ≤ re ∧ re ≤ su - 1))))) := by
  refine den_of_good Try.func49 (by decide) rfl (Nat.le_of_ble_eq_true rfl) ?_
  refine good_seq fun K1 hK1 => ?_
  refine good_region rfl ?_
  refine ev_k rfl (k_box (by conv => lhs; whnf) rfl rfl rfl ?_)
  refine ev_q rfl (q_assign (by conv => lhs; whnf) ?_)
  refine ev_nil (hK1 _ ?_); clear hK1
  refine good_seq fun K2 hK2 => ?_
  refine good_region rfl ?_
  refine ev_q rfl (q_fieldAddrP fO27_0 rfl rfl ?_)
  refine ev_q rfl (q_load tA9 rfl ?_)
  refine ev_q rfl (q_callB rfl rfl rfl (D_impl_IsName _ hs) ?_)
  intro b3 hb3; cases b3
  · first | replace hb3 := dF hb3 | skip
    refine ev_q rfl (q_move (by conv => lhs; whnf) ?_)
    refine ev_skip rfl ?_
    refine ev_skip rfl ?_
    refine ev_skip rfl ?_
    refine ev_q rfl (q_pickF rfl (by conv => lhs; whnf) ?_)
    refine ev_q rfl (q_move (by conv => lhs; whnf) ?_)
    refine ev_skip rfl ?_
    refine ev_skip rfl ?_
    refine ev_skip rfl ?_
    refine ev_q rfl (q_pickF rfl (by conv => lhs; whnf) ?_)
    refine ev_q rfl (q_move (by conv => lhs; whnf) ?_)
    refine ev_skip rfl ?_
    refine ev_skip rfl ?_
    refine ev_skip rfl ?_
    refine ev_q rfl (q_pickF rfl (by conv => lhs; whnf) ?_)
    refine ev_q rfl (q_move (by conv => lhs; whnf) ?_)
    refine ev_skip rfl ?_
    refine ev_skip rfl ?_
    refine ev_skip rfl ?_
    refine ev_skip rfl ?_
    refine ev_skip rfl ?_
    refine ev_skip rfl ?_
    refine ev_q rfl (q_pickF rfl (by conv => lhs; whnf) ?_)
    refine ev_q rfl (q_assign (by conv => lhs; whnf) ?_)
    refine ev_nil (hK2 _ ?_); clear hK2
    refine good_ret ?_
    repeat (first | refine thenQ_ret ?_ | refine blockQ_ret ?_)
    refine ret_tmp (st := _) rfl (by conv => lhs; whnf) rfl ?_
    first | rfl | exact fT (by first | omega | grind) | exact fF (by first | omega | grind) | exact fT' (by first | omega | grind) | (exfalso; first | omega | grind)
  · first | replace hb3 := dT hb3 | skip
    refine ev_q rfl (q_move (by conv => lhs; whnf) ?_)
    refine ev_q rfl (q_fieldAddrP fO27_1 rfl rfl ?_)
    refine ev_q rfl (q_load tA2 rfl ?_)
    refine ev_q rfl (q_callB rfl rfl rfl (D_impl_nodeOk ..) ?_)
    intro b4 hb4; cases b4
    · first | replace hb4 := dF hb4 | skip
      refine ev_q rfl (q_pickT rfl (by conv => lhs; whnf) ?_)
      refine ev_q rfl (q_move (by conv => lhs; whnf) ?_)
      refine ev_skip rfl ?_
      refine ev_skip rfl ?_
      refine ev_skip rfl ?_
      refine ev_q rfl (q_pickF rfl (by conv => lhs; whnf) ?_)
      refine ev_q rfl (q_move (by conv => lhs; whnf) ?_)
      refine ev_skip rfl ?_
      refine ev_skip rfl ?_
      refine ev_skip rfl ?_
      refine ev_q rfl (q_pickF rfl (by conv => lhs; whnf) ?_)
      refine ev_q rfl (q_move (by conv => lhs; whnf) ?_)
      refine ev_skip rfl ?_
      refine ev_skip rfl ?_
      refine ev_skip rfl ?_
      refine ev_skip rfl ?_
      refine ev_skip rfl ?_
      refine ev_skip rfl ?_
      refine ev_q rfl (q_pickF rfl (by conv => lhs; whnf) ?_)
      refine ev_q rfl (q_assign (by conv => lhs; whnf) ?_)
      refine ev_nil (hK2 _ ?_); clear hK2
      refine good_ret ?_
      repeat (first | refine thenQ_ret ?_ | refine blockQ_ret ?_)
      refine ret_tmp (st := _) rfl (by conv => lhs; whnf) rfl ?_
      first | rfl | exact fT (by first | omega | grind) | exact fF (by first | omega | grind) | exact fT' (by first | omega | grind) | (exfalso; first | omega | grind)
    · first | replace hb4 := dT hb4 | skip
      refine ev_q rfl (q_pickT rfl (by conv => lhs; whnf) ?_)
      refine ev_q rfl (q_move (by conv => lhs; whnf) ?_)
      refine ev_q rfl (q_fieldAddrP fO27_2 rfl rfl ?_)
      refine ev_q rfl (q_load tA2 rfl ?_)
      refine ev_q rfl (q_callB rfl rfl rfl (D_impl_within ..) ?_)
      intro b5 hb5; cases b5
      · first | replace hb5 := dF hb5 | skip
        refine ev_q rfl (q_pickT rfl (by conv => lhs; whnf) ?_)
        refine ev_q rfl (q_move (by conv => lhs; whnf) ?_)
        refine ev_skip rfl ?_
        refine ev_skip rfl ?_
        refine ev_skip rfl ?_
        refine ev_q rfl (q_pickF rfl (by conv => lhs; whnf) ?_)
        refine ev_q rfl (q_move (by conv => lhs; whnf) ?_)
        refine ev_skip rfl ?_
        refine ev_skip rfl ?_
        refine ev_skip rfl ?_
        refine ev_skip rfl ?_
        refine ev_skip rfl ?_
        refine ev_skip rfl ?_
        refine ev_q rfl (q_pickF rfl (by conv => lhs; whnf) ?_)
        refine ev_q rfl (q_assign (by conv => lhs; whnf) ?_)
        refine ev_nil (hK2 _ ?_); clear hK2
        refine good_ret ?_
        repeat (first | refine thenQ_ret ?_ | refine blockQ_ret ?_)
        refine ret_tmp (st := _) rfl (by conv => lhs; whnf) rfl ?_
        first | rfl | exact fT (by first | omega | grind) | exact fF (by first | omega | grind) | exact fT' (by first | omega | grind) | (exfalso; first | omega | grind)
      · first | replace hb5 := dT hb5 | skip
        refine ev_q rfl (q_pickT rfl (by conv => lhs; whnf) ?_)
        refine ev_q rfl (q_move (by conv => lhs; whnf) ?_)
        refine ev_q rfl (q_fieldAddrP fO27_3 rfl rfl ?_)
        refine ev_q rfl (q_load tA2 rfl ?_)
        refine ev_q rfl (q_callB rfl rfl rfl (D_impl_waterOk ..) ?_)
        intro b6 hb6; cases b6
        · first | replace hb6 := dF hb6 | skip
          refine ev_q rfl (q_pickT rfl (by conv => lhs; whnf) ?_)
          refine ev_q rfl (q_move (by conv => lhs; whnf) ?_)
          refine ev_skip rfl ?_
          refine ev_skip rfl ?_
          refine ev_skip rfl ?_
          refine ev_skip rfl ?_
          refine ev_skip rfl ?_
          refine ev_skip rfl ?_
          refine ev_q rfl (q_pickF rfl (by conv => lhs; whnf) ?_)
          refine ev_q rfl (q_assign (by conv => lhs; whnf) ?_)
          refine ev_nil (hK2 _ ?_); clear hK2
          refine good_ret ?_
          repeat (first | refine thenQ_ret ?_ | refine blockQ_ret ?_)
          refine ret_tmp (st := _) rfl (by conv => lhs; whnf) rfl ?_
          first | rfl | exact fT (by first | omega | grind) | exact fF (by first | omega | grind) | exact fT' (by first | omega | grind) | (exfalso; first | omega | grind)
        · first | replace hb6 := dT hb6 | skip
          refine ev_q rfl (q_pickT rfl (by conv => lhs; whnf) ?_)
          refine ev_q rfl (q_move (by conv => lhs; whnf) ?_)
          refine ev_q rfl (q_fieldAddrP fO27_4 rfl rfl ?_)
          refine ev_q rfl (q_load tA2 rfl ?_)
          refine ev_q rfl (q_fieldAddrP fO27_3 rfl rfl ?_)
          refine ev_q rfl (q_load tA2 rfl ?_)
          refine ev_q rfl (q_int rfl rfl ?_)
          intro n7 hn7
          replace hn7 := in64 hn7 (by omega) (by omega)
          refine ev_q rfl (q_callB rfl rfl rfl (D_impl_within ..) ?_)
          intro b8 hb8; cases b8
          · first | replace hb8 := dF hb8 | skip
            refine ev_q rfl (q_pickT rfl (by conv => lhs; whnf) ?_)
            refine ev_q rfl (q_assign (by conv => lhs; whnf) ?_)
            refine ev_nil (hK2 _ ?_); clear hK2
            refine good_ret ?_
            repeat (first | refine thenQ_ret ?_ | refine blockQ_ret ?_)
            refine ret_tmp (st := _) rfl (by conv => lhs; whnf) rfl ?_
            first | rfl | exact fT (by first | omega | grind) | exact fF (by first | omega | grind) | exact fT' (by first | omega | grind) | (exfalso; first | omega | grind)
          · first | replace hb8 := dT hb8 | skip
            refine ev_q rfl (q_pickT rfl (by conv => lhs; whnf) ?_)
            refine ev_q rfl (q_assign (by conv => lhs; whnf) ?_)
            refine ev_nil (hK2 _ ?_); clear hK2
            refine good_ret ?_
            repeat (first | refine thenQ_ret ?_ | refine blockQ_ret ?_)
            refine ret_tmp (st := _) rfl (by conv => lhs; whnf) rfl ?_
            first | rfl | exact fT (by first | omega | grind) | exact fF (by first | omega | grind) | exact fT' (by first | omega | grind) | (exfalso; first | omega | grind)

-- laws.toSubstation
set_option maxRecDepth 20000 in
set_option maxHeartbeats 8000000 in
theorem D_laws_toSubstation (s : ByteArray) (nd tr su re : Int)  : Den Try.prog 15 [.agg [.s (.string s), .s (.int .i64 nd), .s (.int .i64 tr), .s (.int .i64 su), .s (.int .i64 re)]] (.agg [.s (.string s), .s (.int .i64 nd), .s (.int .i64 tr), .s (.int .i64 su), .s (.int .i64 re)]) := by
  refine den_of_good Try.func15 (by decide) rfl (Nat.le_of_ble_eq_true rfl) ?_
  refine good_seq fun K1 hK1 => ?_
  refine good_region rfl ?_
  refine ev_k rfl (k_box (by conv => lhs; whnf) rfl rfl rfl ?_)
  refine ev_k rfl (k_alloc zA27 rfl ?_)
  refine ev_nil (hK1 _ ?_); clear hK1
  refine good_seq fun K2 hK2 => ?_
  refine good_region rfl ?_
  refine ev_k rfl (k_alloc zA27 rfl ?_)
  refine ev_nil (hK2 _ ?_); clear hK2
  refine good_seq fun K3 hK3 => ?_
  refine good_region rfl ?_
  refine ev_q rfl (q_fieldAddrP fO23_0 rfl rfl ?_)
  refine ev_q rfl (q_load tA9 rfl ?_)
  refine ev_q rfl (q_fieldAddrP fO27_0 rfl rfl ?_)
  refine ev_k rfl (k_store sz9 rfl (by conv => lhs; whnf) rfl rfl rfl (Nat.le_of_ble_eq_true rfl) rfl ?_)
  refine ev_nil (hK3 _ ?_); clear hK3
  refine good_seq fun K4 hK4 => ?_
  refine good_region rfl ?_
  refine ev_q rfl (q_fieldAddrP fO23_1 rfl rfl ?_)
  refine ev_q rfl (q_load tA2 rfl ?_)
  refine ev_q rfl (q_fieldAddrP fO27_1 rfl rfl ?_)
  refine ev_k rfl (k_store sz2 rfl (by conv => lhs; whnf) rfl rfl rfl (Nat.le_of_ble_eq_true rfl) rfl ?_)
  refine ev_nil (hK4 _ ?_); clear hK4
  refine good_seq fun K5 hK5 => ?_
  refine good_region rfl ?_
  refine ev_q rfl (q_fieldAddrP fO23_2 rfl rfl ?_)
  refine ev_q rfl (q_load tA2 rfl ?_)
  refine ev_q rfl (q_fieldAddrP fO27_2 rfl rfl ?_)
  refine ev_k rfl (k_store sz2 rfl (by conv => lhs; whnf) rfl rfl rfl (Nat.le_of_ble_eq_true rfl) rfl ?_)
  refine ev_nil (hK5 _ ?_); clear hK5
  refine good_seq fun K6 hK6 => ?_
  refine good_region rfl ?_
  refine ev_q rfl (q_fieldAddrP fO23_3 rfl rfl ?_)
  refine ev_q rfl (q_load tA2 rfl ?_)
  refine ev_q rfl (q_fieldAddrP fO27_3 rfl rfl ?_)
  refine ev_k rfl (k_store sz2 rfl (by conv => lhs; whnf) rfl rfl rfl (Nat.le_of_ble_eq_true rfl) rfl ?_)
  refine ev_nil (hK6 _ ?_); clear hK6
  refine good_seq fun K7 hK7 => ?_
  refine good_region rfl ?_
  refine ev_q rfl (q_fieldAddrP fO23_4 rfl rfl ?_)
  refine ev_q rfl (q_load tA2 rfl ?_)
  refine ev_q rfl (q_fieldAddrP fO27_4 rfl rfl ?_)
  refine ev_k rfl (k_store sz2 rfl (by conv => lhs; whnf) rfl rfl rfl (Nat.le_of_ble_eq_true rfl) rfl ?_)
  refine ev_nil (hK7 _ ?_); clear hK7
  refine good_seq fun K8 hK8 => ?_
  refine good_region rfl ?_
  refine ev_q rfl (q_loadA tA27 rfl rfl rfl rfl ?_)
  refine ev_k rfl (k_store sz27 rfl (by conv => lhs; whnf) rfl rfl rfl (Nat.le_of_ble_eq_true rfl) rfl ?_)
  refine ev_nil (hK8 _ ?_); clear hK8
  refine good_ret ?_
  repeat (first | refine thenQ_ret ?_ | refine blockQ_ret ?_)
  refine ret_cell rfl tA27 rfl rfl rfl ?_
  rfl

-- laws.szSubstation
set_option maxRecDepth 20000 in
set_option maxHeartbeats 8000000 in
theorem D_laws_szSubstation (s : ByteArray) (nd tr su re : Int) (left : Int) (hs : s.size ≤ 140737488351232) (hl : 0 ≤ left ∧ left ≤ 1152921504606846976) : Den Try.prog 13 [.agg [.s (.string s), .s (.int .i64 nd), .s (.int .i64 tr), .s (.int .i64 su), .s (.int .i64 re)], .s (.int .i64 left)] (.s (.int .i64 (if left - s.size < 0 then -1 else left - s.size))) := by
  refine den_of_good Try.func13 (by decide) rfl (Nat.le_of_ble_eq_true rfl) ?_
  refine good_seq fun K1 hK1 => ?_
  refine good_region rfl ?_
  refine ev_k rfl (k_box (by conv => lhs; whnf) rfl rfl rfl ?_)
  refine ev_q rfl (q_assign (by conv => lhs; whnf) ?_)
  refine ev_nil (hK1 _ ?_); clear hK1
  refine good_seq fun K2 hK2 => ?_
  refine good_region rfl ?_
  refine ev_q rfl (q_move (by conv => lhs; whnf) ?_)
  refine ev_q rfl (q_fieldAddrP fO23_0 rfl rfl ?_)
  refine ev_q rfl (q_load tA9 rfl ?_)
  refine ev_q rfl (q_lenS tStr9 rfl ?_)
  intro n3 hn3
  refine ev_q rfl (q_int rfl rfl ?_)
  intro n4 hn4
  replace hn4 := in64 hn4 (by omega) (by omega)
  refine ev_q rfl (q_assign (by conv => lhs; whnf) ?_)
  refine ev_nil (hK2 _ ?_); clear hK2
  refine good_seq fun K5 hK5 => ?_
  refine good_seq fun K6 hK6 => ?_
  refine good_region rfl ?_
  refine ev_q rfl (q_move (by conv => lhs; whnf) ?_)
  refine ev_q rfl (q_int rfl rfl ?_)
  intro b7 hb7; cases b7
  · replace hb7 := dF hb7
    refine ev_nil (hK6 _ ?_); clear hK6
    refine good_condF rfl ?_
    refine good_skip (hK5 _ ?_); clear hK5
    refine good_seq fun K8 hK8 => ?_
    refine good_region rfl ?_
    refine ev_q rfl (q_move (by conv => lhs; whnf) ?_)
    refine ev_q rfl (q_assign (by conv => lhs; whnf) ?_)
    refine ev_nil (hK8 _ ?_); clear hK8
    refine good_ret ?_
    repeat (first | refine thenQ_ret ?_ | refine blockQ_ret ?_)
    refine ret_tmp (st := _) rfl (by conv => lhs; whnf) rfl ?_
    first | rfl | exact fI (by first | omega | grind) | (exfalso; first | omega | grind)
  · replace hb7 := dT hb7
    refine ev_nil (hK6 _ ?_); clear hK6
    refine good_condT rfl ?_
    refine good_seq fun K9 hK9 => ?_
    refine good_region rfl ?_
    refine ev_q rfl (q_assign (by conv => lhs; whnf) ?_)
    refine ev_nil (hK9 _ ?_); clear hK9
    refine good_ret ?_
    repeat (first | refine thenQ_ret ?_ | refine blockQ_ret ?_)
    refine ret_tmp (st := _) rfl (by conv => lhs; whnf) rfl ?_
    clear hK5
    first | rfl | exact fI (by first | omega | grind) | (exfalso; first | omega | grind)

-- laws.szSubstationS
set_option maxRecDepth 20000 in
set_option maxHeartbeats 8000000 in
theorem D_laws_szSubstationS (xs : List Sb) (left : Int) (hx : xs.length ≤ 2932031007402) (hz : ∀ (j : Nat) (x : Sb), xs[j]? = some x → x.id.size ≤ 140737488351232) (hl : 0 ≤ left ∧ left ≤ 1152921504606846976) : Den Try.prog 17 [.lst 5 (xs.map sbA), .s (.int .i64 left)] (.s (.int .i64 (if left - xs.length - tot (fun x => x.id.size) xs xs.length < 0 then -1 else left - xs.length - tot (fun x => x.id.size) xs xs.length))) := by
  refine den_of_good Try.func17 (by decide) rfl (Nat.le_of_ble_eq_true rfl) ?_
  refine good_seq fun K1 hK1 => ?_
  refine good_region rfl ?_
  refine ev_q rfl (q_assign (by conv => lhs; whnf) ?_)
  refine ev_nil (hK1 _ ?_); clear hK1
  refine good_seq fun K2 hK2 => ?_
  refine good_region rfl ?_
  refine ev_q rfl (q_move (by conv => lhs; whnf) ?_)
  refine ev_q rfl (q_move (by conv => lhs; whnf) ?_)
  refine ev_q rfl (q_len tEs30 rfl ?_)
  intro n3 hn3
  try simp only [List.length_map] at hn3
  refine ev_q rfl (q_int rfl rfl ?_)
  intro n4 hn4
  replace hn4 := in64 hn4 (by omega) (by omega)
  refine ev_q rfl (q_assign (by conv => lhs; whnf) ?_)
  refine ev_nil (hK2 _ ?_); clear hK2
  refine good_seq fun K5 hK5 => ?_
  refine good_seq fun K6 hK6 => ?_
  refine good_region rfl ?_
  refine ev_q rfl (q_move (by conv => lhs; whnf) ?_)
  refine ev_q rfl (q_int rfl rfl ?_)
  intro b7 hb7; cases b7
  · replace hb7 := dF hb7
    refine ev_nil (hK6 _ ?_); clear hK6
    refine good_condF rfl ?_
    refine good_skip (hK5 _ ?_); clear hK5
    refine good_seq fun K8 hK8 => ?_
    refine good_seq fun K9 hK9 => ?_
    refine good_region rfl ?_
    refine ev_q rfl (q_assign (by conv => lhs; whnf) ?_)
    refine ev_nil (hK9 _ ?_); clear hK9
    refine good_block ?_
    refine good_loop (α := Nat) (fun i => { env := upd (upd (upd ((fun _ => .junk)) 0 (.lst 5 (xs.map sbA))) 1 (.s (.int .i64 (left - xs.length - tot (fun x => x.id.size) xs i)))) 5 (.s (.int .i64 i)), H := fun _ => none }) (fun i => i ≤ xs.length ∧ 0 ≤ left - xs.length - tot (fun x => x.id.size) xs i) (fun i => xs.length - i) 0 ?_ ?_ ?_
    · exact ⟨by omega, by rw [tot_zero]; omega⟩
    · refine sub_weak ?_ ?_
      · exact weakH_none _
      · refine weakE_upd ?e5 ?r5 (weakE_upd ?e1 ?r1 (weakE_upd ?e0 ?r0 (weakE_junk _ _)))
        case e0 => first | rfl | exact fI (by omega) | (simp_all)
        case r0 => intro h hh; cases hh
        case e1 => first | rfl | exact fI (by omega) | (first | exact fI (by omega) | exact fI (by rw [tot_zero]; omega))
        case r1 => intro h hh; cases hh
        case e5 => first | rfl | exact fI (by omega) | (simp_all)
        case r5 => intro h hh; cases hh
    · rintro i ⟨hI, hJ⟩
      refine good_seq fun K10 hK10 => ?_
      refine good_seq fun K11 hK11 => ?_
      refine good_region rfl ?_
      refine ev_q rfl (q_move (by conv => lhs; whnf) ?_)
      refine ev_q rfl (q_move (by conv => lhs; whnf) ?_)
      refine ev_q rfl (q_len tEs30 rfl ?_)
      intro n12 hn12
      try simp only [List.length_map] at hn12
      refine ev_q rfl (q_int rfl rfl ?_)
      intro b13 hb13; cases b13
      · replace hb13 := dF hb13
        refine ev_nil (hK11 _ ?_); clear hK11
        refine good_condF rfl ?_
        refine good_exit ?_
        repeat (first | refine thenQ_exit ?_ | refine blockQ_pass rfl ?_)
        refine blockQ_exit (hK8 _ ?_); clear hK8
        refine good_seq fun K14 hK14 => ?_
        refine good_region rfl ?_
        refine ev_q rfl (q_move (by conv => lhs; whnf) ?_)
        refine ev_q rfl (q_assign (by conv => lhs; whnf) ?_)
        refine ev_nil (hK14 _ ?_); clear hK14
        refine good_ret ?_
        repeat (first | refine thenQ_ret ?_ | refine blockQ_ret ?_)
        refine ret_tmp (st := _) rfl (by conv => lhs; whnf) rfl ?_
        clear hK10
        first | (have he := tot_end (f := fun x : Sb => x.id.size) (xs := xs) (i := i) (by omega); exact fI (by omega)) | exact fI (by omega)
      · replace hb13 := dT hb13
        obtain ⟨p, hp⟩ := getL (xs := xs) (n := (i : Int)) (by omega) (by omega)
        replace hp : xs[i]? = some p := hp
        have hst := tot_step (f := fun x : Sb => x.id.size) hp
        have hle := tot_le (f := fun x : Sb => x.id.size) (xs := xs) (i := i + 1)
        have hzp := hz i p hp
        refine ev_nil (hK11 _ ?_); clear hK11
        refine good_condT rfl ?_
        refine good_skip (hK10 _ ?_); clear hK10
        refine good_seq fun K15 hK15 => ?_
        refine good_block ?_
        refine good_seq fun K16 hK16 => ?_
        refine good_region rfl ?_
        refine ev_q rfl (q_move (by conv => lhs; whnf) ?_)
        refine ev_q rfl (q_move (by conv => lhs; whnf) ?_)
        refine ev_q rfl (q_idx tE30 rfl rfl (by exact Int.natCast_nonneg _) (by exact map_get hp) rfl ?_)
        refine ev_q rfl (q_loadA tA23 rfl rfl rfl rfl ?_)
        refine ev_q rfl (q_move (by conv => lhs; whnf) ?_)
        refine ev_q rfl (q_callI rfl rfl rfl (D_laws_szSubstation _ _ _ _ _ _ (by assumption) (by omega)) ?_)
        intro n17 hn17
        refine ev_q rfl (q_assign (by conv => lhs; whnf) ?_)
        refine ev_nil (hK16 _ ?_); clear hK16
        refine good_seq fun K18 hK18 => ?_
        refine good_region rfl ?_
        refine ev_q rfl (q_move (by conv => lhs; whnf) ?_)
        refine ev_q rfl (q_int rfl rfl ?_)
        intro b19 hb19; cases b19
        · replace hb19 := dF hb19
          refine ev_nil (hK18 _ ?_); clear hK18
          refine good_condF rfl ?_
          refine good_skip (hK15 _ ?_); clear hK15
          refine good_region rfl ?_
          refine ev_q rfl (q_move (by conv => lhs; whnf) ?_)
          refine ev_q rfl (q_int rfl rfl ?_)
          intro n20 hn20
          replace hn20 := in64 hn20 (by omega) (by omega)
          refine ev_q rfl (q_assign (by conv => lhs; whnf) ?_)
          refine ev_nil ?_
          clear hK8
          refine ⟨i + 1, ?_, ?_, ?_⟩
          · exact ⟨by omega, by omega⟩
          · first | omega | (simp only []; omega) | (dsimp only; omega)
          · refine sub_weak ?_ ?_
            · exact weakH_none _
            · refine weakE_upd ?e5 ?r5 (weakE_upd ?e1 ?r1 (weakE_upd ?e0 ?r0 (weakE_junk _ _)))
              case e0 => first | rfl | exact fI (by omega) | (simp_all)
              case r0 => intro h hh; cases hh
              case e1 => first | rfl | exact fI (by omega) | (first | exact fI (by omega) | exact fI (by rw [tot_zero]; omega))
              case r1 => intro h hh; cases hh
              case e5 => first | rfl | exact fI (by omega) | (simp_all)
              case r5 => intro h hh; cases hh
        · replace hb19 := dT hb19
          refine ev_nil (hK18 _ ?_); clear hK18
          refine good_condT rfl ?_
          refine good_seq fun K21 hK21 => ?_
          refine good_region rfl ?_
          refine ev_q rfl (q_assign (by conv => lhs; whnf) ?_)
          refine ev_nil (hK21 _ ?_); clear hK21
          refine good_ret ?_
          repeat (first | refine thenQ_ret ?_ | refine blockQ_ret ?_)
          refine ret_tmp (st := _) rfl (by conv => lhs; whnf) rfl ?_
          clear hK8 hK15
          first | (have he := tot_end (f := fun x : Sb => x.id.size) (xs := xs) (i := i) (by omega); exact fI (by omega)) | exact fI (by omega)
  · replace hb7 := dT hb7
    refine ev_nil (hK6 _ ?_); clear hK6
    refine good_condT rfl ?_
    refine good_seq fun K22 hK22 => ?_
    refine good_region rfl ?_
    refine ev_q rfl (q_assign (by conv => lhs; whnf) ?_)
    refine ev_nil (hK22 _ ?_); clear hK22
    refine good_ret ?_
    repeat (first | refine thenQ_ret ?_ | refine blockQ_ret ?_)
    refine ret_tmp (st := _) rfl (by conv => lhs; whnf) rfl ?_
    clear hK5
    first | (have he := tot_end (f := fun x : Sb => x.id.size) (xs := xs) (i := i) (by omega); exact fI (by omega)) | exact fI (by omega)

-- laws.toSubstationS
set_option maxRecDepth 20000 in
set_option maxHeartbeats 8000000 in
theorem D_laws_toSubstationS (xs : List Sb) (hx : xs.length ≤ 2932031007402) : Den Try.prog 19 [.lst 5 (xs.map sbA)] (.lst 5 (xs.map sbA)) := by
  refine den_of_good Try.func19 (by decide) rfl (Nat.le_of_ble_eq_true rfl) ?_
  refine good_seq fun K1 hK1 => ?_
  refine good_region rfl ?_
  refine ev_q rfl (q_assign (by conv => lhs; whnf) ?_)
  refine ev_nil (hK1 _ ?_); clear hK1
  refine good_seq fun K2 hK2 => ?_
  refine good_region rfl ?_
  refine ev_q rfl (q_move (by conv => lhs; whnf) ?_)
  refine ev_q rfl (q_len tEs30 rfl ?_)
  intro n3 hn3
  try simp only [List.length_map] at hn3
  refine ev_k rfl (k_make tE33 rfl rfl zA27 tBy27 rfl (by omega) (by omega) (by omega) rfl (by show _ = xs.length; omega) ?_)
  refine ev_q rfl (q_assign (by conv => lhs; whnf) ?_)
  refine ev_nil (hK2 _ ?_); clear hK2
  refine good_seq fun K4 hK4 => ?_
  refine good_seq fun K5 hK5 => ?_
  refine good_region rfl ?_
  refine ev_q rfl (q_assign (by conv => lhs; whnf) ?_)
  refine ev_nil (hK5 _ ?_); clear hK5
  refine good_block ?_
  refine good_loop (α := Nat) (fun i => { env := upd (upd (upd ((fun _ => .junk)) 0 (.lst 5 (xs.map sbA))) 3 (.own 7 xs.length)) 4 (.s (.int .i64 i)), H := upd ((fun _ => none)) 7 (some (.row 27 5 (fillC sbA sbZ xs i))) }) (fun i => i ≤ xs.length) (fun i => xs.length - i) 0 ?_ ?_ ?_
  · show 0 ≤ _; omega
  · refine sub_weak ?_ ?_
    · exact weakH_row (rowEq (fill0 rfl)) (weakH_none _)
    · refine weakE_upd ?e4 ?r4 (weakE_upd ?e3 ?r3 (weakE_upd ?e0 ?r0 (weakE_junk _ _)))
      case e0 => first | rfl | exact fI (by omega) | (simp_all)
      case r0 => intro h hh; cases hh
      case e3 => first | rfl | exact fI (by omega) | (simp_all)
      case r3 => intro h hh; simp [refs] at hh; subst hh; rfl
      case e4 => first | rfl | exact fI (by omega) | (simp_all)
      case r4 => intro h hh; cases hh
  · rintro i hI
    refine good_seq fun K6 hK6 => ?_
    refine good_seq fun K7 hK7 => ?_
    refine good_region rfl ?_
    refine ev_q rfl (q_move (by conv => lhs; whnf) ?_)
    refine ev_q rfl (q_move (by conv => lhs; whnf) ?_)
    refine ev_q rfl (q_len tEs30 rfl ?_)
    intro n8 hn8
    try simp only [List.length_map] at hn8
    refine ev_q rfl (q_int rfl rfl ?_)
    intro b9 hb9; cases b9
    · replace hb9 := dF hb9
      refine ev_nil (hK7 _ ?_); clear hK7
      refine good_condF rfl ?_
      refine good_exit ?_
      repeat (first | refine thenQ_exit ?_ | refine blockQ_pass rfl ?_)
      refine blockQ_exit (hK4 _ ?_); clear hK4
      refine good_seq fun K10 hK10 => ?_
      refine good_region rfl ?_
      refine ev_q rfl (q_move (by conv => lhs; whnf) ?_)
      refine ev_q rfl (q_assign (by conv => lhs; whnf) ?_)
      refine ev_nil (hK10 _ ?_); clear hK10
      refine good_ret ?_
      repeat (first | refine thenQ_ret ?_ | refine blockQ_ret ?_)
      refine ret_tmp (st := _) rfl (by conv => lhs; whnf) rfl ?_
      clear hK6
      exact lstEq (fillE (by omega) rfl)
    · replace hb9 := dT hb9
      obtain ⟨p, hp⟩ := getL (xs := xs) (n := (i : Int)) (by omega) (by omega)
      replace hp : xs[i]? = some p := hp
      refine ev_nil (hK7 _ ?_); clear hK7
      refine good_condT rfl ?_
      refine good_skip (hK6 _ ?_); clear hK6
      refine good_seq fun K11 hK11 => ?_
      refine good_block ?_
      refine good_region rfl ?_
      refine ev_q rfl (q_move (by conv => lhs; whnf) ?_)
      refine ev_q rfl (q_move (by conv => lhs; whnf) ?_)
      refine ev_q rfl (q_move (by conv => lhs; whnf) ?_)
      refine ev_q rfl (q_move (by conv => lhs; whnf) ?_)
      refine ev_q rfl (q_idx tE30 rfl rfl (by exact Int.natCast_nonneg _) (by exact map_get hp) rfl ?_)
      refine ev_q rfl (q_loadA tA23 rfl rfl rfl rfl ?_)
      refine ev_q rfl (q_call rfl rfl rfl (D_laws_toSubstation ..) rfl ?_)
      refine ev_q rfl (q_idxO tE33 rfl rfl rfl (by exact Int.natCast_nonneg _) (by omega) rfl ?_)
      refine ev_k rfl (k_storeE sz27 rfl (by conv => lhs; whnf) rfl rfl rfl (Nat.le_of_ble_eq_true rfl) rfl (by exact fillG (by omega)) (Nat.le_of_ble_eq_true rfl) rfl ?_)
      refine ev_nil (hK11 _ ?_); clear hK11
      refine good_region rfl ?_
      refine ev_q rfl (q_move (by conv => lhs; whnf) ?_)
      refine ev_q rfl (q_int rfl rfl ?_)
      intro n12 hn12
      replace hn12 := in64 hn12 (by omega) (by omega)
      refine ev_q rfl (q_assign (by conv => lhs; whnf) ?_)
      refine ev_nil ?_
      clear hK4
      refine ⟨i + 1, ?_, ?_, ?_⟩
      · show _ ≤ _; omega
      · first | omega | (simp only []; omega) | (dsimp only; omega)
      · refine sub_weak ?_ ?_
        · exact weakH_row (rowEq (fillS hp rfl)) (weakH_none _)
        · refine weakE_upd ?e4 ?r4 (weakE_upd ?e3 ?r3 (weakE_upd ?e0 ?r0 (weakE_junk _ _)))
          case e0 => first | rfl | exact fI (by omega) | (simp_all)
          case r0 => intro h hh; cases hh
          case e3 => first | rfl | exact fI (by omega) | (simp_all)
          case r3 => intro h hh; simp [refs] at hh; subst hh; rfl
          case e4 => first | rfl | exact fI (by omega) | (simp_all)
          case r4 => intro h hh; cases hh

-- laws.eqSubstation
set_option maxRecDepth 20000 in
set_option maxHeartbeats 8000000 in
theorem D_laws_eqSubstation (s : ByteArray) (nd tr su re : Int) (s2 : ByteArray) (nd2 tr2 su2 re2 : Int)  : Den Try.prog 54 [.agg [.s (.string s), .s (.int .i64 nd), .s (.int .i64 tr), .s (.int .i64 su), .s (.int .i64 re)], .agg [.s (.string s2), .s (.int .i64 nd2), .s (.int .i64 tr2), .s (.int .i64 su2), .s (.int .i64 re2)]] (.s (.bool (decide (s = s2 ∧ nd = nd2 ∧ tr = tr2 ∧ su = su2 ∧ re = re2)))) := by
  refine den_of_good Try.func54 (by decide) rfl (Nat.le_of_ble_eq_true rfl) ?_
  refine good_seq fun K1 hK1 => ?_
  refine good_region rfl ?_
  refine ev_k rfl (k_box (by conv => lhs; whnf) rfl rfl rfl ?_)
  refine ev_k rfl (k_box (by conv => lhs; whnf) rfl rfl rfl ?_)
  refine ev_q rfl (q_assign (by conv => lhs; whnf) ?_)
  refine ev_nil (hK1 _ ?_); clear hK1
  refine good_seq fun K2 hK2 => ?_
  refine good_seq fun K3 hK3 => ?_
  refine good_region rfl ?_
  refine ev_q rfl (q_fieldAddrP fO27_0 rfl rfl ?_)
  refine ev_q rfl (q_load tA9 rfl ?_)
  refine ev_q rfl (q_fieldAddrP fO27_0 rfl rfl ?_)
  refine ev_q rfl (q_load tA9 rfl ?_)
  refine ev_q rfl (q_str rfl rfl ?_)
  intro b4 hb4; cases b4
  · replace hb4 := snF hb4
    refine ev_nil (hK3 _ ?_); clear hK3
    refine good_condF rfl ?_
    refine good_skip (hK2 _ ?_); clear hK2
    refine good_seq fun K5 hK5 => ?_
    refine good_seq fun K6 hK6 => ?_
    refine good_region rfl ?_
    refine ev_q rfl (q_fieldAddrP fO27_1 rfl rfl ?_)
    refine ev_q rfl (q_load tA2 rfl ?_)
    refine ev_q rfl (q_fieldAddrP fO27_1 rfl rfl ?_)
    refine ev_q rfl (q_load tA2 rfl ?_)
    refine ev_q rfl (q_int rfl rfl ?_)
    intro b7 hb7; cases b7
    · replace hb7 := neF hb7
      refine ev_nil (hK6 _ ?_); clear hK6
      refine good_condF rfl ?_
      refine good_skip (hK5 _ ?_); clear hK5
      refine good_seq fun K8 hK8 => ?_
      refine good_seq fun K9 hK9 => ?_
      refine good_region rfl ?_
      refine ev_q rfl (q_fieldAddrP fO27_2 rfl rfl ?_)
      refine ev_q rfl (q_load tA2 rfl ?_)
      refine ev_q rfl (q_fieldAddrP fO27_2 rfl rfl ?_)
      refine ev_q rfl (q_load tA2 rfl ?_)
      refine ev_q rfl (q_int rfl rfl ?_)
      intro b10 hb10; cases b10
      · replace hb10 := neF hb10
        refine ev_nil (hK9 _ ?_); clear hK9
        refine good_condF rfl ?_
        refine good_skip (hK8 _ ?_); clear hK8
        refine good_seq fun K11 hK11 => ?_
        refine good_seq fun K12 hK12 => ?_
        refine good_region rfl ?_
        refine ev_q rfl (q_fieldAddrP fO27_3 rfl rfl ?_)
        refine ev_q rfl (q_load tA2 rfl ?_)
        refine ev_q rfl (q_fieldAddrP fO27_3 rfl rfl ?_)
        refine ev_q rfl (q_load tA2 rfl ?_)
        refine ev_q rfl (q_int rfl rfl ?_)
        intro b13 hb13; cases b13
        · replace hb13 := neF hb13
          refine ev_nil (hK12 _ ?_); clear hK12
          refine good_condF rfl ?_
          refine good_skip (hK11 _ ?_); clear hK11
          refine good_seq fun K14 hK14 => ?_
          refine good_seq fun K15 hK15 => ?_
          refine good_region rfl ?_
          refine ev_q rfl (q_fieldAddrP fO27_4 rfl rfl ?_)
          refine ev_q rfl (q_load tA2 rfl ?_)
          refine ev_q rfl (q_fieldAddrP fO27_4 rfl rfl ?_)
          refine ev_q rfl (q_load tA2 rfl ?_)
          refine ev_q rfl (q_int rfl rfl ?_)
          intro b16 hb16; cases b16
          · replace hb16 := neF hb16
            refine ev_nil (hK15 _ ?_); clear hK15
            refine good_condF rfl ?_
            refine good_skip (hK14 _ ?_); clear hK14
            refine good_seq fun K17 hK17 => ?_
            refine good_region rfl ?_
            refine ev_q rfl (q_assign (by conv => lhs; whnf) ?_)
            refine ev_nil (hK17 _ ?_); clear hK17
            refine good_ret ?_
            repeat (first | refine thenQ_ret ?_ | refine blockQ_ret ?_)
            refine ret_tmp (st := _) rfl (by conv => lhs; whnf) rfl ?_
            first | exact fT ⟨by assumption, by assumption, by assumption, by assumption, by assumption⟩ | exact fF (fun ⟨_, _, _, _, _⟩ => by contradiction)
          · replace hb16 := neT hb16
            refine ev_nil (hK15 _ ?_); clear hK15
            refine good_condT rfl ?_
            refine good_seq fun K18 hK18 => ?_
            refine good_region rfl ?_
            refine ev_q rfl (q_assign (by conv => lhs; whnf) ?_)
            refine ev_nil (hK18 _ ?_); clear hK18
            refine good_ret ?_
            repeat (first | refine thenQ_ret ?_ | refine blockQ_ret ?_)
            refine ret_tmp (st := _) rfl (by conv => lhs; whnf) rfl ?_
            clear hK14
            first | exact fT ⟨by assumption, by assumption, by assumption, by assumption, by assumption⟩ | exact fF (fun ⟨_, _, _, _, _⟩ => by contradiction)
        · replace hb13 := neT hb13
          refine ev_nil (hK12 _ ?_); clear hK12
          refine good_condT rfl ?_
          refine good_seq fun K19 hK19 => ?_
          refine good_region rfl ?_
          refine ev_q rfl (q_assign (by conv => lhs; whnf) ?_)
          refine ev_nil (hK19 _ ?_); clear hK19
          refine good_ret ?_
          repeat (first | refine thenQ_ret ?_ | refine blockQ_ret ?_)
          refine ret_tmp (st := _) rfl (by conv => lhs; whnf) rfl ?_
          clear hK11
          first | exact fT ⟨by assumption, by assumption, by assumption, by assumption, by assumption⟩ | exact fF (fun ⟨_, _, _, _, _⟩ => by contradiction)
      · replace hb10 := neT hb10
        refine ev_nil (hK9 _ ?_); clear hK9
        refine good_condT rfl ?_
        refine good_seq fun K20 hK20 => ?_
        refine good_region rfl ?_
        refine ev_q rfl (q_assign (by conv => lhs; whnf) ?_)
        refine ev_nil (hK20 _ ?_); clear hK20
        refine good_ret ?_
        repeat (first | refine thenQ_ret ?_ | refine blockQ_ret ?_)
        refine ret_tmp (st := _) rfl (by conv => lhs; whnf) rfl ?_
        clear hK8
        first | exact fT ⟨by assumption, by assumption, by assumption, by assumption, by assumption⟩ | exact fF (fun ⟨_, _, _, _, _⟩ => by contradiction)
    · replace hb7 := neT hb7
      refine ev_nil (hK6 _ ?_); clear hK6
      refine good_condT rfl ?_
      refine good_seq fun K21 hK21 => ?_
      refine good_region rfl ?_
      refine ev_q rfl (q_assign (by conv => lhs; whnf) ?_)
      refine ev_nil (hK21 _ ?_); clear hK21
      refine good_ret ?_
      repeat (first | refine thenQ_ret ?_ | refine blockQ_ret ?_)
      refine ret_tmp (st := _) rfl (by conv => lhs; whnf) rfl ?_
      clear hK5
      first | exact fT ⟨by assumption, by assumption, by assumption, by assumption, by assumption⟩ | exact fF (fun ⟨_, _, _, _, _⟩ => by contradiction)
  · replace hb4 := snT hb4
    refine ev_nil (hK3 _ ?_); clear hK3
    refine good_condT rfl ?_
    refine good_seq fun K22 hK22 => ?_
    refine good_region rfl ?_
    refine ev_q rfl (q_assign (by conv => lhs; whnf) ?_)
    refine ev_nil (hK22 _ ?_); clear hK22
    refine good_ret ?_
    repeat (first | refine thenQ_ret ?_ | refine blockQ_ret ?_)
    refine ret_tmp (st := _) rfl (by conv => lhs; whnf) rfl ?_
    clear hK2
    first | exact fT ⟨by assumption, by assumption, by assumption, by assumption, by assumption⟩ | exact fF (fun ⟨_, _, _, _, _⟩ => by contradiction)

-- laws.eqSubstationS
set_option maxRecDepth 20000 in
set_option maxHeartbeats 8000000 in
theorem D_laws_eqSubstationS (xs : List Sb) (hx : xs.length ≤ 2932031007402) : Den Try.prog 21 [.lst 5 (xs.map sbA), .lst 5 (xs.map sbA)] (.s (.bool true)) := by
  refine den_of_good Try.func21 (by decide) rfl (Nat.le_of_ble_eq_true rfl) ?_
  refine good_seq fun K1 hK1 => ?_
  refine good_region rfl ?_
  refine ev_q rfl (q_assign (by conv => lhs; whnf) ?_)
  refine ev_nil (hK1 _ ?_); clear hK1
  refine good_seq fun K2 hK2 => ?_
  refine good_seq fun K3 hK3 => ?_
  refine good_region rfl ?_
  refine ev_q rfl (q_move (by conv => lhs; whnf) ?_)
  refine ev_q rfl (q_len tEs33 rfl ?_)
  intro n4 hn4
  try simp only [List.length_map] at hn4
  refine ev_q rfl (q_move (by conv => lhs; whnf) ?_)
  refine ev_q rfl (q_len tEs33 rfl ?_)
  intro n5 hn5
  try simp only [List.length_map] at hn5
  refine ev_q rfl (q_int rfl rfl ?_)
  intro b6 hb6; cases b6
  · replace hb6 := neF hb6
    refine ev_nil (hK3 _ ?_); clear hK3
    refine good_condF rfl ?_
    refine good_skip (hK2 _ ?_); clear hK2
    refine good_seq fun K7 hK7 => ?_
    refine good_seq fun K8 hK8 => ?_
    refine good_region rfl ?_
    refine ev_q rfl (q_assign (by conv => lhs; whnf) ?_)
    refine ev_nil (hK8 _ ?_); clear hK8
    refine good_block ?_
    refine good_loop (α := Nat) (fun i => { env := upd (upd (upd ((fun _ => .junk)) 0 (.lst 5 (xs.map sbA))) 1 (.lst 5 (xs.map sbA))) 5 (.s (.int .i64 i)), H := fun _ => none }) (fun i => i ≤ xs.length) (fun i => xs.length - i) 0 ?_ ?_ ?_
    · show 0 ≤ _; omega
    · refine sub_weak ?_ ?_
      · exact weakH_none _
      · refine weakE_upd ?e5 ?r5 (weakE_upd ?e1 ?r1 (weakE_upd ?e0 ?r0 (weakE_junk _ _)))
        case e0 => first | rfl | exact fI (by omega) | (simp_all)
        case r0 => intro h hh; cases hh
        case e1 => first | rfl | exact fI (by omega) | (simp_all)
        case r1 => intro h hh; cases hh
        case e5 => first | rfl | exact fI (by omega) | (simp_all)
        case r5 => intro h hh; cases hh
    · rintro i hI
      refine good_seq fun K9 hK9 => ?_
      refine good_seq fun K10 hK10 => ?_
      refine good_region rfl ?_
      refine ev_q rfl (q_move (by conv => lhs; whnf) ?_)
      refine ev_q rfl (q_move (by conv => lhs; whnf) ?_)
      refine ev_q rfl (q_len tEs33 rfl ?_)
      intro n11 hn11
      try simp only [List.length_map] at hn11
      refine ev_q rfl (q_int rfl rfl ?_)
      intro b12 hb12; cases b12
      · replace hb12 := dF hb12
        refine ev_nil (hK10 _ ?_); clear hK10
        refine good_condF rfl ?_
        refine good_exit ?_
        repeat (first | refine thenQ_exit ?_ | refine blockQ_pass rfl ?_)
        refine blockQ_exit (hK7 _ ?_); clear hK7
        refine good_seq fun K13 hK13 => ?_
        refine good_region rfl ?_
        refine ev_q rfl (q_assign (by conv => lhs; whnf) ?_)
        refine ev_nil (hK13 _ ?_); clear hK13
        refine good_ret ?_
        repeat (first | refine thenQ_ret ?_ | refine blockQ_ret ?_)
        refine ret_tmp (st := _) rfl (by conv => lhs; whnf) rfl ?_
        clear hK9
        first | rfl | (exfalso; first | omega | simp_all)
      · replace hb12 := dT hb12
        obtain ⟨p, hp⟩ := getL (xs := xs) (n := (i : Int)) (by omega) (by omega)
        replace hp : xs[i]? = some p := hp
        refine ev_nil (hK10 _ ?_); clear hK10
        refine good_condT rfl ?_
        refine good_skip (hK9 _ ?_); clear hK9
        refine good_seq fun K14 hK14 => ?_
        refine good_block ?_
        refine good_seq fun K15 hK15 => ?_
        refine good_draw 10 hmix (by kernel_rfl) rfl ?_
        refine qo_q rfl (q_move (by conv => lhs; whnf) ?_)
        refine qo_q rfl (q_move (by conv => lhs; whnf) ?_)
        refine qo_q rfl (q_idx tE33 rfl rfl (by exact Int.natCast_nonneg _) (by exact map_get hp) rfl ?_)
        refine qo_q rfl (q_loadA tA27 rfl rfl rfl rfl ?_)
        refine qo_q rfl (q_move (by conv => lhs; whnf) ?_)
        refine qo_q rfl (q_move (by conv => lhs; whnf) ?_)
        refine qo_q rfl (q_idx tE33 rfl rfl (by exact Int.natCast_nonneg _) (by exact map_get hp) rfl ?_)
        refine qo_q rfl (q_loadA tA27 rfl rfl rfl rfl ?_)
        refine qo_q rfl (q_callB rfl rfl rfl (D_laws_eqSubstation ..) ?_)
        intro b16 hb16; cases b16
        · first | replace hb16 := dF hb16 | skip
          refine qo_q rfl (q_not rfl rfl ?_)
          refine qo_nil ?_
          refine ev_nil (hK15 _ ?_); clear hK15
          refine good_condT rfl ?_
          refine good_seq fun K17 hK17 => ?_
          refine good_region rfl ?_
          refine ev_q rfl (q_assign (by conv => lhs; whnf) ?_)
          refine ev_nil (hK17 _ ?_); clear hK17
          refine good_ret ?_
          repeat (first | refine thenQ_ret ?_ | refine blockQ_ret ?_)
          refine ret_tmp (st := _) rfl (by conv => lhs; whnf) rfl ?_
          clear hK7 hK14
          first | rfl | (exfalso; first | omega | simp_all)
        · first | replace hb16 := dT hb16 | skip
          refine qo_q rfl (q_not rfl rfl ?_)
          refine qo_nil ?_
          refine ev_nil (hK15 _ ?_); clear hK15
          refine good_condF rfl ?_
          refine good_skip (hK14 _ ?_); clear hK14
          refine good_region rfl ?_
          refine ev_q rfl (q_move (by conv => lhs; whnf) ?_)
          refine ev_q rfl (q_int rfl rfl ?_)
          intro n18 hn18
          replace hn18 := in64 hn18 (by omega) (by omega)
          refine ev_q rfl (q_assign (by conv => lhs; whnf) ?_)
          refine ev_nil ?_
          clear hK7
          refine ⟨i + 1, ?_, ?_, ?_⟩
          · show _ ≤ _; omega
          · first | omega | (simp only []; omega) | (dsimp only; omega)
          · refine sub_weak ?_ ?_
            · exact weakH_none _
            · refine weakE_upd ?e5 ?r5 (weakE_upd ?e1 ?r1 (weakE_upd ?e0 ?r0 (weakE_junk _ _)))
              case e0 => first | rfl | exact fI (by omega) | (simp_all)
              case r0 => intro h hh; cases hh
              case e1 => first | rfl | exact fI (by omega) | (simp_all)
              case r1 => intro h hh; cases hh
              case e5 => first | rfl | exact fI (by omega) | (simp_all)
              case r5 => intro h hh; cases hh
  · replace hb6 := neT hb6
    refine ev_nil (hK3 _ ?_); clear hK3
    refine good_condT rfl ?_
    refine good_seq fun K19 hK19 => ?_
    refine good_region rfl ?_
    refine ev_q rfl (q_assign (by conv => lhs; whnf) ?_)
    refine ev_nil (hK19 _ ?_); clear hK19
    refine good_ret ?_
    repeat (first | refine thenQ_ret ?_ | refine blockQ_ret ?_)
    refine ret_tmp (st := _) rfl (by conv => lhs; whnf) rfl ?_
    clear hK2
    first | rfl | (exfalso; first | omega | simp_all)

-- spec.l12Ok
set_option maxRecDepth 20000 in
set_option maxHeartbeats 8000000 in
theorem D_spec_l12Ok (xs : List Sb) (hx : xs.length ≤ 2932031007402) (hz : ∀ (j : Nat) (x : Sb), xs[j]? = some x → x.id.size ≤ 140737488351232) : Den Try.prog 53 [.lst 5 (xs.map sbA)] (.s (.bool (decide (subsOk xs)))) := by
  refine den_of_good Try.func53 (by decide) rfl (Nat.le_of_ble_eq_true rfl) ?_
  refine good_seq fun K1 hK1 => ?_
  refine good_region rfl ?_
  refine ev_q rfl (q_assign (by conv => lhs; whnf) ?_)
  refine ev_nil (hK1 _ ?_); clear hK1
  refine good_seq fun K2 hK2 => ?_
  refine good_seq fun K3 hK3 => ?_
  refine good_region rfl ?_
  refine ev_q rfl (q_assign (by conv => lhs; whnf) ?_)
  refine ev_nil (hK3 _ ?_); clear hK3
  refine good_block ?_
  refine good_loop (α := Nat) (fun i => { env := upd (upd ((fun _ => .junk)) 0 (.lst 5 (xs.map sbA))) 3 (.s (.int .i64 i)), H := fun _ => none }) (fun i => i ≤ xs.length ∧ ∀ j p, j < i → xs[j]? = some p → sbAt xs j p) (fun i => xs.length - i) 0 ?_ ?_ ?_
  · exact ⟨by omega, fun j u hj => by omega⟩
  · refine sub_weak ?_ ?_
    · exact weakH_none _
    · refine weakE_upd ?e3 ?r3 (weakE_upd ?e0 ?r0 (weakE_junk _ _))
      case e0 => first | rfl | exact fI (by omega) | (simp_all)
      case r0 => intro h hh; cases hh
      case e3 => first | rfl | exact fI (by omega) | (simp_all)
      case r3 => intro h hh; cases hh
  · rintro i ⟨hI, hJ⟩
    refine good_seq fun K4 hK4 => ?_
    refine good_seq fun K5 hK5 => ?_
    refine good_region rfl ?_
    refine ev_q rfl (q_move (by conv => lhs; whnf) ?_)
    refine ev_q rfl (q_move (by conv => lhs; whnf) ?_)
    refine ev_q rfl (q_len tEs33 rfl ?_)
    intro n6 hn6
    try simp only [List.length_map] at hn6
    refine ev_q rfl (q_int rfl rfl ?_)
    intro b7 hb7; cases b7
    · replace hb7 := dF hb7
      refine ev_nil (hK5 _ ?_); clear hK5
      refine good_condF rfl ?_
      refine good_exit ?_
      repeat (first | refine thenQ_exit ?_ | refine blockQ_pass rfl ?_)
      refine blockQ_exit (hK2 _ ?_); clear hK2
      refine good_seq fun K8 hK8 => ?_
      refine good_region rfl ?_
      refine ev_q rfl (q_move (by conv => lhs; whnf) ?_)
      refine ev_q rfl (q_len tEs33 rfl ?_)
      intro n9 hn9
      try simp only [List.length_map] at hn9
      refine ev_q rfl (q_int rfl rfl ?_)
      intro b10 hb10; cases b10
      · replace hb10 := dF hb10
        refine ev_q rfl (q_assign (by conv => lhs; whnf) ?_)
        refine ev_nil (hK8 _ ?_); clear hK8
        refine good_ret ?_
        repeat (first | refine thenQ_ret ?_ | refine blockQ_ret ?_)
        refine ret_tmp (st := _) rfl (by conv => lhs; whnf) rfl ?_
        clear hK4
        first | exact fT ⟨by omega, all_finS hJ (by omega)⟩ | exact fF (fun h => by have := h.1; omega) | exact fF (subs_no hp (fun ⟨h1, h2⟩ => by first | contradiction | exact hE (h2 q (by omega) (by rw [← hq]; congr 1; omega))))
      · replace hb10 := dT hb10
        refine ev_q rfl (q_assign (by conv => lhs; whnf) ?_)
        refine ev_nil (hK8 _ ?_); clear hK8
        refine good_ret ?_
        repeat (first | refine thenQ_ret ?_ | refine blockQ_ret ?_)
        refine ret_tmp (st := _) rfl (by conv => lhs; whnf) rfl ?_
        clear hK4
        first | exact fT ⟨by omega, all_finS hJ (by omega)⟩ | exact fF (fun h => by have := h.1; omega) | exact fF (subs_no hp (fun ⟨h1, h2⟩ => by first | contradiction | exact hE (h2 q (by omega) (by rw [← hq]; congr 1; omega))))
    · replace hb7 := dT hb7
      obtain ⟨p, hp⟩ := getL (xs := xs) (n := (i : Int)) (by omega) (by omega)
      replace hp : xs[i]? = some p := hp
      have hzp := hz i p hp
      refine ev_nil (hK5 _ ?_); clear hK5
      refine good_condT rfl ?_
      refine good_skip (hK4 _ ?_); clear hK4
      refine good_seq fun K11 hK11 => ?_
      refine good_block ?_
      refine good_seq fun K12 hK12 => ?_
      refine good_draw 23 hmix (by kernel_rfl) rfl ?_
      refine qo_q rfl (q_move (by conv => lhs; whnf) ?_)
      refine qo_q rfl (q_move (by conv => lhs; whnf) ?_)
      refine qo_q rfl (q_idx tE33 rfl rfl (by exact Int.natCast_nonneg _) (by exact map_get hp) rfl ?_)
      refine qo_q rfl (q_callB rfl rfl rfl (D_spec_l12One _ _ _ _ _ (by assumption)) ?_)
      intro b13 hb13; cases b13
      · first | replace hb13 := dF hb13 | skip
        refine qo_q rfl (q_not rfl rfl ?_)
        refine qo_q rfl (q_move (by conv => lhs; whnf) ?_)
        refine qo_skip rfl ?_
        refine qo_skip rfl ?_
        refine qo_skip rfl ?_
        refine qo_skip rfl ?_
        refine qo_skip rfl ?_
        refine qo_skip rfl ?_
        refine qo_skip rfl ?_
        refine qo_skip rfl ?_
        refine qo_skip rfl ?_
        refine qo_skip rfl ?_
        refine qo_skip rfl ?_
        refine qo_skip rfl ?_
        refine qo_skip rfl ?_
        refine qo_skip rfl ?_
        refine qo_skip rfl ?_
        refine qo_skip rfl ?_
        refine qo_q rfl (q_pickT rfl (by conv => lhs; whnf) ?_)
        refine qo_nil ?_
        refine ev_nil (hK12 _ ?_); clear hK12
        refine good_condT rfl ?_
        refine good_seq fun K14 hK14 => ?_
        refine good_region rfl ?_
        refine ev_q rfl (q_assign (by conv => lhs; whnf) ?_)
        refine ev_nil (hK14 _ ?_); clear hK14
        refine good_ret ?_
        repeat (first | refine thenQ_ret ?_ | refine blockQ_ret ?_)
        refine ret_tmp (st := _) rfl (by conv => lhs; whnf) rfl ?_
        clear hK2 hK11
        first | exact fT ⟨by omega, all_finS hJ (by omega)⟩ | exact fF (fun h => by have := h.1; omega) | exact fF (subs_no hp (fun ⟨h1, h2⟩ => by first | contradiction | exact hE (h2 q (by omega) (by rw [← hq]; congr 1; omega))))
      · first | replace hb13 := dT hb13 | skip
        refine qo_q rfl (q_not rfl rfl ?_)
        refine qo_q rfl (q_move (by conv => lhs; whnf) ?_)
        refine qo_q rfl (q_move (by conv => lhs; whnf) ?_)
        refine qo_q rfl (q_int rfl rfl ?_)
        intro b15 hb15; cases b15
        · replace hb15 := dF hb15
          refine qo_q rfl (q_move (by conv => lhs; whnf) ?_)
          refine qo_skip rfl ?_
          refine qo_skip rfl ?_
          refine qo_skip rfl ?_
          refine qo_skip rfl ?_
          refine qo_skip rfl ?_
          refine qo_skip rfl ?_
          refine qo_skip rfl ?_
          refine qo_skip rfl ?_
          refine qo_skip rfl ?_
          refine qo_skip rfl ?_
          refine qo_skip rfl ?_
          refine qo_skip rfl ?_
          refine qo_q rfl (q_pickF rfl (by conv => lhs; whnf) ?_)
          refine qo_q rfl (q_pickF rfl (by conv => lhs; whnf) ?_)
          refine qo_nil ?_
          refine ev_nil (hK12 _ ?_); clear hK12
          refine good_condF rfl ?_
          refine good_skip (hK11 _ ?_); clear hK11
          refine good_region rfl ?_
          refine ev_q rfl (q_move (by conv => lhs; whnf) ?_)
          refine ev_q rfl (q_int rfl rfl ?_)
          intro n16 hn16
          replace hn16 := in64 hn16 (by omega) (by omega)
          refine ev_q rfl (q_assign (by conv => lhs; whnf) ?_)
          refine ev_nil ?_
          clear hK2
          refine ⟨i + 1, ?_, ?_, ?_⟩
          · refine ⟨by omega, all_extS hJ hp ?_⟩
            first | exact ⟨by assumption, fun y h0 hy => by first | omega | (have e : some y = some q := hy.symm.trans (by rw [← hq]; congr 1; omega); cases e; exact hE)⟩
          · first | omega | (simp only []; omega) | (dsimp only; omega)
          · refine sub_weak ?_ ?_
            · exact weakH_none _
            · refine weakE_upd ?e3 ?r3 (weakE_upd ?e0 ?r0 (weakE_junk _ _))
              case e0 => first | rfl | exact fI (by omega) | (simp_all)
              case r0 => intro h hh; cases hh
              case e3 => first | rfl | exact fI (by omega) | (simp_all)
              case r3 => intro h hh; cases hh
        · replace hb15 := dT hb15
          refine qo_q rfl (q_move (by conv => lhs; whnf) ?_)
          refine qo_q rfl (q_move (by conv => lhs; whnf) ?_)
          refine qo_q rfl (q_move (by conv => lhs; whnf) ?_)
          refine qo_q rfl (q_int rfl rfl ?_)
          intro n17 hn17
          replace hn17 := in64 hn17 (by omega) (by omega)
          obtain ⟨q, hq⟩ := getL (xs := xs) (n := n17) (by omega) (by omega)
          refine qo_q rfl (q_idx tE33 rfl rfl (by omega) (by exact map_get hq) rfl ?_)
          refine qo_q rfl (q_fieldAddr fO27_0 rfl rfl ?_)
          refine qo_q rfl (q_load tA9 rfl ?_)
          refine qo_q rfl (q_move (by conv => lhs; whnf) ?_)
          refine qo_q rfl (q_move (by conv => lhs; whnf) ?_)
          refine qo_q rfl (q_idx tE33 rfl rfl (by exact Int.natCast_nonneg _) (by exact map_get hp) rfl ?_)
          refine qo_q rfl (q_fieldAddr fO27_0 rfl rfl ?_)
          refine qo_q rfl (q_load tA9 rfl ?_)
          refine qo_q rfl (q_str rfl rfl ?_)
          intro b18 hb18; cases b18
          · have hE := lt_ge hb18
            refine qo_q rfl (q_pickT rfl (by conv => lhs; whnf) ?_)
            refine qo_q rfl (q_pickF rfl (by conv => lhs; whnf) ?_)
            refine qo_nil ?_
            refine ev_nil (hK12 _ ?_); clear hK12
            refine good_condF rfl ?_
            refine good_skip (hK11 _ ?_); clear hK11
            refine good_region rfl ?_
            refine ev_q rfl (q_move (by conv => lhs; whnf) ?_)
            refine ev_q rfl (q_int rfl rfl ?_)
            intro n19 hn19
            replace hn19 := in64 hn19 (by omega) (by omega)
            refine ev_q rfl (q_assign (by conv => lhs; whnf) ?_)
            refine ev_nil ?_
            clear hK2
            refine ⟨i + 1, ?_, ?_, ?_⟩
            · refine ⟨by omega, all_extS hJ hp ?_⟩
              first | exact ⟨by assumption, fun y h0 hy => by first | omega | (have e : some y = some q := hy.symm.trans (by rw [← hq]; congr 1; omega); cases e; exact hE)⟩
            · first | omega | (simp only []; omega) | (dsimp only; omega)
            · refine sub_weak ?_ ?_
              · exact weakH_none _
              · refine weakE_upd ?e3 ?r3 (weakE_upd ?e0 ?r0 (weakE_junk _ _))
                case e0 => first | rfl | exact fI (by omega) | (simp_all)
                case r0 => intro h hh; cases hh
                case e3 => first | rfl | exact fI (by omega) | (simp_all)
                case r3 => intro h hh; cases hh
          · have hE := nlt_ge hb18
            refine qo_q rfl (q_pickT rfl (by conv => lhs; whnf) ?_)
            refine qo_q rfl (q_pickF rfl (by conv => lhs; whnf) ?_)
            refine qo_nil ?_
            refine ev_nil (hK12 _ ?_); clear hK12
            refine good_condT rfl ?_
            refine good_seq fun K20 hK20 => ?_
            refine good_region rfl ?_
            refine ev_q rfl (q_assign (by conv => lhs; whnf) ?_)
            refine ev_nil (hK20 _ ?_); clear hK20
            refine good_ret ?_
            repeat (first | refine thenQ_ret ?_ | refine blockQ_ret ?_)
            refine ret_tmp (st := _) rfl (by conv => lhs; whnf) rfl ?_
            clear hK2 hK11
            first | exact fT ⟨by omega, all_finS hJ (by omega)⟩ | exact fF (fun h => by have := h.1; omega) | exact fF (subs_no hp (fun ⟨h1, h2⟩ => by first | contradiction | exact hE (h2 q (by omega) (by rw [← hq]; congr 1; omega))))

-- spec.ValidSubstations
set_option maxRecDepth 20000 in
set_option maxHeartbeats 8000000 in
theorem D_spec_ValidSubstations (xs : List Sb) (hx : xs.length ≤ 2932031007402) (hz : ∀ (j : Nat) (x : Sb), xs[j]? = some x → x.id.size ≤ 140737488351232) : Den Try.prog 18 [.lst 5 (xs.map sbA)] (.s (.bool (decide (subsOk xs)))) := by
  refine den_of_good Try.func18 (by decide) rfl (Nat.le_of_ble_eq_true rfl) ?_
  refine good_seq fun K1 hK1 => ?_
  refine good_region rfl ?_
  refine ev_q rfl (q_assign (by conv => lhs; whnf) ?_)
  refine ev_nil (hK1 _ ?_); clear hK1
  refine good_seq fun K2 hK2 => ?_
  refine good_region rfl ?_
  refine ev_q rfl (q_move (by conv => lhs; whnf) ?_)
  refine ev_q rfl (q_callB rfl rfl rfl (D_spec_l12Ok _ hx hz) ?_)
  intro b3 hb3; cases b3
  · first | replace hb3 := dF hb3 | skip
    refine ev_q rfl (q_assign (by conv => lhs; whnf) ?_)
    refine ev_nil (hK2 _ ?_); clear hK2
    refine good_ret ?_
    repeat (first | refine thenQ_ret ?_ | refine blockQ_ret ?_)
    refine ret_tmp (st := _) rfl (by conv => lhs; whnf) rfl ?_
    first | exact fT (by assumption) | exact fF (by assumption)
  · first | replace hb3 := dT hb3 | skip
    refine ev_q rfl (q_assign (by conv => lhs; whnf) ?_)
    refine ev_nil (hK2 _ ?_); clear hK2
    refine good_ret ?_
    repeat (first | refine thenQ_ret ?_ | refine blockQ_ret ?_)
    refine ret_tmp (st := _) rfl (by conv => lhs; whnf) rfl ?_
    first | exact fT (by assumption) | exact fF (by assumption)

-- impl.ValidSubstations
set_option maxRecDepth 20000 in
set_option maxHeartbeats 8000000 in
theorem D_impl_ValidSubstations (xs : List Sb) (hx : xs.length ≤ 2932031007402) (hz : ∀ (j : Nat) (x : Sb), xs[j]? = some x → x.id.size ≤ 140737488351232) : Den Try.prog 20 [.lst 5 (xs.map sbA)] (.s (.bool (decide (subsOk xs)))) := by
  refine den_of_good Try.func20 (by decide) rfl (Nat.le_of_ble_eq_true rfl) ?_
  refine good_seq fun K1 hK1 => ?_
  refine good_region rfl ?_
  refine ev_q rfl (q_assign (by conv => lhs; whnf) ?_)
  refine ev_nil (hK1 _ ?_); clear hK1
  refine good_seq fun K2 hK2 => ?_
  refine good_seq fun K3 hK3 => ?_
  refine good_region rfl ?_
  refine ev_q rfl (q_move (by conv => lhs; whnf) ?_)
  refine ev_q rfl (q_len tEs33 rfl ?_)
  intro n4 hn4
  try simp only [List.length_map] at hn4
  refine ev_q rfl (q_int rfl rfl ?_)
  intro b5 hb5; cases b5
  · replace hb5 := dF hb5
    refine ev_nil (hK3 _ ?_); clear hK3
    refine good_condF rfl ?_
    refine good_skip (hK2 _ ?_); clear hK2
    refine good_seq fun K6 hK6 => ?_
    refine good_seq fun K7 hK7 => ?_
    refine good_region rfl ?_
    refine ev_q rfl (q_move (by conv => lhs; whnf) ?_)
    refine ev_q rfl (q_len tEs33 rfl ?_)
    intro n8 hn8
    try simp only [List.length_map] at hn8
    refine ev_q rfl (q_move (by conv => lhs; whnf) ?_)
    refine ev_nil (hK7 _ ?_); clear hK7
    refine good_block ?_
    refine good_loop (α := Nat) (fun i => { env := upd (upd (upd (upd ((fun _ => .junk)) 0 (.lst 5 (xs.map sbA))) 8 (.lst 5 (xs.map sbA))) 9 (.s (.int .i64 ((xs.length : Int))))) 10 (.s (.int .i64 i)), H := fun _ => none }) (fun i => i ≤ xs.length ∧ ∀ j p, j < i → xs[j]? = some p → sbAt xs j p) (fun i => xs.length - i) 0 ?_ ?_ ?_
    · exact ⟨by omega, fun j u hj => by omega⟩
    · refine sub_weak ?_ ?_
      · exact weakH_none _
      · refine weakE_upd ?e10 ?r10 (weakE_upd ?e9 ?r9 (weakE_upd ?e8 ?r8 (weakE_upd ?e0 ?r0 (weakE_junk _ _))))
        case e0 => first | rfl | exact fI (by omega) | (simp_all)
        case r0 => intro h hh; cases hh
        case e8 => first | rfl | exact fI (by omega) | (simp_all)
        case r8 => intro h hh; cases hh
        case e9 => first | rfl | exact fI (by omega) | (simp_all)
        case r9 => intro h hh; cases hh
        case e10 => first | rfl | exact fI (by omega) | (simp_all)
        case r10 => intro h hh; cases hh
    · rintro i ⟨hI, hJ⟩
      refine good_seq fun K9 hK9 => ?_
      refine good_region rfl ?_
      refine ev_q rfl (q_int rfl rfl ?_)
      intro b10 hb10; cases b10
      · replace hb10 := dF hb10
        refine ev_nil (hK9 _ ?_); clear hK9
        refine good_seq fun K11 hK11 => ?_
        refine good_condF rfl ?_
        refine good_exit ?_
        repeat (first | refine thenQ_exit ?_ | refine blockQ_pass rfl ?_)
        refine blockQ_exit (hK6 _ ?_); clear hK6
        refine good_seq fun K12 hK12 => ?_
        refine good_region rfl ?_
        refine ev_q rfl (q_assign (by conv => lhs; whnf) ?_)
        refine ev_nil (hK12 _ ?_); clear hK12
        refine good_ret ?_
        repeat (first | refine thenQ_ret ?_ | refine blockQ_ret ?_)
        refine ret_tmp (st := _) rfl (by conv => lhs; whnf) rfl ?_
        clear hK11
        first | exact fT ⟨by omega, all_finS hJ (by omega)⟩ | exact fF (fun h => by have := h.1; omega) | exact fF (subs_no hp (fun ⟨h1, h2⟩ => by first | contradiction | exact hE (h2 q (by omega) (by rw [← hq]; congr 1; omega))))
      · replace hb10 := dT hb10
        obtain ⟨p, hp⟩ := getL (xs := xs) (n := (i : Int)) (by omega) (by omega)
        replace hp : xs[i]? = some p := hp
        have hzp := hz i p hp
        refine ev_nil (hK9 _ ?_); clear hK9
        refine good_seq fun K13 hK13 => ?_
        refine good_condT rfl ?_
        refine good_skip (hK13 _ ?_); clear hK13
        refine good_seq fun K14 hK14 => ?_
        refine good_block ?_
        refine good_seq fun K15 hK15 => ?_
        refine good_region rfl ?_
        refine ev_q rfl (q_move (by conv => lhs; whnf) ?_)
        refine ev_q rfl (q_idx tE33 rfl rfl (by exact Int.natCast_nonneg _) (by exact map_get hp) rfl ?_)
        refine ev_q rfl (q_loadA tA27 rfl rfl rfl rfl ?_)
        refine ev_k rfl (k_alloc zA27 rfl ?_)
        refine ev_q rfl (q_assign (by conv => lhs; whnf) ?_)
        refine ev_k rfl (k_store sz27 rfl (by conv => lhs; whnf) rfl rfl rfl (Nat.le_of_ble_eq_true rfl) rfl ?_)
        refine ev_nil (hK15 _ ?_); clear hK15
        refine good_seq fun K16 hK16 => ?_
        refine good_draw 18 hmix (by kernel_rfl) rfl ?_
        refine qo_q rfl (q_loadA tA27 rfl rfl rfl rfl ?_)
        refine qo_q rfl (q_callB rfl rfl rfl (D_impl_ValidSubstation _ _ _ _ _ (by assumption)) ?_)
        intro b17 hb17; cases b17
        · first | replace hb17 := dF hb17 | skip
          refine qo_q rfl (q_not rfl rfl ?_)
          refine qo_q rfl (q_move (by conv => lhs; whnf) ?_)
          refine qo_skip rfl ?_
          refine qo_skip rfl ?_
          refine qo_skip rfl ?_
          refine qo_skip rfl ?_
          refine qo_skip rfl ?_
          refine qo_skip rfl ?_
          refine qo_skip rfl ?_
          refine qo_skip rfl ?_
          refine qo_skip rfl ?_
          refine qo_skip rfl ?_
          refine qo_skip rfl ?_
          refine qo_skip rfl ?_
          refine qo_skip rfl ?_
          refine qo_q rfl (q_pickT rfl (by conv => lhs; whnf) ?_)
          refine qo_nil ?_
          refine ev_nil (hK16 _ ?_); clear hK16
          refine good_condT rfl ?_
          refine good_seq fun K18 hK18 => ?_
          refine good_region rfl ?_
          refine ev_q rfl (q_assign (by conv => lhs; whnf) ?_)
          refine ev_nil (hK18 _ ?_); clear hK18
          refine good_ret ?_
          repeat (first | refine thenQ_ret ?_ | refine blockQ_ret ?_)
          refine ret_tmp (st := _) rfl (by conv => lhs; whnf) rfl ?_
          clear hK6 hK14
          first | exact fT ⟨by omega, all_finS hJ (by omega)⟩ | exact fF (fun h => by have := h.1; omega) | exact fF (subs_no hp (fun ⟨h1, h2⟩ => by first | contradiction | exact hE (h2 q (by omega) (by rw [← hq]; congr 1; omega))))
        · first | replace hb17 := dT hb17 | skip
          refine qo_q rfl (q_not rfl rfl ?_)
          refine qo_q rfl (q_move (by conv => lhs; whnf) ?_)
          refine qo_q rfl (q_move (by conv => lhs; whnf) ?_)
          refine qo_q rfl (q_int rfl rfl ?_)
          intro b19 hb19; cases b19
          · replace hb19 := dF hb19
            refine qo_q rfl (q_move (by conv => lhs; whnf) ?_)
            refine qo_skip rfl ?_
            refine qo_skip rfl ?_
            refine qo_skip rfl ?_
            refine qo_skip rfl ?_
            refine qo_skip rfl ?_
            refine qo_skip rfl ?_
            refine qo_skip rfl ?_
            refine qo_skip rfl ?_
            refine qo_skip rfl ?_
            refine qo_q rfl (q_pickF rfl (by conv => lhs; whnf) ?_)
            refine qo_q rfl (q_pickF rfl (by conv => lhs; whnf) ?_)
            refine qo_nil ?_
            refine ev_nil (hK16 _ ?_); clear hK16
            refine good_condF rfl ?_
            refine good_skip (hK14 _ ?_); clear hK14
            refine good_region rfl ?_
            refine ev_q rfl (q_int rfl rfl ?_)
            intro n20 hn20
            replace hn20 := in64 hn20 (by omega) (by omega)
            refine ev_q rfl (q_move (by conv => lhs; whnf) ?_)
            refine ev_nil ?_
            clear hK6
            refine ⟨i + 1, ?_, ?_, ?_⟩
            · refine ⟨by omega, all_extS hJ hp ?_⟩
              first | exact ⟨by assumption, fun y h0 hy => by first | omega | (have e : some y = some q := hy.symm.trans (by rw [← hq]; congr 1; omega); cases e; exact hE)⟩
            · first | omega | (simp only []; omega) | (dsimp only; omega)
            · refine sub_weak ?_ ?_
              · exact weakH_none _
              · refine weakE_upd ?e10 ?r10 (weakE_upd ?e9 ?r9 (weakE_upd ?e8 ?r8 (weakE_upd ?e0 ?r0 (weakE_junk _ _))))
                case e0 => first | rfl | exact fI (by omega) | (simp_all)
                case r0 => intro h hh; cases hh
                case e8 => first | rfl | exact fI (by omega) | (simp_all)
                case r8 => intro h hh; cases hh
                case e9 => first | rfl | exact fI (by omega) | (simp_all)
                case r9 => intro h hh; cases hh
                case e10 => first | rfl | exact fI (by omega) | (simp_all)
                case r10 => intro h hh; cases hh
          · replace hb19 := dT hb19
            refine qo_q rfl (q_move (by conv => lhs; whnf) ?_)
            refine qo_q rfl (q_fieldAddrP fO27_0 rfl rfl ?_)
            refine qo_q rfl (q_load tA9 rfl ?_)
            refine qo_q rfl (q_move (by conv => lhs; whnf) ?_)
            refine qo_q rfl (q_move (by conv => lhs; whnf) ?_)
            refine qo_q rfl (q_int rfl rfl ?_)
            intro n21 hn21
            replace hn21 := in64 hn21 (by omega) (by omega)
            obtain ⟨q, hq⟩ := getL (xs := xs) (n := n21) (by omega) (by omega)
            refine qo_q rfl (q_idx tE33 rfl rfl (by omega) (by exact map_get hq) rfl ?_)
            refine qo_q rfl (q_fieldAddr fO27_0 rfl rfl ?_)
            refine qo_q rfl (q_load tA9 rfl ?_)
            refine qo_q rfl (q_str rfl rfl ?_)
            intro b22 hb22; cases b22
            · have hE := lt_le hb22
              refine qo_q rfl (q_pickT rfl (by conv => lhs; whnf) ?_)
              refine qo_q rfl (q_pickF rfl (by conv => lhs; whnf) ?_)
              refine qo_nil ?_
              refine ev_nil (hK16 _ ?_); clear hK16
              refine good_condF rfl ?_
              refine good_skip (hK14 _ ?_); clear hK14
              refine good_region rfl ?_
              refine ev_q rfl (q_int rfl rfl ?_)
              intro n23 hn23
              replace hn23 := in64 hn23 (by omega) (by omega)
              refine ev_q rfl (q_move (by conv => lhs; whnf) ?_)
              refine ev_nil ?_
              clear hK6
              refine ⟨i + 1, ?_, ?_, ?_⟩
              · refine ⟨by omega, all_extS hJ hp ?_⟩
                first | exact ⟨by assumption, fun y h0 hy => by first | omega | (have e : some y = some q := hy.symm.trans (by rw [← hq]; congr 1; omega); cases e; exact hE)⟩
              · first | omega | (simp only []; omega) | (dsimp only; omega)
              · refine sub_weak ?_ ?_
                · exact weakH_none _
                · refine weakE_upd ?e10 ?r10 (weakE_upd ?e9 ?r9 (weakE_upd ?e8 ?r8 (weakE_upd ?e0 ?r0 (weakE_junk _ _))))
                  case e0 => first | rfl | exact fI (by omega) | (simp_all)
                  case r0 => intro h hh; cases hh
                  case e8 => first | rfl | exact fI (by omega) | (simp_all)
                  case r8 => intro h hh; cases hh
                  case e9 => first | rfl | exact fI (by omega) | (simp_all)
                  case r9 => intro h hh; cases hh
                  case e10 => first | rfl | exact fI (by omega) | (simp_all)
                  case r10 => intro h hh; cases hh
            · have hE := nlt_le hb22
              refine qo_q rfl (q_pickT rfl (by conv => lhs; whnf) ?_)
              refine qo_q rfl (q_pickF rfl (by conv => lhs; whnf) ?_)
              refine qo_nil ?_
              refine ev_nil (hK16 _ ?_); clear hK16
              refine good_condT rfl ?_
              refine good_seq fun K24 hK24 => ?_
              refine good_region rfl ?_
              refine ev_q rfl (q_assign (by conv => lhs; whnf) ?_)
              refine ev_nil (hK24 _ ?_); clear hK24
              refine good_ret ?_
              repeat (first | refine thenQ_ret ?_ | refine blockQ_ret ?_)
              refine ret_tmp (st := _) rfl (by conv => lhs; whnf) rfl ?_
              clear hK6 hK14
              first | exact fT ⟨by omega, all_finS hJ (by omega)⟩ | exact fF (fun h => by have := h.1; omega) | exact fF (subs_no hp (fun ⟨h1, h2⟩ => by first | contradiction | exact hE (h2 q (by omega) (by rw [← hq]; congr 1; omega))))
  · replace hb5 := dT hb5
    refine ev_nil (hK3 _ ?_); clear hK3
    refine good_condT rfl ?_
    refine good_seq fun K25 hK25 => ?_
    refine good_region rfl ?_
    refine ev_q rfl (q_assign (by conv => lhs; whnf) ?_)
    refine ev_nil (hK25 _ ?_); clear hK25
    refine good_ret ?_
    repeat (first | refine thenQ_ret ?_ | refine blockQ_ret ?_)
    refine ret_tmp (st := _) rfl (by conv => lhs; whnf) rfl ?_
    clear hK2
    first | exact fT ⟨by omega, all_finS hJ (by omega)⟩ | exact fF (fun h => by have := h.1; omega) | exact fF (subs_no hp (fun ⟨h1, h2⟩ => by first | contradiction | exact hE (h2 q (by omega) (by rw [← hq]; congr 1; omega))))

-- laws.FnExactValidSubstations
set_option maxRecDepth 20000 in
set_option maxHeartbeats 8000000 in
theorem D_laws_FnExactValidSubstations (xs : List Sb) (hx : xs.length ≤ 2932031007402) (hz : ∀ (j : Nat) (x : Sb), xs[j]? = some x → x.id.size ≤ 140737488351232) : Den Try.prog 4 [.lst 5 (xs.map sbA)] (.s (.bool true)) := by
  refine den_of_good Try.func4 (by decide) rfl (Nat.le_of_ble_eq_true rfl) ?_
  refine good_seq fun K1 hK1 => ?_
  refine good_region rfl ?_
  refine ev_q rfl (q_assign (by conv => lhs; whnf) ?_)
  refine ev_nil (hK1 _ ?_); clear hK1
  refine good_seq fun K2 hK2 => ?_
  refine good_region rfl ?_
  refine ev_q rfl (q_assign (by conv => lhs; whnf) ?_)
  refine ev_nil (hK2 _ ?_); clear hK2
  refine good_seq fun K3 hK3 => ?_
  refine good_region rfl ?_
  refine ev_q rfl (q_move (by conv => lhs; whnf) ?_)
  refine ev_q rfl (q_move (by conv => lhs; whnf) ?_)
  refine ev_q rfl (q_callI rfl rfl rfl (D_laws_szSubstationS _ _ hx hz (by omega)) ?_)
  intro n4 hn4
  refine ev_q rfl (q_assign (by conv => lhs; whnf) ?_)
  refine ev_nil (hK3 _ ?_); clear hK3
  refine good_seq fun K5 hK5 => ?_
  refine good_seq fun K6 hK6 => ?_
  refine good_region rfl ?_
  refine ev_q rfl (q_move (by conv => lhs; whnf) ?_)
  refine ev_q rfl (q_int rfl rfl ?_)
  intro b7 hb7; cases b7
  · replace hb7 := dF hb7
    refine ev_nil (hK6 _ ?_); clear hK6
    refine good_condF rfl ?_
    refine good_skip (hK5 _ ?_); clear hK5
    refine good_seq fun K8 hK8 => ?_
    refine good_region rfl ?_
    refine ev_q rfl (q_move (by conv => lhs; whnf) ?_)
    refine ev_q rfl (q_call rfl rfl rfl (D_laws_toSubstationS _ hx) rfl ?_)
    refine ev_q rfl (q_callB rfl rfl rfl (D_spec_ValidSubstations _ hx hz) ?_)
    intro b9 hb9; cases b9
    · first | replace hb9 := dF hb9 | skip
      refine ev_q rfl (q_assign (by conv => lhs; whnf) ?_)
      refine ev_nil (hK8 _ ?_); clear hK8
      refine good_seq fun K10 hK10 => ?_
      refine good_region rfl ?_
      refine ev_q rfl (q_move (by conv => lhs; whnf) ?_)
      refine ev_q rfl (q_call rfl rfl rfl (D_laws_toSubstationS _ hx) rfl ?_)
      refine ev_q rfl (q_assign (by conv => lhs; whnf) ?_)
      refine ev_nil (hK10 _ ?_); clear hK10
      refine good_seq fun K11 hK11 => ?_
      refine good_region rfl ?_
      refine ev_q rfl (q_move (by conv => lhs; whnf) ?_)
      refine ev_q rfl (q_callB rfl rfl rfl (D_impl_ValidSubstations _ hx hz) ?_)
      intro b12 hb12; cases b12
      · first | replace hb12 := dF hb12 | skip
        refine ev_q rfl (q_assign (by conv => lhs; whnf) ?_)
        refine ev_nil (hK11 _ ?_); clear hK11
        refine good_seq fun K13 hK13 => ?_
        refine good_seq fun K14 hK14 => ?_
        refine good_region rfl ?_
        refine ev_q rfl (q_move (by conv => lhs; whnf) ?_)
        refine ev_q rfl (q_move (by conv => lhs; whnf) ?_)
        refine ev_q rfl (q_bne tB4 rfl rfl ?_)
        intro b15 hb15; replace hb15 : b15 = false := hb15; subst hb15
        refine ev_nil (hK14 _ ?_); clear hK14
        refine good_condF rfl ?_
        refine good_skip (hK13 _ ?_); clear hK13
        refine good_seq fun K16 hK16 => ?_
        refine good_seq fun K17 hK17 => ?_
        refine good_region rfl ?_
        refine ev_q rfl (q_move (by conv => lhs; whnf) ?_)
        refine ev_q rfl (q_move (by conv => lhs; whnf) ?_)
        refine ev_q rfl (q_call rfl rfl rfl (D_laws_toSubstationS _ hx) rfl ?_)
        refine ev_q rfl (q_callB rfl rfl rfl (D_laws_eqSubstationS _ hx) ?_)
        intro b18 hb18; cases b18
        · first | replace hb18 := dF hb18 | skip
          refine ev_q rfl (q_not rfl rfl ?_)
          refine ev_nil (hK17 _ ?_); clear hK17
          refine good_condT rfl ?_
          refine good_seq fun K19 hK19 => ?_
          refine good_region rfl ?_
          refine ev_q rfl (q_assign (by conv => lhs; whnf) ?_)
          refine ev_nil (hK19 _ ?_); clear hK19
          refine good_ret ?_
          repeat (first | refine thenQ_ret ?_ | refine blockQ_ret ?_)
          refine ret_tmp (st := _) rfl (by conv => lhs; whnf) rfl ?_
          clear hK16
          first | rfl | (exfalso; first | omega | contradiction)
        · first | replace hb18 := dT hb18 | skip
          refine ev_q rfl (q_not rfl rfl ?_)
          refine ev_nil (hK17 _ ?_); clear hK17
          refine good_condF rfl ?_
          refine good_skip (hK16 _ ?_); clear hK16
          refine good_seq fun K20 hK20 => ?_
          refine good_region rfl ?_
          refine ev_q rfl (q_assign (by conv => lhs; whnf) ?_)
          refine ev_nil (hK20 _ ?_); clear hK20
          refine good_ret ?_
          repeat (first | refine thenQ_ret ?_ | refine blockQ_ret ?_)
          refine ret_tmp (st := _) rfl (by conv => lhs; whnf) rfl ?_
          first | rfl | (exfalso; first | omega | contradiction)
      · first | replace hb12 := dT hb12 | skip
        refine ev_q rfl (q_assign (by conv => lhs; whnf) ?_)
        refine ev_nil (hK11 _ ?_); clear hK11
        refine good_seq fun K21 hK21 => ?_
        refine good_seq fun K22 hK22 => ?_
        refine good_region rfl ?_
        refine ev_q rfl (q_move (by conv => lhs; whnf) ?_)
        refine ev_q rfl (q_move (by conv => lhs; whnf) ?_)
        refine ev_q rfl (q_bne tB4 rfl rfl ?_)
        intro b23 hb23; replace hb23 : b23 = true := hb23; subst hb23
        refine ev_nil (hK22 _ ?_); clear hK22
        refine good_condT rfl ?_
        refine good_seq fun K24 hK24 => ?_
        refine good_region rfl ?_
        refine ev_q rfl (q_assign (by conv => lhs; whnf) ?_)
        refine ev_nil (hK24 _ ?_); clear hK24
        refine good_ret ?_
        repeat (first | refine thenQ_ret ?_ | refine blockQ_ret ?_)
        refine ret_tmp (st := _) rfl (by conv => lhs; whnf) rfl ?_
        clear hK21
        first | rfl | (exfalso; first | omega | contradiction)
    · first | replace hb9 := dT hb9 | skip
      refine ev_q rfl (q_assign (by conv => lhs; whnf) ?_)
      refine ev_nil (hK8 _ ?_); clear hK8
      refine good_seq fun K25 hK25 => ?_
      refine good_region rfl ?_
      refine ev_q rfl (q_move (by conv => lhs; whnf) ?_)
      refine ev_q rfl (q_call rfl rfl rfl (D_laws_toSubstationS _ hx) rfl ?_)
      refine ev_q rfl (q_assign (by conv => lhs; whnf) ?_)
      refine ev_nil (hK25 _ ?_); clear hK25
      refine good_seq fun K26 hK26 => ?_
      refine good_region rfl ?_
      refine ev_q rfl (q_move (by conv => lhs; whnf) ?_)
      refine ev_q rfl (q_callB rfl rfl rfl (D_impl_ValidSubstations _ hx hz) ?_)
      intro b27 hb27; cases b27
      · first | replace hb27 := dF hb27 | skip
        refine ev_q rfl (q_assign (by conv => lhs; whnf) ?_)
        refine ev_nil (hK26 _ ?_); clear hK26
        refine good_seq fun K28 hK28 => ?_
        refine good_seq fun K29 hK29 => ?_
        refine good_region rfl ?_
        refine ev_q rfl (q_move (by conv => lhs; whnf) ?_)
        refine ev_q rfl (q_move (by conv => lhs; whnf) ?_)
        refine ev_q rfl (q_bne tB4 rfl rfl ?_)
        intro b30 hb30; replace hb30 : b30 = true := hb30; subst hb30
        refine ev_nil (hK29 _ ?_); clear hK29
        refine good_condT rfl ?_
        refine good_seq fun K31 hK31 => ?_
        refine good_region rfl ?_
        refine ev_q rfl (q_assign (by conv => lhs; whnf) ?_)
        refine ev_nil (hK31 _ ?_); clear hK31
        refine good_ret ?_
        repeat (first | refine thenQ_ret ?_ | refine blockQ_ret ?_)
        refine ret_tmp (st := _) rfl (by conv => lhs; whnf) rfl ?_
        clear hK28
        first | rfl | (exfalso; first | omega | contradiction)
      · first | replace hb27 := dT hb27 | skip
        refine ev_q rfl (q_assign (by conv => lhs; whnf) ?_)
        refine ev_nil (hK26 _ ?_); clear hK26
        refine good_seq fun K32 hK32 => ?_
        refine good_seq fun K33 hK33 => ?_
        refine good_region rfl ?_
        refine ev_q rfl (q_move (by conv => lhs; whnf) ?_)
        refine ev_q rfl (q_move (by conv => lhs; whnf) ?_)
        refine ev_q rfl (q_bne tB4 rfl rfl ?_)
        intro b34 hb34; replace hb34 : b34 = false := hb34; subst hb34
        refine ev_nil (hK33 _ ?_); clear hK33
        refine good_condF rfl ?_
        refine good_skip (hK32 _ ?_); clear hK32
        refine good_seq fun K35 hK35 => ?_
        refine good_seq fun K36 hK36 => ?_
        refine good_region rfl ?_
        refine ev_q rfl (q_move (by conv => lhs; whnf) ?_)
        refine ev_q rfl (q_move (by conv => lhs; whnf) ?_)
        refine ev_q rfl (q_call rfl rfl rfl (D_laws_toSubstationS _ hx) rfl ?_)
        refine ev_q rfl (q_callB rfl rfl rfl (D_laws_eqSubstationS _ hx) ?_)
        intro b37 hb37; cases b37
        · first | replace hb37 := dF hb37 | skip
          refine ev_q rfl (q_not rfl rfl ?_)
          refine ev_nil (hK36 _ ?_); clear hK36
          refine good_condT rfl ?_
          refine good_seq fun K38 hK38 => ?_
          refine good_region rfl ?_
          refine ev_q rfl (q_assign (by conv => lhs; whnf) ?_)
          refine ev_nil (hK38 _ ?_); clear hK38
          refine good_ret ?_
          repeat (first | refine thenQ_ret ?_ | refine blockQ_ret ?_)
          refine ret_tmp (st := _) rfl (by conv => lhs; whnf) rfl ?_
          clear hK35
          first | rfl | (exfalso; first | omega | contradiction)
        · first | replace hb37 := dT hb37 | skip
          refine ev_q rfl (q_not rfl rfl ?_)
          refine ev_nil (hK36 _ ?_); clear hK36
          refine good_condF rfl ?_
          refine good_skip (hK35 _ ?_); clear hK35
          refine good_seq fun K39 hK39 => ?_
          refine good_region rfl ?_
          refine ev_q rfl (q_assign (by conv => lhs; whnf) ?_)
          refine ev_nil (hK39 _ ?_); clear hK39
          refine good_ret ?_
          repeat (first | refine thenQ_ret ?_ | refine blockQ_ret ?_)
          refine ret_tmp (st := _) rfl (by conv => lhs; whnf) rfl ?_
          first | rfl | (exfalso; first | omega | contradiction)
  · replace hb7 := dT hb7
    refine ev_nil (hK6 _ ?_); clear hK6
    refine good_condT rfl ?_
    refine good_seq fun K40 hK40 => ?_
    refine good_region rfl ?_
    refine ev_q rfl (q_assign (by conv => lhs; whnf) ?_)
    refine ev_nil (hK40 _ ?_); clear hK40
    refine good_ret ?_
    repeat (first | refine thenQ_ret ?_ | refine blockQ_ret ?_)
    refine ret_tmp (st := _) rfl (by conv => lhs; whnf) rfl ?_
    clear hK5
    first | rfl | (exfalso; first | omega | contradiction)

end Go.Proofs.Ythhajcpgbcpbmaa.DFnExactValidSubstations
