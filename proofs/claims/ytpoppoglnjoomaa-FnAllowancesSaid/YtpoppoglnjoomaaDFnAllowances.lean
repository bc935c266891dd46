/- Walks through the functions that FnAllowances reaches: what each answers. -/
import Derived.Test.YtpoppoglnjoomaaEvO
import Derived.Test.YtpoppoglnjoomaaProg
set_option linter.unusedVariables false
set_option linter.unusedSimpArgs false
namespace Go.Proofs.Ytpoppoglnjoomaa.DFnAllowances
open Go Go.RowKit Go.Proofs Go.Proofs.Ytpoppoglnjoomaa Go.Proofs.Ytpoppoglnjoomaa.Ev
def ci (n : Int) : AV := .s (.int .i64 n)
def within (xs : List Int) (lo hi : Int) : Prop := ∀ (j : Nat) (q : Int), xs[j]? = some q → lo ≤ q ∧ q ≤ hi
noncomputable instance (xs : List Int) (lo hi : Int) : Decidable (within xs lo hi) := Classical.propDecidable _
theorem all_extI {α : Type} {xs : List α} {i : Nat} {Q : Nat → α → Prop} {p : α} (hJ : ∀ j q, j < i → xs[j]? = some q → Q j q) (hp : xs[i]? = some p) (h : Q i p) : ∀ j q, j < i + 1 → xs[j]? = some q → Q j q := by
  intro j q hj hq
  by_cases e : j = i
  · subst e; rw [hp] at hq; cases hq; exact h
  · exact hJ j q (by omega) hq
theorem all_finI {α : Type} {xs : List α} {i : Nat} {Q : Nat → α → Prop} (hJ : ∀ j q, j < i → xs[j]? = some q → Q j q) (hi : xs.length ≤ i) : ∀ j q, xs[j]? = some q → Q j q := by
  intro j q hq
  exact hJ j q (by have := (List.getElem?_eq_some_iff.1 hq).1; omega) hq
theorem fi_some {α : Type} {xs : List α} {p : α → Prop} [DecidablePred p] {i : Nat} {q : α} (hq : xs[i]? = some q) (hJ : ∀ (j : Nat) (q : α), j < i → xs[j]? = some q → ¬ p q) (h : p q) : xs.findIdx? (fun x => decide (p x)) = some i := by
  rw [List.findIdx?_eq_some_iff_getElem]
  obtain ⟨hl, he⟩ := List.getElem?_eq_some_iff.1 hq
  refine ⟨hl, by simpa [he] using h, fun j hj => ?_⟩
  simpa using hJ j _ hj (List.getElem?_eq_getElem (by omega))
theorem fi_none {α : Type} {xs : List α} {p : α → Prop} [DecidablePred p] (hJ : ∀ (j : Nat) (q : α), xs[j]? = some q → ¬ p q) : xs.findIdx? (fun x => decide (p x)) = none := by
  rw [List.findIdx?_eq_none_iff]
  intro x hx
  obtain ⟨j, hj⟩ := List.getElem?_of_mem hx
  simpa using hJ j x hj
theorem fi_any {α : Type} {xs : List α} {p : α → Prop} [DecidablePred p] : (0 : Int) ≤ (match xs.findIdx? (fun x => decide (p x)) with | some j => (j : Int) | none => -1) ↔ ∃ x ∈ xs, p x := by
  cases h : xs.findIdx? (fun x => decide (p x)) with
  | none =>
    rw [List.findIdx?_eq_none_iff] at h
    simp at h ⊢
    exact h
  | some j =>
    rw [List.findIdx?_eq_some_iff_getElem] at h
    obtain ⟨hl, h1, _⟩ := h
    simp only [Int.natCast_nonneg, true_iff]
    exact ⟨_, List.getElem_mem hl, by simpa using h1⟩
theorem within_any {xs : List Int} {lo hi : Int} : within xs lo hi ↔ ¬ ∃ x ∈ xs, ¬ (lo ≤ x ∧ x ≤ hi) := by
  constructor
  · intro h ⟨x, hx, hn⟩
    obtain ⟨j, hj⟩ := List.getElem?_of_mem hx
    exact hn (h j x hj)
  · intro h j q hq
    apply Classical.byContradiction
    intro hn
    exact h ⟨q, List.mem_of_getElem? hq, hn⟩
def alS (free : Int) (s : Int × Int) (u : Int) : Int × Int := let n := s.1 + (free - u); (if n < 0 then 0 else n, if n < 0 then s.2 - n else s.2)
def alF (free : Int) (xs : List Int) : Int × Int := xs.foldl (alS free) (0, 0)
def alG (free : Int) (xs : List Int) (i : Nat) : Int × Int := alF free (xs.take i)
theorem alG_step {free : Int} {xs : List Int} {i : Nat} {p : Int} (h : xs[i]? = some p) : alG free xs (i + 1) = alS free (alG free xs i) p := by
  obtain ⟨hl, he⟩ := List.getElem?_eq_some_iff.1 h
  unfold alG alF
  rw [List.take_add_one, h]
  simp
theorem alG_bd {free : Int} {xs : List Int} (hf : 0 ≤ free ∧ free ≤ 1000000000000) (hw : within xs 0 1000000000000) : ∀ i : Nat, i ≤ xs.length → (0 ≤ (alG free xs i).1 ∧ (alG free xs i).1 ≤ i * 1000000000000) ∧ (0 ≤ (alG free xs i).2 ∧ (alG free xs i).2 ≤ i * 1000000000000)
  | 0, _ => by simp [alG, alF]
  | i + 1, h => by
    have ih := alG_bd hf hw i (by omega)
    have hp : xs[i]? = some (xs[i]'(by omega)) := List.getElem?_eq_getElem (by omega)
    have hq := hw i _ hp
    rw [alG_step hp]
    generalize xs[i]'(by omega) = u at hq
    simp only [alS]
    omega
theorem alG_all {free : Int} {xs : List Int} {i : Nat} (h : xs.length ≤ i) : alG free xs i = alF free xs := by
  unfold alG; rw [List.take_of_length_le h]
def alOk (free price : Int) (xs : List Int) : Prop := (0 ≤ free ∧ free ≤ 1000000000000) ∧ (0 ≤ price ∧ price ≤ 1000) ∧ xs.length ≤ 64 ∧ within xs 0 1000000000000
noncomputable instance (f p : Int) (xs : List Int) : Decidable (alOk f p xs) := Classical.propDecidable _
theorem mulB3 {a b : Int} (ha : 0 ≤ a ∧ a ≤ 100000000000000) (hb : 0 ≤ b ∧ b ≤ 1000) : 0 ≤ a * b ∧ a * b ≤ 100000000000000000 := by
  have := mulB ha.1 ha.2 hb.1 hb.2; omega
def alL (free : Int) (xs : List Int) (i : Nat) : List Int := (List.range i).map fun j => (alG free xs (j + 1)).1
theorem alL_succ {free : Int} {xs : List Int} {i : Nat} : alL free xs (i + 1) = alL free xs i ++ [(alG free xs (i + 1)).1] := by
  unfold alL; rw [List.range_succ, List.map_append]; rfl
theorem alL_len {free : Int} {xs : List Int} {i : Nat} : (alL free xs i).length = i := by simp [alL]
theorem appEq {f : Int → AV} {l : List Int} {l2 : List Int} {n m : Int} (h : l2 = l ++ [m]) (e : n = m) : l.map f ++ [f n] = l2.map f := by subst h; subst e; simp
def cb (n : Int) : AV := .s (.int .u8 n)
def src (cs : List Int) (a s : Int) : List AV := [.lst 1 (cs.map cb), .s (.int .i64 a), .s (.int .u64 s)]
theorem repC {n : Nat} : List.replicate n (zelem [AV.s (.int .i64 0)]) = (List.replicate n (0 : Int)).map ci := by rw [List.map_replicate]; rfl
def byteL (cs : List Int) : Prop := ∀ x ∈ cs, 0 ≤ x ∧ x ≤ 255
theorem and255 {x n : Int} (h : n = bitsI .and .u64 x 255) : 0 ≤ n ∧ n ≤ 255 := by
  subst h
  simp only [bitsI]
  have h1 : ((BitVec.ofInt IntKind.u64.bits x) &&& (BitVec.ofInt IntKind.u64.bits 255)).toNat ≤ 255 := by
    rw [BitVec.toNat_and]
    exact Nat.le_trans Nat.and_le_right (by decide)
  generalize ((BitVec.ofInt IntKind.u64.bits x) &&& (BitVec.ofInt IntKind.u64.bits 255)).toNat = m at h1
  have e : IntKind.u64.wrap (m : Int) = (m : Int) % 18446744073709551616 := by simp [IntKind.wrap, IntKind.bits, IntKind.signed]
  rw [e]; omega
theorem alL_get {free : Int} {xs : List Int} {n j : Nat} (h : j < n) : (alL free xs n)[j]? = some (alG free xs (j + 1)).1 := by simp [alL, h]
noncomputable def alLf (free : Int) (xs : List Int) : List Int := if alOk free 0 xs then alL free xs xs.length else []
theorem alLf_ok {free : Int} {xs : List Int} (h : alOk free 0 xs) : alLf free xs = alL free xs xs.length := if_pos h
theorem alLf_no {free : Int} {xs : List Int} (h : ¬ alOk free 0 xs) : alLf free xs = [] := if_neg h
def sumG (xs : List Int) : Nat → Int
  | 0 => 0
  | n + 1 => sumG xs n + (match xs[n]? with
    | some u => u
    | none => 0)
theorem sumG_s {xs : List Int} {n : Nat} {u : Int} (h : xs[n]? = some u) : sumG xs (n + 1) = sumG xs n + u := by rw [sumG, h]
theorem sumG_bd {xs : List Int} (hw : within xs 0 1000000000000) : ∀ i : Nat, i ≤ xs.length → 0 ≤ sumG xs i ∧ sumG xs i ≤ i * 1000000000000
  | 0, _ => by simp [sumG]
  | i + 1, h => by
    have ih := sumG_bd hw i (by omega)
    have hp : xs[i]? = some (xs[i]'(by omega)) := List.getElem?_eq_getElem (by omega)
    have := hw i _ hp
    rw [sumG_s hp]; omega
theorem alInv {free : Int} {xs : List Int} : ∀ i : Nat, i ≤ xs.length → free * i + (alG free xs i).2 = sumG xs i + (alG free xs i).1
  | 0, _ => by simp [sumG, alG, alF]
  | i + 1, h => by
    have ih := alInv (free := free) (xs := xs) i (by omega)
    have hp : xs[i]? = some (xs[i]'(by omega)) := List.getElem?_eq_getElem (by omega)
    rw [alG_step hp, sumG_s hp]
    have e : free * ((i + 1 : Nat) : Int) = free * i + free := by rw [Int.natCast_add, Int.mul_add]; simp
    rw [e]
    generalize xs[i]'(by omega) = u
    generalize free * (i : Int) = z at ih
    simp only [alS]
    split <;> omega
theorem alw {f p : Int} {x : List Int} {n27 n32 n33 n39 n40 : Int} (h27 : n27 = if alOk f 0 x then 0 else 2) (h32 : n32 = if alOk f 1 x then (alF f x).2 * 1 else 0) (h33 : n33 = if alOk f 1 x then 0 else 2) (h39 : n39 = if alOk f p x then (alF f x).2 * p else 0) (h40 : n40 = if alOk f p x then 0 else 2) :
    n27 = n33 ∧ (¬ n27 = 0 → (alLf f x).length = 0 ∧ n32 = 0 ∧ n40 = n27) ∧ (n27 = 0 → alOk f 0 x ∧ n32 = (alF f x).2 ∧ (alLf f x).length = x.length) ∧ (n40 = 0 → n39 = n32 * p ∧ 0 ≤ p ∧ p ≤ 1000) := by
  by_cases h0 : alOk f 0 x
  · have h1 : alOk f 1 x := ⟨h0.1, by omega, h0.2.2⟩
    rw [if_pos h0] at h27; rw [if_pos h1] at h32 h33
    refine ⟨by omega, fun h => absurd h27 h, fun _ => ⟨h0, by omega, by rw [alLf_ok h0, alL_len]⟩, fun h => ?_⟩
    by_cases hp : alOk f p x
    · rw [if_pos hp] at h39; exact ⟨by rw [h39, h32, Int.mul_one], hp.2.1⟩
    · rw [if_neg hp] at h40; omega
  · have h1 : ¬ alOk f 1 x := fun h => h0 ⟨h.1, by omega, h.2.2⟩
    have hp : ¬ alOk f p x := fun h => h0 ⟨h.1, by omega, h.2.2⟩
    rw [if_neg h0] at h27; rw [if_neg h1] at h32 h33; rw [if_neg hp] at h39 h40
    exact ⟨by omega, fun _ => ⟨by rw [alLf_no h0]; rfl, h32, by omega⟩, fun h => by omega, fun h => by omega⟩
theorem fO133_0 : fOff Try.prog 133 0 = some 0 := by kernel_rfl
theorem fO133_1 : fOff Try.prog 133 1 = some 1 := by kernel_rfl
theorem fO133_2 : fOff Try.prog 133 2 = some 2 := by kernel_rfl
theorem hmix : Try.prog.follows .mixedOrders = true := by kernel_rfl
theorem pl133 : placesA Try.prog 133 = some [(0, 1), (1, 1), (2, 1)] := by kernel_rfl
theorem sz131 : tSz Try.prog 131 = some 1 := by kernel_rfl
theorem sz3 : tSz Try.prog 3 = some 1 := by kernel_rfl
theorem tA131 : tAgg Try.prog 131 = some none := by kernel_rfl
theorem tA2 : tAgg Try.prog 2 = some none := by kernel_rfl
theorem tA3 : tAgg Try.prog 3 = some none := by kernel_rfl
theorem tA5 : tAgg Try.prog 5 = some none := by kernel_rfl
theorem tA59 : tAgg Try.prog 59 = some none := by kernel_rfl
theorem tApp22 : tApp Try.prog 22 = some (2, 1, 8) := by kernel_rfl
theorem tBy2 : tBytes Try.prog 2 = some 8 := by kernel_rfl
theorem tE22 : tElem Try.prog 22 = some (2, 1) := by kernel_rfl
theorem tE59 : tElem Try.prog 59 = some (5, 1) := by kernel_rfl
theorem tEs22 : (tElem Try.prog 22).isSome = true := by kernel_rfl
theorem tEs59 : (tElem Try.prog 59).isSome = true := by kernel_rfl
theorem tK131 : tKind Try.prog 131 = some .u64 := by kernel_rfl
theorem tK2 : tKind Try.prog 2 = some .i64 := by kernel_rfl
theorem tK3 : tKind Try.prog 3 = some .i64 := by kernel_rfl
theorem tK5 : tKind Try.prog 5 = some .u8 := by kernel_rfl
theorem zA133 : zeroA Try.prog 133 = some [.nil, .s (.int .i64 0), .s (.int .u64 0)] := by kernel_rfl
theorem zA2 : zeroA Try.prog 2 = some [.s (.int .i64 0)] := by kernel_rfl

-- impl.within
set_option maxRecDepth 20000 in
set_option maxHeartbeats 2000000 in
theorem D_impl_within (a lo hi : Int)  : Den Try.prog 76 [.s (.int .i64 a), .s (.int .i64 lo), .s (.int .i64 hi)] (.s (.bool (decide (lo ≤ a ∧ a ≤ hi)))) := by
  refine den_of_good Try.func76 (by decide) rfl (Nat.le_of_ble_eq_true rfl) (Nat.le_of_ble_eq_true rfl) ?_
  refine good_seq fun K1 hK1 => ?_
  refine good_region rfl ?_
  refine ev_q rfl (q_assign (by conv => lhs; whnf) ?_)
  refine ev_nil (hK1 _ ?_); clear hK1
  refine good_seq fun K2 hK2 => ?_
  refine good_region rfl ?_
  refine ev_q rfl (q_move (by conv => lhs; whnf) ?_)
  refine ev_q rfl (q_move (by conv => lhs; whnf) ?_)
  refine ev_q rfl (q_int rfl rfl ?_)
  intro b3 hb3; cases b3
  · replace hb3 := dF hb3
    refine ev_q rfl (q_move (by conv => lhs; whnf) ?_)
    refine ev_skip rfl ?_
    refine ev_skip rfl ?_
    refine ev_skip rfl ?_
    refine ev_q rfl (q_pickF rfl (by conv => lhs; whnf) ?_)
    refine ev_q rfl (q_assign (by conv => lhs; whnf) ?_)
    refine ev_nil (hK2 _ ?_); clear hK2
    refine good_ret ?_
    repeat (first | refine thenQ_ret ?_ | refine blockQ_ret ?_)
    refine ret_tmp (st := _) rfl (by conv => lhs; whnf) rfl ?_
    first | rfl | exact fT (by first | omega | grind) | exact fF (by first | omega | grind) | exact fT' (by first | omega | grind) | (exfalso; first | omega | grind)
  · replace hb3 := dT hb3
    refine ev_q rfl (q_move (by conv => lhs; whnf) ?_)
    refine ev_q rfl (q_move (by conv => lhs; whnf) ?_)
    refine ev_q rfl (q_move (by conv => lhs; whnf) ?_)
    refine ev_q rfl (q_int rfl rfl ?_)
    intro b4 hb4; cases b4
    · replace hb4 := dF hb4
      refine ev_q rfl (q_pickT rfl (by conv => lhs; whnf) ?_)
      refine ev_q rfl (q_assign (by conv => lhs; whnf) ?_)
      refine ev_nil (hK2 _ ?_); clear hK2
      refine good_ret ?_
      repeat (first | refine thenQ_ret ?_ | refine blockQ_ret ?_)
      refine ret_tmp (st := _) rfl (by conv => lhs; whnf) rfl ?_
      first | rfl | exact fT (by first | omega | grind) | exact fF (by first | omega | grind) | exact fT' (by first | omega | grind) | (exfalso; first | omega | grind)
    · replace hb4 := dT hb4
      refine ev_q rfl (q_pickT rfl (by conv => lhs; whnf) ?_)
      refine ev_q rfl (q_assign (by conv => lhs; whnf) ?_)
      refine ev_nil (hK2 _ ?_); clear hK2
      refine good_ret ?_
      repeat (first | refine thenQ_ret ?_ | refine blockQ_ret ?_)
      refine ret_tmp (st := _) rfl (by conv => lhs; whnf) rfl ?_
      first | rfl | exact fT (by first | omega | grind) | exact fF (by first | omega | grind) | exact fT' (by first | omega | grind) | (exfalso; first | omega | grind)

-- spec.l00In
set_option maxRecDepth 20000 in
set_option maxHeartbeats 2000000 in
theorem D_spec_l00In (a lo hi : Int)  : Den Try.prog 73 [.s (.int .i64 a), .s (.int .i64 lo), .s (.int .i64 hi)] (.s (.bool (decide (lo ≤ a ∧ a ≤ hi)))) := by
  refine den_of_good Try.func73 (by decide) rfl (Nat.le_of_ble_eq_true rfl) (Nat.le_of_ble_eq_true rfl) ?_
  refine good_seq fun K1 hK1 => ?_
  refine good_region rfl ?_
  refine ev_q rfl (q_assign (by conv => lhs; whnf) ?_)
  refine ev_nil (hK1 _ ?_); clear hK1
  refine good_seq fun K2 hK2 => ?_
  refine good_region rfl ?_
  refine ev_q rfl (q_move (by conv => lhs; whnf) ?_)
  refine ev_q rfl (q_move (by conv => lhs; whnf) ?_)
  refine ev_q rfl (q_int rfl rfl ?_)
  intro b3 hb3; cases b3
  · replace hb3 := dF hb3
    refine ev_q rfl (q_move (by conv => lhs; whnf) ?_)
    refine ev_skip rfl ?_
    refine ev_skip rfl ?_
    refine ev_skip rfl ?_
    refine ev_q rfl (q_pickF rfl (by conv => lhs; whnf) ?_)
    refine ev_q rfl (q_assign (by conv => lhs; whnf) ?_)
    refine ev_nil (hK2 _ ?_); clear hK2
    refine good_ret ?_
    repeat (first | refine thenQ_ret ?_ | refine blockQ_ret ?_)
    refine ret_tmp (st := _) rfl (by conv => lhs; whnf) rfl ?_
    first | rfl | exact fT (by first | omega | grind) | exact fF (by first | omega | grind) | exact fT' (by first | omega | grind) | (exfalso; first | omega | grind)
  · replace hb3 := dT hb3
    refine ev_q rfl (q_move (by conv => lhs; whnf) ?_)
    refine ev_q rfl (q_move (by conv => lhs; whnf) ?_)
    refine ev_q rfl (q_move (by conv => lhs; whnf) ?_)
    refine ev_q rfl (q_int rfl rfl ?_)
    intro b4 hb4; cases b4
    · replace hb4 := dF hb4
      refine ev_q rfl (q_pickT rfl (by conv => lhs; whnf) ?_)
      refine ev_q rfl (q_assign (by conv => lhs; whnf) ?_)
      refine ev_nil (hK2 _ ?_); clear hK2
      refine good_ret ?_
      repeat (first | refine thenQ_ret ?_ | refine blockQ_ret ?_)
      refine ret_tmp (st := _) rfl (by conv => lhs; whnf) rfl ?_
      first | rfl | exact fT (by first | omega | grind) | exact fF (by first | omega | grind) | exact fT' (by first | omega | grind) | (exfalso; first | omega | grind)
    · replace hb4 := dT hb4
      refine ev_q rfl (q_pickT rfl (by conv => lhs; whnf) ?_)
      refine ev_q rfl (q_assign (by conv => lhs; whnf) ?_)
      refine ev_nil (hK2 _ ?_); clear hK2
      refine good_ret ?_
      repeat (first | refine thenQ_ret ?_ | refine blockQ_ret ?_)
      refine ret_tmp (st := _) rfl (by conv => lhs; whnf) rfl ?_
      first | rfl | exact fT (by first | omega | grind) | exact fF (by first | omega | grind) | exact fT' (by first | omega | grind) | (exfalso; first | omega | grind)

-- impl.allWithin$1
set_option maxRecDepth 20000 in
set_option maxHeartbeats 2000000 in
theorem D_impl_allWithin_1 (a lo hi : Int)  : Den Try.prog 116 [.s (.int .i64 a), .rp [.s (.int .i64 lo)], .rp [.s (.int .i64 hi)]] (.s (.bool (decide (¬ (lo ≤ a ∧ a ≤ hi))))) := by
  refine den_of_good Try.func116 (by decide) rfl (Nat.le_of_ble_eq_true rfl) (Nat.le_of_ble_eq_true rfl) ?_
  refine good_seq fun K1 hK1 => ?_
  refine good_region rfl ?_
  refine ev_q rfl (q_assign (by conv => lhs; whnf) ?_)
  refine ev_nil (hK1 _ ?_); clear hK1
  refine good_seq fun K2 hK2 => ?_
  refine good_region rfl ?_
  refine ev_q rfl (q_move (by conv => lhs; whnf) ?_)
  refine ev_q rfl (q_load tA2 rfl ?_)
  refine ev_q rfl (q_load tA2 rfl ?_)
  refine ev_q rfl (q_callB rfl rfl (rfl) (D_impl_within ..) ?_)
  intro b3 hb3; cases b3
  · first | replace hb3 := dF hb3 | skip
    refine ev_q rfl (q_not rfl rfl ?_)
    refine ev_q rfl (q_assign (by conv => lhs; whnf) ?_)
    refine ev_nil (hK2 _ ?_); clear hK2
    refine good_ret ?_
    repeat (first | refine thenQ_ret ?_ | refine blockQ_ret ?_)
    refine ret_tmp (st := _) rfl (by conv => lhs; whnf) rfl ?_
    first | rfl | exact fT (by first | omega | grind) | exact fF (by first | omega | grind) | exact fT' (by first | omega | grind) | (exfalso; first | omega | grind)
  · first | replace hb3 := dT hb3 | skip
    refine ev_q rfl (q_not rfl rfl ?_)
    refine ev_q rfl (q_assign (by conv => lhs; whnf) ?_)
    refine ev_nil (hK2 _ ?_); clear hK2
    refine good_ret ?_
    repeat (first | refine thenQ_ret ?_ | refine blockQ_ret ?_)
    refine ret_tmp (st := _) rfl (by conv => lhs; whnf) rfl ?_
    first | rfl | exact fT (by first | omega | grind) | exact fF (by first | omega | grind) | exact fT' (by first | omega | grind) | (exfalso; first | omega | grind)

-- slices.IndexFunc[[]int64,int64]
set_option maxRecDepth 20000 in
set_option maxHeartbeats 2000000 in
theorem D_slices_IndexFunc_int64_int64 (f : Nat) (caps : List AV) (p : Int → Prop) [DecidablePred p] (xs : List Int) (hx : xs.length ≤ 17592186044416) (hf : ∀ x ∈ xs, Den Try.prog f (.s (.int .i64 x) :: caps) (.s (.bool (decide (p x))))) : Den Try.prog 138 [.lst 1 (xs.map ci), .fn f caps] (.s (.int .i64 ((match xs.findIdx? (fun x => decide (p x)) with | some j => (j : Int) | none => -1)))) := by
  refine den_of_good Try.func138 (by decide) rfl (Nat.le_of_ble_eq_true rfl) (Nat.le_of_ble_eq_true rfl) ?_
  refine good_seq fun K1 hK1 => ?_
  refine good_region rfl ?_
  refine ev_q rfl (q_assign (by conv => lhs; whnf) ?_)
  refine ev_nil (hK1 _ ?_); clear hK1
  refine good_seq fun K2 hK2 => ?_
  refine good_seq fun K3 hK3 => ?_
  refine good_region rfl ?_
  refine ev_q rfl (q_move (by conv => lhs; whnf) ?_)
  refine ev_q rfl (q_len tEs22 rfl ?_)
  intro n4 hn4
  try simp only [List.length_map] at hn4
  refine ev_q rfl (q_move (by conv => lhs; whnf) ?_)
  refine ev_nil (hK3 _ ?_); clear hK3
  refine good_block ?_
  refine good_loop (α := Nat) (fun i => { env := upd (upd (upd (upd ((fun _ => .junk)) 0 (.lst 1 (xs.map ci))) 1 (.fn f caps)) 7 (.s (.int .i64 ((xs.length : Int))))) 8 (.s (.int .i64 i)), H := fun _ => none }) (fun i => i ≤ xs.length ∧ ∀ j q, j < i → xs[j]? = some q → ¬ p q) (fun i => xs.length - i) 0 ?_ ?_ ?_
  · exact ⟨by omega, fun j u hj => by omega⟩
  · refine sub_weak ?_ ?_
    · exact weakH_none _
    · refine weakE_upd ?e8 ?r8 (weakE_upd ?e7 ?r7 (weakE_upd ?e1 ?r1 (weakE_upd ?e0 ?r0 (weakE_junk _ _))))
      case e0 => first | rfl | exact fI (by omega) | (simp_all)
      case r0 => intro h hh; cases hh
      case e1 => first | rfl | exact fI (by omega) | (simp_all)
      case r1 => intro h hh; cases hh
      case e7 => first | rfl | exact fI (by omega) | (simp_all)
      case r7 => intro h hh; cases hh
      case e8 => first | rfl | exact fI (by omega) | (simp_all)
      case r8 => intro h hh; cases hh
  · rintro i ⟨hI, hJ⟩
    refine good_seq fun K5 hK5 => ?_
    refine good_region rfl ?_
    refine ev_q rfl (q_int rfl rfl ?_)
    intro b6 hb6; cases b6
    · replace hb6 := dF hb6
      refine ev_nil (hK5 _ ?_); clear hK5
      refine good_seq fun K7 hK7 => ?_
      refine good_condF rfl ?_
      refine good_exit ?_
      repeat (first | refine thenQ_exit ?_ | refine blockQ_pass rfl ?_)
      refine blockQ_exit (hK2 _ ?_); clear hK2
      refine good_seq fun K8 hK8 => ?_
      refine good_region rfl ?_
      refine ev_q rfl (q_assign (by conv => lhs; whnf) ?_)
      refine ev_nil (hK8 _ ?_); clear hK8
      refine good_ret ?_
      repeat (first | refine thenQ_ret ?_ | refine blockQ_ret ?_)
      refine ret_tmp (st := _) rfl (by conv => lhs; whnf) rfl ?_
      clear hK7
      first | exact fI (by have e := fi_some (i := i) hq hJ (by assumption); simp only [e]) | exact fI (by have e := fi_none (all_finI (Q := fun _ q => ¬ p q) hJ (by omega)); simp only [e])
    · replace hb6 := dT hb6
      obtain ⟨q, hq⟩ := getL (xs := xs) (n := (i : Int)) (by omega) (by omega)
      replace hq : xs[i]? = some q := hq
      refine ev_nil (hK5 _ ?_); clear hK5
      refine good_seq fun K9 hK9 => ?_
      refine good_condT rfl ?_
      refine good_skip (hK9 _ ?_); clear hK9
      refine good_seq fun K10 hK10 => ?_
      refine good_block ?_
      refine good_seq fun K11 hK11 => ?_
      refine good_region rfl ?_
      refine ev_q rfl (q_move (by conv => lhs; whnf) ?_)
      refine ev_q rfl (q_assign (by conv => lhs; whnf) ?_)
      refine ev_nil (hK11 _ ?_); clear hK11
      refine good_seq fun K12 hK12 => ?_
      refine good_region rfl ?_
      refine ev_q rfl (q_move (by conv => lhs; whnf) ?_)
      refine ev_q rfl (q_move (by conv => lhs; whnf) ?_)
      refine ev_q rfl (q_move (by conv => lhs; whnf) ?_)
      refine ev_q rfl (q_idx tE22 rfl rfl (by exact Int.natCast_nonneg _) (by exact map_get hq) rfl ?_)
      refine ev_q rfl (q_load tA2 rfl ?_)
      refine ev_q rfl (q_callB rfl rfl (rfl) (hf _ (List.mem_of_getElem? hq)) ?_)
      intro b13 hb13; cases b13
      · first | replace hb13 := dF hb13 | skip
        refine ev_nil (hK12 _ ?_); clear hK12
        refine good_condF rfl ?_
        refine good_skip (hK10 _ ?_); clear hK10
        refine good_region rfl ?_
        refine ev_q rfl (q_int rfl rfl ?_)
        intro n14 hn14
        replace hn14 := in64 hn14 (by omega) (by omega)
        refine ev_q rfl (q_move (by conv => lhs; whnf) ?_)
        refine ev_nil ?_
        clear hK2
        refine ⟨i + 1, ?_, ?_, ?_⟩
        · exact ⟨by omega, all_extI (Q := fun _ q => ¬ p q) hJ hq (by assumption)⟩
        · first | omega | (simp only []; omega) | (dsimp only; omega)
        · refine sub_weak ?_ ?_
          · exact weakH_none _
          · refine weakE_upd ?e8 ?r8 (weakE_upd ?e7 ?r7 (weakE_upd ?e1 ?r1 (weakE_upd ?e0 ?r0 (weakE_junk _ _))))
            case e0 => first | rfl | exact fI (by omega) | (simp_all)
            case r0 => intro h hh; cases hh
            case e1 => first | rfl | exact fI (by omega) | (simp_all)
            case r1 => intro h hh; cases hh
            case e7 => first | rfl | exact fI (by omega) | (simp_all)
            case r7 => intro h hh; cases hh
            case e8 => first | rfl | exact fI (by omega) | (simp_all)
            case r8 => intro h hh; cases hh
      · first | replace hb13 := dT hb13 | skip
        refine ev_nil (hK12 _ ?_); clear hK12
        refine good_condT rfl ?_
        refine good_seq fun K15 hK15 => ?_
        refine good_region rfl ?_
        refine ev_q rfl (q_move (by conv => lhs; whnf) ?_)
        refine ev_q rfl (q_assign (by conv => lhs; whnf) ?_)
        refine ev_nil (hK15 _ ?_); clear hK15
        refine good_ret ?_
        repeat (first | refine thenQ_ret ?_ | refine blockQ_ret ?_)
        refine ret_tmp (st := _) rfl (by conv => lhs; whnf) rfl ?_
        clear hK2 hK10
        first | exact fI (by have e := fi_some (i := i) hq hJ (by assumption); simp only [e]) | exact fI (by have e := fi_none (all_finI (Q := fun _ q => ¬ p q) hJ (by omega)); simp only [e])

-- slices.ContainsFunc[[]int64,int64]
set_option maxRecDepth 20000 in
set_option maxHeartbeats 2000000 in
theorem D_slices_ContainsFunc_int64_int64 (f : Nat) (caps : List AV) (p : Int → Prop) [DecidablePred p] (xs : List Int) [Decidable (∃ x ∈ xs, p x)] (hx : xs.length ≤ 17592186044416) (hf : ∀ x ∈ xs, Den Try.prog f (.s (.int .i64 x) :: caps) (.s (.bool (decide (p x))))) : Den Try.prog 115 [.lst 1 (xs.map ci), .fn f caps] (.s (.bool (decide (∃ x ∈ xs, p x)))) := by
  refine den_of_good Try.func115 (by decide) rfl (Nat.le_of_ble_eq_true rfl) (Nat.le_of_ble_eq_true rfl) ?_
  refine good_seq fun K1 hK1 => ?_
  refine good_region rfl ?_
  refine ev_q rfl (q_assign (by conv => lhs; whnf) ?_)
  refine ev_nil (hK1 _ ?_); clear hK1
  refine good_seq fun K2 hK2 => ?_
  refine good_region rfl ?_
  refine ev_q rfl (q_move (by conv => lhs; whnf) ?_)
  refine ev_q rfl (q_move (by conv => lhs; whnf) ?_)
  refine ev_q rfl (q_callI rfl rfl (rfl) (D_slices_IndexFunc_int64_int64 f caps p xs hx hf) ?_)
  intro n3 hn3
  refine ev_q rfl (q_int rfl rfl ?_)
  intro b4 hb4; cases b4
  · replace hb4 := dF hb4
    refine ev_q rfl (q_assign (by conv => lhs; whnf) ?_)
    refine ev_nil (hK2 _ ?_); clear hK2
    refine good_ret ?_
    repeat (first | refine thenQ_ret ?_ | refine blockQ_ret ?_)
    refine ret_tmp (st := _) rfl (by conv => lhs; whnf) rfl ?_
    first | exact fT (fi_any.1 (by omega)) | exact fF (fun h => absurd (fi_any.2 h) (by omega))
  · replace hb4 := dT hb4
    refine ev_q rfl (q_assign (by conv => lhs; whnf) ?_)
    refine ev_nil (hK2 _ ?_); clear hK2
    refine good_ret ?_
    repeat (first | refine thenQ_ret ?_ | refine blockQ_ret ?_)
    refine ret_tmp (st := _) rfl (by conv => lhs; whnf) rfl ?_
    first | exact fT (fi_any.1 (by omega)) | exact fF (fun h => absurd (fi_any.2 h) (by omega))

-- impl.allWithin
set_option maxRecDepth 20000 in
set_option maxHeartbeats 2000000 in
theorem D_impl_allWithin (xs : List Int) (lo hi : Int) (hx : xs.length ≤ 17592186044416) : Den Try.prog 65 [.lst 1 (xs.map ci), .s (.int .i64 lo), .s (.int .i64 hi)] (.s (.bool (decide (within xs lo hi)))) := by
  classical
  refine den_of_good Try.func65 (by decide) rfl (Nat.le_of_ble_eq_true rfl) (Nat.le_of_ble_eq_true rfl) ?_
  refine good_seq fun K1 hK1 => ?_
  refine good_region rfl ?_
  refine ev_k rfl (k_box (by conv => lhs; whnf) rfl rfl rfl ?_)
  refine ev_k rfl (k_box (by conv => lhs; whnf) rfl rfl rfl ?_)
  refine ev_q rfl (q_assign (by conv => lhs; whnf) ?_)
  refine ev_nil (hK1 _ ?_); clear hK1
  refine good_seq fun K2 hK2 => ?_
  refine good_region rfl ?_
  refine ev_q rfl (q_move (by conv => lhs; whnf) ?_)
  refine ev_q rfl (q_clo rfl rfl ?_)
  refine ev_q rfl (q_callB rfl rfl (rfl) (D_slices_ContainsFunc_int64_int64 _ _ (fun x => ¬ (lo ≤ x ∧ x ≤ hi)) xs hx (fun x _ => D_impl_allWithin_1 x lo hi)) ?_)
  intro b3 hb3; cases b3
  · first | replace hb3 := dF hb3 | skip
    refine ev_q rfl (q_not rfl rfl ?_)
    refine ev_q rfl (q_assign (by conv => lhs; whnf) ?_)
    refine ev_nil (hK2 _ ?_); clear hK2
    refine good_ret ?_
    repeat (first | refine thenQ_ret ?_ | refine blockQ_ret ?_)
    refine ret_tmp (st := _) rfl (by conv => lhs; whnf) rfl ?_
    first | exact fT (within_any.2 (by assumption)) | exact fF (fun h => absurd (within_any.1 h) (by simpa using ‹∃ x ∈ xs, ¬ (lo ≤ x ∧ x ≤ hi)›))
  · first | replace hb3 := dT hb3 | skip
    refine ev_q rfl (q_not rfl rfl ?_)
    refine ev_q rfl (q_assign (by conv => lhs; whnf) ?_)
    refine ev_nil (hK2 _ ?_); clear hK2
    refine good_ret ?_
    repeat (first | refine thenQ_ret ?_ | refine blockQ_ret ?_)
    refine ret_tmp (st := _) rfl (by conv => lhs; whnf) rfl ?_
    first | exact fT (within_any.2 (by assumption)) | exact fF (fun h => absurd (within_any.1 h) (by simpa using ‹∃ x ∈ xs, ¬ (lo ≤ x ∧ x ≤ hi)›))

-- impl.allowancesOk
set_option maxRecDepth 20000 in
set_option maxHeartbeats 2000000 in
theorem D_impl_allowancesOk (free price : Int) (xs : List Int) (hx : xs.length ≤ 17592186044416) : Den Try.prog 100 [.s (.int .i64 free), .s (.int .i64 price), .lst 1 (xs.map ci)] (.s (.bool (decide (alOk free price xs)))) := by
  refine den_of_good Try.func100 (by decide) rfl (Nat.le_of_ble_eq_true rfl) (Nat.le_of_ble_eq_true rfl) ?_
  refine good_seq fun K1 hK1 => ?_
  refine good_region rfl ?_
  refine ev_q rfl (q_assign (by conv => lhs; whnf) ?_)
  refine ev_nil (hK1 _ ?_); clear hK1
  refine good_seq fun K2 hK2 => ?_
  refine good_region rfl ?_
  refine ev_q rfl (q_move (by conv => lhs; whnf) ?_)
  refine ev_q rfl (q_callB rfl rfl (rfl) (D_impl_within ..) ?_)
  intro b3 hb3; cases b3
  · first | replace hb3 := dF hb3 | skip
    refine ev_q rfl (q_move (by conv => lhs; whnf) ?_)
    refine ev_skip rfl ?_
    refine ev_skip rfl ?_
    refine ev_q rfl (q_pickF rfl (by conv => lhs; whnf) ?_)
    refine ev_q rfl (q_move (by conv => lhs; whnf) ?_)
    refine ev_skip rfl ?_
    refine ev_skip rfl ?_
    refine ev_skip rfl ?_
    refine ev_q rfl (q_pickF rfl (by conv => lhs; whnf) ?_)
    refine ev_q rfl (q_move (by conv => lhs; whnf) ?_)
    refine ev_skip rfl ?_
    refine ev_skip rfl ?_
    refine ev_q rfl (q_pickF rfl (by conv => lhs; whnf) ?_)
    refine ev_q rfl (q_assign (by conv => lhs; whnf) ?_)
    refine ev_nil (hK2 _ ?_); clear hK2
    refine good_ret ?_
    repeat (first | refine thenQ_ret ?_ | refine blockQ_ret ?_)
    refine ret_tmp (st := _) rfl (by conv => lhs; whnf) rfl ?_
    first | exact fT ⟨by omega, by omega, by omega, by assumption⟩ | exact fF (fun h => by obtain ⟨h1, h2, h3, h4⟩ := h; first | omega | contradiction)
  · first | replace hb3 := dT hb3 | skip
    refine ev_q rfl (q_move (by conv => lhs; whnf) ?_)
    refine ev_q rfl (q_move (by conv => lhs; whnf) ?_)
    refine ev_q rfl (q_callB rfl rfl (rfl) (D_impl_within ..) ?_)
    intro b4 hb4; cases b4
    · first | replace hb4 := dF hb4 | skip
      refine ev_q rfl (q_pickT rfl (by conv => lhs; whnf) ?_)
      refine ev_q rfl (q_move (by conv => lhs; whnf) ?_)
      refine ev_skip rfl ?_
      refine ev_skip rfl ?_
      refine ev_skip rfl ?_
      refine ev_q rfl (q_pickF rfl (by conv => lhs; whnf) ?_)
      refine ev_q rfl (q_move (by conv => lhs; whnf) ?_)
      refine ev_skip rfl ?_
      refine ev_skip rfl ?_
      refine ev_q rfl (q_pickF rfl (by conv => lhs; whnf) ?_)
      refine ev_q rfl (q_assign (by conv => lhs; whnf) ?_)
      refine ev_nil (hK2 _ ?_); clear hK2
      refine good_ret ?_
      repeat (first | refine thenQ_ret ?_ | refine blockQ_ret ?_)
      refine ret_tmp (st := _) rfl (by conv => lhs; whnf) rfl ?_
      first | exact fT ⟨by omega, by omega, by omega, by assumption⟩ | exact fF (fun h => by obtain ⟨h1, h2, h3, h4⟩ := h; first | omega | contradiction)
    · first | replace hb4 := dT hb4 | skip
      refine ev_q rfl (q_pickT rfl (by conv => lhs; whnf) ?_)
      refine ev_q rfl (q_move (by conv => lhs; whnf) ?_)
      refine ev_q rfl (q_move (by conv => lhs; whnf) ?_)
      refine ev_q rfl (q_len tEs22 rfl ?_)
      intro n5 hn5
      try simp only [List.length_map] at hn5
      refine ev_q rfl (q_int rfl rfl ?_)
      intro b6 hb6; cases b6
      · replace hb6 := dF hb6
        refine ev_q rfl (q_pickT rfl (by conv => lhs; whnf) ?_)
        refine ev_q rfl (q_move (by conv => lhs; whnf) ?_)
        refine ev_skip rfl ?_
        refine ev_skip rfl ?_
        refine ev_q rfl (q_pickF rfl (by conv => lhs; whnf) ?_)
        refine ev_q rfl (q_assign (by conv => lhs; whnf) ?_)
        refine ev_nil (hK2 _ ?_); clear hK2
        refine good_ret ?_
        repeat (first | refine thenQ_ret ?_ | refine blockQ_ret ?_)
        refine ret_tmp (st := _) rfl (by conv => lhs; whnf) rfl ?_
        first | exact fT ⟨by omega, by omega, by omega, by assumption⟩ | exact fF (fun h => by obtain ⟨h1, h2, h3, h4⟩ := h; first | omega | contradiction)
      · replace hb6 := dT hb6
        refine ev_q rfl (q_pickT rfl (by conv => lhs; whnf) ?_)
        refine ev_q rfl (q_move (by conv => lhs; whnf) ?_)
        refine ev_q rfl (q_move (by conv => lhs; whnf) ?_)
        refine ev_q rfl (q_callB rfl rfl (rfl) (D_impl_allWithin _ _ _ hx) ?_)
        intro b7 hb7; cases b7
        · first | replace hb7 := dF hb7 | skip
          refine ev_q rfl (q_pickT rfl (by conv => lhs; whnf) ?_)
          refine ev_q rfl (q_assign (by conv => lhs; whnf) ?_)
          refine ev_nil (hK2 _ ?_); clear hK2
          refine good_ret ?_
          repeat (first | refine thenQ_ret ?_ | refine blockQ_ret ?_)
          refine ret_tmp (st := _) rfl (by conv => lhs; whnf) rfl ?_
          first | exact fT ⟨by omega, by omega, by omega, by assumption⟩ | exact fF (fun h => by obtain ⟨h1, h2, h3, h4⟩ := h; first | omega | contradiction)
        · first | replace hb7 := dT hb7 | skip
          refine ev_q rfl (q_pickT rfl (by conv => lhs; whnf) ?_)
          refine ev_q rfl (q_assign (by conv => lhs; whnf) ?_)
          refine ev_nil (hK2 _ ?_); clear hK2
          refine good_ret ?_
          repeat (first | refine thenQ_ret ?_ | refine blockQ_ret ?_)
          refine ret_tmp (st := _) rfl (by conv => lhs; whnf) rfl ?_
          first | exact fT ⟨by omega, by omega, by omega, by assumption⟩ | exact fF (fun h => by obtain ⟨h1, h2, h3, h4⟩ := h; first | omega | contradiction)

-- impl.allowances
set_option maxRecDepth 20000 in
set_option maxHeartbeats 2000000 in
theorem D_impl_allowances_X (free : Int) (xs : List Int) (hf : 0 ≤ free ∧ free ≤ 1000000000000) (hw : xs.length ≤ 64 ∧ within xs 0 1000000000000) : DenX Try.prog 101 [] [.s (.int .i64 free), .lst 1 (xs.map ci)] [(32, .row 2 1 ((alL free xs xs.length).map ci))] (.tup [.own 32 (alL free xs xs.length).length, .s (.int .i64 ((alF free xs).2))]) := by
  refine denX_of_good Try.func101 (by decide) rfl (Nat.le_of_ble_eq_true rfl) (Nat.le_of_ble_eq_true rfl) rfl ?_
  refine good_seq fun K1 hK1 => ?_
  refine good_region rfl ?_
  refine ev_q rfl (q_assign (by conv => lhs; whnf) ?_)
  refine ev_q rfl (q_assign (by conv => lhs; whnf) ?_)
  refine ev_nil (hK1 _ ?_); clear hK1
  refine good_seq fun K2 hK2 => ?_
  refine good_region rfl ?_
  refine ev_q rfl (q_assign (by conv => lhs; whnf) ?_)
  refine ev_nil (hK2 _ ?_); clear hK2
  refine good_seq fun K3 hK3 => ?_
  refine good_region rfl ?_
  refine ev_q rfl (q_assign (by conv => lhs; whnf) ?_)
  refine ev_q rfl (q_assign (by conv => lhs; whnf) ?_)
  refine ev_nil (hK3 _ ?_); clear hK3
  refine good_seq fun K4 hK4 => ?_
  refine good_seq fun K5 hK5 => ?_
  refine good_region rfl ?_
  refine ev_q rfl (q_move (by conv => lhs; whnf) ?_)
  refine ev_q rfl (q_len tEs22 rfl ?_)
  intro n6 hn6
  try simp only [List.length_map] at hn6
  refine ev_q rfl (q_move (by conv => lhs; whnf) ?_)
  refine ev_nil (hK5 _ ?_); clear hK5
  refine good_block ?_
  have hbd := alG_bd hf hw.2
  refine good_loop (α := Nat) (fun i => { env := upd (upd (upd (upd (upd (upd (upd ((fun _ => .junk)) 0 (.s (.int .i64 free))) 6 (.own 32 i)) 7 (.s (.int .i64 ((alG free xs i).1)))) 8 (.s (.int .i64 ((alG free xs i).2)))) 11 (.lst 1 (xs.map ci))) 12 (.s (.int .i64 ((xs.length : Int))))) 13 (.s (.int .i64 i)), H := upd ((fun _ => none)) 32 (some (.row 2 1 ((alL free xs i).map ci))) }) (fun i => i ≤ xs.length) (fun i => xs.length - i) 0 ?_ ?_ ?_
  · show 0 ≤ _; omega
  · refine Sub.trans (sub_nil 6 32 2 1 rfl rfl (by decide)) ?_
    refine sub_weak ?_ ?_
    · exact weakH_row (rowEq (by simp [alL])) (weakH_none _)
    · refine weakE_upd ?e13 ?r13 (weakE_upd ?e12 ?r12 (weakE_upd ?e11 ?r11 (weakE_upd ?e8 ?r8 (weakE_upd ?e7 ?r7 (weakE_upd ?e6 ?r6 (weakE_upd ?e0 ?r0 (weakE_junk _ _)))))))
      case e0 => first | rfl | exact fI (by omega) | (simp_all)
      case r0 => intro h hh; cases hh
      case e6 => first | rfl | exact fI (by omega) | (exact ownEq (by simp [alL_len]))
      case r6 => intro h hh; simp [refs] at hh; subst hh; rfl
      case e7 => first | rfl | exact fI (by omega) | (first | exact fI (by omega) | exact fI (by simp [alG, alF]))
      case r7 => intro h hh; cases hh
      case e8 => first | rfl | exact fI (by omega) | (first | exact fI (by omega) | exact fI (by simp [alG, alF]))
      case r8 => intro h hh; cases hh
      case e11 => first | rfl | exact fI (by omega) | (simp_all)
      case r11 => intro h hh; cases hh
      case e12 => first | rfl | exact fI (by omega) | (simp_all)
      case r12 => intro h hh; cases hh
      case e13 => first | rfl | exact fI (by omega) | (simp_all)
      case r13 => intro h hh; cases hh
  · rintro i hI
    refine good_seq fun K7 hK7 => ?_
    refine good_region rfl ?_
    refine ev_q rfl (q_int rfl rfl ?_)
    intro b8 hb8; cases b8
    · replace hb8 := dF hb8
      refine ev_nil (hK7 _ ?_); clear hK7
      refine good_seq fun K9 hK9 => ?_
      refine good_condF rfl ?_
      refine good_exit ?_
      repeat (first | refine thenQ_exit ?_ | refine blockQ_pass rfl ?_)
      refine blockQ_exit (hK4 _ ?_); clear hK4
      refine good_seq fun K10 hK10 => ?_
      refine good_region rfl ?_
      refine ev_q rfl (q_move (by conv => lhs; whnf) ?_)
      refine ev_q rfl (q_move (by conv => lhs; whnf) ?_)
      refine ev_q rfl (q_assign (by conv => lhs; whnf) ?_)
      refine ev_q rfl (q_assign (by conv => lhs; whnf) ?_)
      refine ev_nil (hK10 _ ?_); clear hK10
      refine good_ret ?_
      repeat (first | refine thenQ_ret ?_ | refine blockQ_ret ?_)
      refine fx_many rfl ?_
      refine fxs_tmp (by conv => lhs; whnf) ?_
      refine fxs_tmp (by conv => lhs; whnf) ?_
      refine fx_nil ?_
      clear hK9
      have el : (alL free xs xs.length).length = i := by rw [alL_len]; omega
      exact ⟨_, .tup (.cons (conv_eq (by first | rfl | (rw [e]; done) | (rw [e]; rfl) | exact ownEq (by first | omega | simp_all))) (.cons (conv_eq (by first | rfl | exact fI (by first | omega | (rw [← alG_all (by omega : xs.length ≤ i)])) | (exfalso; first | omega | grind))) (.nil))), weakH_row (rowEq (by rw [show xs.length = i by omega])) (weakH_none _), refsIn_ok rfl⟩
    · replace hb8 := dT hb8
      obtain ⟨p, hp⟩ := getL (xs := xs) (n := (i : Int)) (by omega) (by omega)
      replace hp : xs[i]? = some p := hp
      have hbi := hbd i hI
      have hp2 := hw.2 i p hp
      have hst := alG_step (free := free) (i := i) hp
      have hs1 := congrArg Prod.fst hst
      have hs2 := congrArg Prod.snd hst
      simp only [alS] at hs1 hs2
      refine ev_nil (hK7 _ ?_); clear hK7
      refine good_seq fun K11 hK11 => ?_
      refine good_condT rfl ?_
      refine good_skip (hK11 _ ?_); clear hK11
      refine good_seq fun K12 hK12 => ?_
      refine good_block ?_
      refine good_seq fun K13 hK13 => ?_
      refine good_region rfl ?_
      refine ev_q rfl (q_idx tE22 rfl rfl (by exact Int.natCast_nonneg _) (by exact map_get hp) rfl ?_)
      refine ev_q rfl (q_load tA2 rfl ?_)
      refine ev_q rfl (q_assign (by conv => lhs; whnf) ?_)
      refine ev_nil (hK13 _ ?_); clear hK13
      refine good_seq fun K14 hK14 => ?_
      refine good_region rfl ?_
      refine ev_q rfl (q_move (by conv => lhs; whnf) ?_)
      refine ev_q rfl (q_move (by conv => lhs; whnf) ?_)
      refine ev_q rfl (q_move (by conv => lhs; whnf) ?_)
      refine ev_q rfl (q_int rfl rfl ?_)
      intro n15 hn15
      replace hn15 := in64 hn15 (by omega) (by omega)
      refine ev_q rfl (q_int rfl rfl ?_)
      intro n16 hn16
      replace hn16 := in64 hn16 (by omega) (by omega)
      refine ev_q rfl (q_assign (by conv => lhs; whnf) ?_)
      refine ev_nil (hK14 _ ?_); clear hK14
      refine good_seq fun K17 hK17 => ?_
      refine good_region rfl ?_
      refine ev_q rfl (q_move (by conv => lhs; whnf) ?_)
      refine ev_q rfl (q_move (by conv => lhs; whnf) ?_)
      refine ev_q rfl (q_neg rfl ?_)
      intro n18 hn18
      replace hn18 := neg64 hn18 (by omega) (by omega)
      refine ev_q rfl (q_max rfl rfl ?_)
      intro n19 hn19; simp only [mxI, mnI] at hn19
      refine ev_q rfl (q_int rfl rfl ?_)
      intro n20 hn20
      replace hn20 := in64 hn20 (by omega) (by omega)
      refine ev_q rfl (q_assign (by conv => lhs; whnf) ?_)
      refine ev_nil (hK17 _ ?_); clear hK17
      refine good_seq fun K21 hK21 => ?_
      refine good_region rfl ?_
      refine ev_q rfl (q_move (by conv => lhs; whnf) ?_)
      refine ev_q rfl (q_max rfl rfl ?_)
      intro n22 hn22; simp only [mxI, mnI] at hn22
      refine ev_q rfl (q_assign (by conv => lhs; whnf) ?_)
      refine ev_nil (hK21 _ ?_); clear hK21
      refine good_region rfl ?_
      refine ev_q rfl (q_move (by conv => lhs; whnf) ?_)
      refine ev_q rfl (q_move (by conv => lhs; whnf) ?_)
      refine ev_k rfl (k_lit tE22 zA2 rfl rfl (by decide) (by decide) rfl rfl rfl ?_)
      refine ev_k rfl (k_app tApp22 rfl rfl (by simp [alL_len]) rfl (.inr rfl) (by simp [alL_len, maxLen]; omega) (by simp [alL_len]; omega) ?_)
      refine ev_q rfl (q_assign (by conv => lhs; whnf) ?_)
      refine ev_nil (hK12 _ ?_); clear hK12
      refine good_region rfl ?_
      refine ev_q rfl (q_int rfl rfl ?_)
      intro n23 hn23
      replace hn23 := in64 hn23 (by omega) (by omega)
      refine ev_q rfl (q_move (by conv => lhs; whnf) ?_)
      refine ev_nil ?_
      clear hK4
      refine ⟨i + 1, ?_, ?_, ?_⟩
      · show _ ≤ _; omega
      · first | omega | (simp only []; omega) | (dsimp only; omega)
      · refine sub_weak ?_ ?_
        · exact weakH_row (rowEq (appEq alL_succ (by omega))) (weakH_none _)
        · refine weakE_upd ?e13 ?r13 (weakE_upd ?e12 ?r12 (weakE_upd ?e11 ?r11 (weakE_upd ?e8 ?r8 (weakE_upd ?e7 ?r7 (weakE_upd ?e6 ?r6 (weakE_upd ?e0 ?r0 (weakE_junk _ _)))))))
          case e0 => first | rfl | exact fI (by omega) | (simp_all)
          case r0 => intro h hh; cases hh
          case e6 => first | rfl | exact fI (by omega) | (exact ownEq (by simp [alL_len]))
          case r6 => intro h hh; simp [refs] at hh; subst hh; rfl
          case e7 => first | rfl | exact fI (by omega) | (first | exact fI (by omega) | exact fI (by simp [alG, alF]))
          case r7 => intro h hh; cases hh
          case e8 => first | rfl | exact fI (by omega) | (first | exact fI (by omega) | exact fI (by simp [alG, alF]))
          case r8 => intro h hh; cases hh
          case e11 => first | rfl | exact fI (by omega) | (simp_all)
          case r11 => intro h hh; cases hh
          case e12 => first | rfl | exact fI (by omega) | (simp_all)
          case r12 => intro h hh; cases hh
          case e13 => first | rfl | exact fI (by omega) | (simp_all)
          case r13 => intro h hh; cases hh
theorem D_impl_allowances (free : Int) (xs : List Int) (hf : 0 ≤ free ∧ free ≤ 1000000000000) (hw : xs.length ≤ 64 ∧ within xs 0 1000000000000) : Den Try.prog 101 [.s (.int .i64 free), .lst 1 (xs.map ci)] (.tup [.lst 1 ((alL free xs xs.length).map ci), .s (.int .i64 ((alF free xs).2))]) :=
  den_of_denX (D_impl_allowances_X free xs hf hw) (by change (some (.tup [.lst 1 (List.take (alL free xs xs.length).length ((alL free xs xs.length).map ci)), .s (.int .i64 ((alF free xs).2))]) : Option AV) = some (.tup [.lst 1 ((alL free xs xs.length).map ci), .s (.int .i64 ((alF free xs).2))]); simp only [takeMap])

-- impl.AllowanceCost
set_option maxRecDepth 20000 in
set_option maxHeartbeats 2000000 in
theorem D_impl_AllowanceCost (free price : Int) (xs : List Int) (hx : xs.length ≤ 17592186044416) : Den Try.prog 43 [.s (.int .i64 free), .s (.int .i64 price), .lst 1 (xs.map ci)] (.tup [.s (.int .i64 (if alOk free price xs then (alF free xs).2 * price else 0)), .s (.int .i64 (if alOk free price xs then 0 else 2))]) := by
  refine den_of_good Try.func43 (by decide) rfl (Nat.le_of_ble_eq_true rfl) (Nat.le_of_ble_eq_true rfl) ?_
  refine good_seq fun K1 hK1 => ?_
  refine good_region rfl ?_
  refine ev_q rfl (q_assign (by conv => lhs; whnf) ?_)
  refine ev_q rfl (q_assign (by conv => lhs; whnf) ?_)
  refine ev_nil (hK1 _ ?_); clear hK1
  refine good_seq fun K2 hK2 => ?_
  refine good_seq fun K3 hK3 => ?_
  refine good_region rfl ?_
  refine ev_q rfl (q_move (by conv => lhs; whnf) ?_)
  refine ev_q rfl (q_move (by conv => lhs; whnf) ?_)
  refine ev_q rfl (q_move (by conv => lhs; whnf) ?_)
  refine ev_q rfl (q_callB rfl rfl (rfl) (D_impl_allowancesOk _ _ _ hx) ?_)
  intro b4 hb4; cases b4
  · first | replace hb4 := dF hb4 | skip
    refine ev_q rfl (q_not rfl rfl ?_)
    refine ev_nil (hK3 _ ?_); clear hK3
    refine good_condT rfl ?_
    refine good_seq fun K5 hK5 => ?_
    refine good_region rfl ?_
    refine ev_q rfl (q_assign (by conv => lhs; whnf) ?_)
    refine ev_q rfl (q_assign (by conv => lhs; whnf) ?_)
    refine ev_nil (hK5 _ ?_); clear hK5
    refine good_ret ?_
    repeat (first | refine thenQ_ret ?_ | refine blockQ_ret ?_)
    refine ret_many rfl ?_
    refine res_tmp (by conv => lhs; whnf) rfl ?_
    refine res_tmp (by conv => lhs; whnf) rfl ?_
    refine res_nil ?_
    clear hK2
    first | exact fTup1 (fI (by rw [if_pos ok]; omega)) (fTup1 (fI (by rw [if_pos ok])) rfl) | (have hno : ¬ alOk free price xs := (fun h => by first | contradiction | (obtain ⟨h1, h2, h3, h4⟩ := h; first | omega | contradiction | grind)); exact fTup1 (fI (if_neg hno).symm) (fTup1 (fI (if_neg hno).symm) rfl))
  · first | replace hb4 := dT hb4 | skip
    have ok : alOk free price xs := by assumption
    have hbd := alG_bd ok.1 ok.2.2.2 xs.length (by omega)
    rw [alG_all (by omega : xs.length ≤ xs.length)] at hbd
    have hlen := ok.2.2.1
    have hm3 := mulB3 (a := (alF free xs).2) (b := price) (by omega) ok.2.1
    refine ev_q rfl (q_not rfl rfl ?_)
    refine ev_nil (hK3 _ ?_); clear hK3
    refine good_condF rfl ?_
    refine good_skip (hK2 _ ?_); clear hK2
    refine good_seq fun K6 hK6 => ?_
    refine good_region rfl ?_
    refine ev_q rfl (q_move (by conv => lhs; whnf) ?_)
    refine ev_q rfl (q_move (by conv => lhs; whnf) ?_)
    refine ev_q rfl (q_call rfl rfl (rfl) (D_impl_allowances _ _ ok.1 ok.2.2) rfl ?_)
    refine ev_q rfl (q_move (by conv => lhs; whnf) ?_)
    refine ev_q rfl (q_extract rfl rfl ?_)
    refine ev_q rfl (q_extractI rfl rfl ?_)
    intro n7 hn7
    refine ev_q rfl (q_assign (by conv => lhs; whnf) ?_)
    refine ev_q rfl (q_assign (by conv => lhs; whnf) ?_)
    refine ev_nil (hK6 _ ?_); clear hK6
    refine good_seq fun K8 hK8 => ?_
    refine good_region rfl ?_
    refine ev_q rfl (q_move (by conv => lhs; whnf) ?_)
    refine ev_q rfl (q_move (by conv => lhs; whnf) ?_)
    refine ev_q rfl (q_int rfl rfl ?_)
    intro n9 hn9
    rw [hn7] at hn9
    replace hn9 := in64 hn9 (by omega) (by omega)
    refine ev_q rfl (q_assign (by conv => lhs; whnf) ?_)
    refine ev_q rfl (q_assign (by conv => lhs; whnf) ?_)
    refine ev_nil (hK8 _ ?_); clear hK8
    refine good_ret ?_
    repeat (first | refine thenQ_ret ?_ | refine blockQ_ret ?_)
    refine ret_many rfl ?_
    refine res_tmp (by conv => lhs; whnf) rfl ?_
    refine res_tmp (by conv => lhs; whnf) rfl ?_
    refine res_nil ?_
    first | exact fTup1 (fI (by rw [if_pos ok]; omega)) (fTup1 (fI (by rw [if_pos ok])) rfl) | (have hno : ¬ alOk free price xs := (fun h => by first | contradiction | (obtain ⟨h1, h2, h3, h4⟩ := h; first | omega | contradiction | grind)); exact fTup1 (fI (if_neg hno).symm) (fTup1 (fI (if_neg hno).symm) rfl))

-- impl.AllowancesLeft
set_option maxRecDepth 20000 in
set_option maxHeartbeats 2000000 in
theorem D_impl_AllowancesLeft_X (free : Int) (xs : List Int) (hx : xs.length ≤ 17592186044416) : DenX Try.prog 42 [] [.s (.int .i64 free), .lst 1 (xs.map ci)] [(32, .row 2 1 ((alLf free xs).map ci))] (.tup [.own 32 (alLf free xs).length, .s (.int .i64 (if alOk free 0 xs then 0 else 2))]) := by
  refine denX_of_good Try.func42 (by decide) rfl (Nat.le_of_ble_eq_true rfl) (Nat.le_of_ble_eq_true rfl) rfl ?_
  refine good_seq fun K1 hK1 => ?_
  refine good_region rfl ?_
  refine ev_q rfl (q_assign (by conv => lhs; whnf) ?_)
  refine ev_q rfl (q_assign (by conv => lhs; whnf) ?_)
  refine ev_nil (hK1 _ ?_); clear hK1
  refine good_seq fun K2 hK2 => ?_
  refine good_seq fun K3 hK3 => ?_
  refine good_region rfl ?_
  refine ev_q rfl (q_move (by conv => lhs; whnf) ?_)
  refine ev_q rfl (q_move (by conv => lhs; whnf) ?_)
  refine ev_q rfl (q_callB rfl rfl (rfl) (D_impl_allowancesOk _ _ _ hx) ?_)
  intro b4 hb4; cases b4
  · first | replace hb4 := dF hb4 | skip
    refine ev_q rfl (q_not rfl rfl ?_)
    refine ev_nil (hK3 _ ?_); clear hK3
    refine good_condT rfl ?_
    refine good_seq fun K5 hK5 => ?_
    refine good_region rfl ?_
    refine ev_q rfl (q_assign (by conv => lhs; whnf) ?_)
    refine ev_q rfl (q_assign (by conv => lhs; whnf) ?_)
    refine ev_nil (hK5 _ ?_); clear hK5
    refine good_ret ?_
    repeat (first | refine thenQ_ret ?_ | refine blockQ_ret ?_)
    refine fx_many rfl ?_
    refine fxs_tmp (by conv => lhs; whnf) ?_
    refine fxs_tmp (by conv => lhs; whnf) ?_
    refine fx_nil ?_
    clear hK2
    first | (have e : alLf free xs = alL free xs xs.length := alLf_ok (by assumption)) | (have e : alLf free xs = [] := alLf_no (by assumption))
    exact ⟨_, .tup (.cons (conv_nil rfl (by decide) (by rw [e]; rfl)) (.cons (conv_eq (by first | rfl | exact fI (by first | omega | (rw [if_pos (by assumption)]) | (rw [if_neg (by assumption)])) | (exfalso; first | omega | grind))) (.nil))), weakH_row (rowEq (by first | rfl | (rw [e]; done) | (rw [e]; rfl) | (simp_all; done))) (weakH_none _), refsIn_ok rfl⟩
  · first | replace hb4 := dT hb4 | skip
    refine ev_q rfl (q_not rfl rfl ?_)
    refine ev_nil (hK3 _ ?_); clear hK3
    refine good_condF rfl ?_
    refine good_skip (hK2 _ ?_); clear hK2
    refine good_seq fun K6 hK6 => ?_
    refine good_region rfl ?_
    refine ev_q rfl (q_move (by conv => lhs; whnf) ?_)
    refine ev_q rfl (q_move (by conv => lhs; whnf) ?_)
    refine ev_k rfl (k_callX [(32, 32)] (D_impl_allowances_X free xs (‹alOk free 0 xs›).1 (‹alOk free 0 xs›).2.2) rfl (rfl) (rfl) trivial ⟨⟨rfl, show (32 : Nat) < 1000000 by decide⟩, trivial⟩ rfl rfl rfl ?_)
    refine ev_q rfl (q_move (by conv => lhs; whnf) ?_)
    refine ev_q rfl (q_extract rfl rfl ?_)
    refine ev_q rfl (q_extractI rfl rfl ?_)
    intro n7 hn7
    refine ev_q rfl (q_assign (by conv => lhs; whnf) ?_)
    refine ev_q rfl (q_assign (by conv => lhs; whnf) ?_)
    refine ev_nil (hK6 _ ?_); clear hK6
    refine good_seq fun K8 hK8 => ?_
    refine good_region rfl ?_
    refine ev_q rfl (q_move (by conv => lhs; whnf) ?_)
    refine ev_q rfl (q_assign (by conv => lhs; whnf) ?_)
    refine ev_q rfl (q_assign (by conv => lhs; whnf) ?_)
    refine ev_nil (hK8 _ ?_); clear hK8
    refine good_ret ?_
    repeat (first | refine thenQ_ret ?_ | refine blockQ_ret ?_)
    refine fx_many rfl ?_
    refine fxs_tmp (by conv => lhs; whnf) ?_
    refine fxs_tmp (by conv => lhs; whnf) ?_
    refine fx_nil ?_
    first | (have e : alLf free xs = alL free xs xs.length := alLf_ok (by assumption)) | (have e : alLf free xs = [] := alLf_no (by assumption))
    exact ⟨_, .tup (.cons (conv_eq (by first | rfl | (rw [e]; done) | (rw [e]; rfl) | exact ownEq (by first | omega | simp_all))) (.cons (conv_eq (by first | rfl | exact fI (by first | omega | (rw [if_pos (by assumption)]) | (rw [if_neg (by assumption)])) | (exfalso; first | omega | grind))) (.nil))), weakH_row (rowEq (by first | rfl | (rw [e]; done) | (rw [e]; rfl) | (simp_all; done))) (weakH_none _), refsIn_ok rfl⟩
theorem D_impl_AllowancesLeft (free : Int) (xs : List Int) (hx : xs.length ≤ 17592186044416) : Den Try.prog 42 [.s (.int .i64 free), .lst 1 (xs.map ci)] (.tup [.lst 1 ((alLf free xs).map ci), .s (.int .i64 (if alOk free 0 xs then 0 else 2))]) :=
  den_of_denX (D_impl_AllowancesLeft_X free xs hx) (by change (some (.tup [.lst 1 (List.take (alLf free xs).length ((alLf free xs).map ci)), .s (.int .i64 (if alOk free 0 xs then 0 else 2))]) : Option AV) = some (.tup [.lst 1 ((alLf free xs).map ci), .s (.int .i64 (if alOk free 0 xs then 0 else 2))]); simp only [takeMap])

-- (*spec.l00Src).next
set_option maxRecDepth 20000 in
set_option maxHeartbeats 2000000 in
theorem D_spec_l00Src_next (cs : List Int) (a s : Int) (hc : cs.length ≤ 17592186044416) (hb : byteL cs) (ha : 0 ≤ a ∧ a ≤ 3999999999999999999)  : DenXR Try.prog 132 [(1000000, .box 133 (src cs a s))] [.ptr 1000000 0] (τ := Int × Int × Int) (fun (v, a1, s1) => (0 ≤ v ∧ v ≤ 255) ∧ (a ≤ a1 ∧ a1 ≤ a + 1)) (fun (v, a1, s1) => [(1000000, .box 133 (src cs a1 s1))]) (fun (v, a1, s1) => .s (.int .i64 v)) := by
  refine denXR_of_good Try.func132 (by decide) rfl (Nat.le_of_ble_eq_true rfl) (Nat.le_of_ble_eq_true rfl) rfl ?_
  refine good_seq fun K1 hK1 => ?_
  refine good_region rfl ?_
  refine ev_q rfl (q_assign (by conv => lhs; whnf) ?_)
  refine ev_nil (hK1 _ ?_); clear hK1
  refine good_seq fun K2 hK2 => ?_
  refine good_region rfl ?_
  refine ev_q rfl (q_assign (by conv => lhs; whnf) ?_)
  refine ev_nil (hK2 _ ?_); clear hK2
  refine good_seq fun K3 hK3 => ?_
  refine good_seq fun K4 hK4 => ?_
  refine good_draw 10 hmix (by kernel_rfl) rfl ?_
  refine qo_q rfl (q_move (by conv => lhs; whnf) ?_)
  refine qo_q rfl (q_nilCheck (by conv => lhs; whnf) rfl ?_)
  refine qo_q rfl (q_fieldAddrP fO133_1 rfl rfl ?_)
  refine qo_q rfl (q_load tA3 rfl ?_)
  refine qo_q rfl (q_move (by conv => lhs; whnf) ?_)
  refine qo_q rfl (q_nilCheck (by conv => lhs; whnf) rfl ?_)
  refine qo_q rfl (q_fieldAddrP fO133_0 rfl rfl ?_)
  refine qo_q rfl (q_load tA59 rfl ?_)
  refine qo_q rfl (q_len tEs59 rfl ?_)
  intro n5 hn5
  try simp only [List.length_map] at hn5
  refine qo_q rfl (q_int rfl rfl ?_)
  intro b6 hb6; cases b6
  · replace hb6 := dF hb6
    refine qo_nil ?_
    refine ev_nil (hK4 _ ?_); clear hK4
    refine good_condF rfl ?_
    refine good_skip (hK3 _ ?_); clear hK3
    refine good_seq fun K7 hK7 => ?_
    refine good_region rfl ?_
    refine ev_q rfl (q_move (by conv => lhs; whnf) ?_)
    refine ev_q rfl (q_nilCheck (by conv => lhs; whnf) rfl ?_)
    refine ev_q rfl (q_fieldAddrP fO133_1 rfl rfl ?_)
    refine ev_q rfl (q_load tA3 rfl ?_)
    refine ev_q rfl (q_int rfl rfl ?_)
    intro n8 hn8
    replace hn8 := in64 hn8 (by omega) (by omega)
    refine ev_q rfl (q_nilCheck (by conv => lhs; whnf) rfl ?_)
    refine ev_q rfl (q_fieldAddrP fO133_1 rfl rfl ?_)
    refine ev_k rfl (k_store sz3 rfl (by conv => lhs; whnf) rfl rfl rfl (Nat.le_of_ble_eq_true rfl) rfl ?_)
    refine ev_nil (hK7 _ ?_); clear hK7
    refine good_seq fun K9 hK9 => ?_
    refine good_region rfl ?_
    refine ev_q rfl (q_move (by conv => lhs; whnf) ?_)
    refine ev_q rfl (q_move (by conv => lhs; whnf) ?_)
    refine ev_q rfl (q_nilCheck (by conv => lhs; whnf) rfl ?_)
    refine ev_q rfl (q_fieldAddrP fO133_2 rfl rfl ?_)
    refine ev_q rfl (q_load tA131 rfl ?_)
    refine ev_q rfl (q_int rfl rfl ?_)
    intro n10 hn10
    skip
    refine ev_q rfl (q_move (by conv => lhs; whnf) ?_)
    refine ev_q rfl (q_conv tK3 tK131 rfl ?_)
    intro n11 hn11
    skip
    refine ev_q rfl (q_int rfl rfl ?_)
    intro n12 hn12
    skip
    refine ev_q rfl (q_int rfl rfl ?_)
    intro n13 hn13
    skip
    refine ev_q rfl (q_nilCheck (by conv => lhs; whnf) rfl ?_)
    refine ev_q rfl (q_fieldAddrP fO133_2 rfl rfl ?_)
    refine ev_k rfl (k_store sz131 rfl (by conv => lhs; whnf) rfl rfl rfl (Nat.le_of_ble_eq_true rfl) rfl ?_)
    refine ev_nil (hK9 _ ?_); clear hK9
    refine good_seq fun K14 hK14 => ?_
    refine good_seq fun K15 hK15 => ?_
    refine good_draw 10 hmix (by kernel_rfl) rfl ?_
    refine qo_q rfl (q_move (by conv => lhs; whnf) ?_)
    refine qo_q rfl (q_nilCheck (by conv => lhs; whnf) rfl ?_)
    refine qo_q rfl (q_fieldAddrP fO133_1 rfl rfl ?_)
    refine qo_q rfl (q_load tA3 rfl ?_)
    refine qo_q rfl (q_move (by conv => lhs; whnf) ?_)
    refine qo_q rfl (q_nilCheck (by conv => lhs; whnf) rfl ?_)
    refine qo_q rfl (q_fieldAddrP fO133_0 rfl rfl ?_)
    refine qo_q rfl (q_load tA59 rfl ?_)
    refine qo_q rfl (q_len tEs59 rfl ?_)
    intro n16 hn16
    try simp only [List.length_map] at hn16
    refine qo_q rfl (q_int rfl rfl ?_)
    intro b17 hb17; cases b17
    · replace hb17 := dF hb17
      refine qo_nil ?_
      refine ev_nil (hK15 _ ?_); clear hK15
      refine good_condF rfl ?_
      refine good_skip (hK14 _ ?_); clear hK14
      refine good_seq fun K18 hK18 => ?_
      refine good_region rfl ?_
      refine ev_q rfl (q_move (by conv => lhs; whnf) ?_)
      refine ev_q rfl (q_nilCheck (by conv => lhs; whnf) rfl ?_)
      refine ev_q rfl (q_fieldAddrP fO133_2 rfl rfl ?_)
      refine ev_q rfl (q_load tA131 rfl ?_)
      refine ev_q rfl (q_shr rfl rfl ⟨by omega, ?_⟩)
      intro n19 hn19
      skip
      refine ev_q rfl (q_int rfl rfl ?_)
      intro n20 hn20
      have hv := and255 hn20
      refine ev_q rfl (q_conv tK131 tK2 rfl ?_)
      intro n21 hn21
      replace hn21 := in64 hn21 (by omega) (by omega)
      refine ev_q rfl (q_assign (by conv => lhs; whnf) ?_)
      refine ev_nil (hK18 _ ?_); clear hK18
      refine good_ret ?_
      repeat (first | refine thenQ_ret ?_ | refine blockQ_ret ?_)
      apply ex_3
      case hF =>
        refine fx_tmp rfl (by conv => lhs; whnf) ?_
        exact ⟨_, conv_eq (by first | rfl | exact fI (by first | omega | grind) | (exfalso; first | omega | grind)), weakH_box (boxEq (by first | rfl | (rw [e]; done) | (rw [e]; rfl) | (simp_all; done))) rfl (weakH_none _), refsIn_ok rfl⟩
      case hR =>
        exact ⟨by omega, by omega⟩
    · replace hb17 := dT hb17
      refine qo_nil ?_
      refine ev_nil (hK15 _ ?_); clear hK15
      refine good_condT rfl ?_
      refine good_seq fun K22 hK22 => ?_
      refine good_region rfl ?_
      refine ev_q rfl (q_move (by conv => lhs; whnf) ?_)
      refine ev_q rfl (q_assign (by conv => lhs; whnf) ?_)
      refine ev_nil (hK22 _ ?_); clear hK22
      refine good_ret ?_
      repeat (first | refine thenQ_ret ?_ | refine blockQ_ret ?_)
      clear hK14
      apply ex_3
      case hF =>
        refine fx_tmp rfl (by conv => lhs; whnf) ?_
        exact ⟨_, conv_eq (by first | rfl | exact fI (by first | omega | grind) | (exfalso; first | omega | grind)), weakH_box (boxEq (by first | rfl | (rw [e]; done) | (rw [e]; rfl) | (simp_all; done))) rfl (weakH_none _), refsIn_ok rfl⟩
      case hR =>
        exact ⟨by omega, by omega⟩
  · replace hb6 := dT hb6
    obtain ⟨p, hp⟩ := getL (xs := cs) (n := a) (by omega) (by omega)
    have hpb := hb p (List.mem_of_getElem? hp)
    refine qo_nil ?_
    refine ev_nil (hK4 _ ?_); clear hK4
    refine good_condT rfl ?_
    refine good_draw 12 hmix (by kernel_rfl) rfl ?_
    refine qo_q rfl (q_move (by conv => lhs; whnf) ?_)
    refine qo_q rfl (q_nilCheck (by conv => lhs; whnf) rfl ?_)
    refine qo_q rfl (q_fieldAddrP fO133_0 rfl rfl ?_)
    refine qo_q rfl (q_load tA59 rfl ?_)
    refine qo_q rfl (q_move (by conv => lhs; whnf) ?_)
    refine qo_q rfl (q_nilCheck (by conv => lhs; whnf) rfl ?_)
    refine qo_q rfl (q_fieldAddrP fO133_1 rfl rfl ?_)
    refine qo_q rfl (q_load tA3 rfl ?_)
    refine qo_q rfl (q_idx tE59 rfl rfl (by omega) (by exact map_get hp) rfl ?_)
    refine qo_q rfl (q_load tA5 rfl ?_)
    refine qo_q rfl (q_conv tK5 tK3 rfl ?_)
    intro n23 hn23
    replace hn23 := in64 hn23 (by omega) (by omega)
    refine qo_q rfl (q_assign (by conv => lhs; whnf) ?_)
    refine qo_nil ?_
    refine ev_nil (hK3 _ ?_); clear hK3
    refine good_seq fun K24 hK24 => ?_
    refine good_region rfl ?_
    refine ev_q rfl (q_move (by conv => lhs; whnf) ?_)
    refine ev_q rfl (q_nilCheck (by conv => lhs; whnf) rfl ?_)
    refine ev_q rfl (q_fieldAddrP fO133_1 rfl rfl ?_)
    refine ev_q rfl (q_load tA3 rfl ?_)
    refine ev_q rfl (q_int rfl rfl ?_)
    intro n25 hn25
    replace hn25 := in64 hn25 (by omega) (by omega)
    refine ev_q rfl (q_nilCheck (by conv => lhs; whnf) rfl ?_)
    refine ev_q rfl (q_fieldAddrP fO133_1 rfl rfl ?_)
    refine ev_k rfl (k_store sz3 rfl (by conv => lhs; whnf) rfl rfl rfl (Nat.le_of_ble_eq_true rfl) rfl ?_)
    refine ev_nil (hK24 _ ?_); clear hK24
    refine good_seq fun K26 hK26 => ?_
    refine good_region rfl ?_
    refine ev_q rfl (q_move (by conv => lhs; whnf) ?_)
    refine ev_q rfl (q_move (by conv => lhs; whnf) ?_)
    refine ev_q rfl (q_nilCheck (by conv => lhs; whnf) rfl ?_)
    refine ev_q rfl (q_fieldAddrP fO133_2 rfl rfl ?_)
    refine ev_q rfl (q_load tA131 rfl ?_)
    refine ev_q rfl (q_int rfl rfl ?_)
    intro n27 hn27
    skip
    refine ev_q rfl (q_move (by conv => lhs; whnf) ?_)
    refine ev_q rfl (q_conv tK3 tK131 rfl ?_)
    intro n28 hn28
    skip
    refine ev_q rfl (q_int rfl rfl ?_)
    intro n29 hn29
    skip
    refine ev_q rfl (q_int rfl rfl ?_)
    intro n30 hn30
    skip
    refine ev_q rfl (q_nilCheck (by conv => lhs; whnf) rfl ?_)
    refine ev_q rfl (q_fieldAddrP fO133_2 rfl rfl ?_)
    refine ev_k rfl (k_store sz131 rfl (by conv => lhs; whnf) rfl rfl rfl (Nat.le_of_ble_eq_true rfl) rfl ?_)
    refine ev_nil (hK26 _ ?_); clear hK26
    refine good_seq fun K31 hK31 => ?_
    refine good_seq fun K32 hK32 => ?_
    refine good_draw 10 hmix (by kernel_rfl) rfl ?_
    refine qo_q rfl (q_move (by conv => lhs; whnf) ?_)
    refine qo_q rfl (q_nilCheck (by conv => lhs; whnf) rfl ?_)
    refine qo_q rfl (q_fieldAddrP fO133_1 rfl rfl ?_)
    refine qo_q rfl (q_load tA3 rfl ?_)
    refine qo_q rfl (q_move (by conv => lhs; whnf) ?_)
    refine qo_q rfl (q_nilCheck (by conv => lhs; whnf) rfl ?_)
    refine qo_q rfl (q_fieldAddrP fO133_0 rfl rfl ?_)
    refine qo_q rfl (q_load tA59 rfl ?_)
    refine qo_q rfl (q_len tEs59 rfl ?_)
    intro n33 hn33
    try simp only [List.length_map] at hn33
    refine qo_q rfl (q_int rfl rfl ?_)
    intro b34 hb34; cases b34
    · replace hb34 := dF hb34
      refine qo_nil ?_
      refine ev_nil (hK32 _ ?_); clear hK32
      refine good_condF rfl ?_
      refine good_skip (hK31 _ ?_); clear hK31
      refine good_seq fun K35 hK35 => ?_
      refine good_region rfl ?_
      refine ev_q rfl (q_move (by conv => lhs; whnf) ?_)
      refine ev_q rfl (q_nilCheck (by conv => lhs; whnf) rfl ?_)
      refine ev_q rfl (q_fieldAddrP fO133_2 rfl rfl ?_)
      refine ev_q rfl (q_load tA131 rfl ?_)
      refine ev_q rfl (q_shr rfl rfl ⟨by omega, ?_⟩)
      intro n36 hn36
      skip
      refine ev_q rfl (q_int rfl rfl ?_)
      intro n37 hn37
      have hv := and255 hn37
      refine ev_q rfl (q_conv tK131 tK2 rfl ?_)
      intro n38 hn38
      replace hn38 := in64 hn38 (by omega) (by omega)
      refine ev_q rfl (q_assign (by conv => lhs; whnf) ?_)
      refine ev_nil (hK35 _ ?_); clear hK35
      refine good_ret ?_
      repeat (first | refine thenQ_ret ?_ | refine blockQ_ret ?_)
      apply ex_3
      case hF =>
        refine fx_tmp rfl (by conv => lhs; whnf) ?_
        exact ⟨_, conv_eq (by first | rfl | exact fI (by first | omega | grind) | (exfalso; first | omega | grind)), weakH_box (boxEq (by first | rfl | (rw [e]; done) | (rw [e]; rfl) | (simp_all; done))) rfl (weakH_none _), refsIn_ok rfl⟩
      case hR =>
        exact ⟨by omega, by omega⟩
    · replace hb34 := dT hb34
      refine qo_nil ?_
      refine ev_nil (hK32 _ ?_); clear hK32
      refine good_condT rfl ?_
      refine good_seq fun K39 hK39 => ?_
      refine good_region rfl ?_
      refine ev_q rfl (q_move (by conv => lhs; whnf) ?_)
      refine ev_q rfl (q_assign (by conv => lhs; whnf) ?_)
      refine ev_nil (hK39 _ ?_); clear hK39
      refine good_ret ?_
      repeat (first | refine thenQ_ret ?_ | refine blockQ_ret ?_)
      clear hK31
      apply ex_3
      case hF =>
        refine fx_tmp rfl (by conv => lhs; whnf) ?_
        exact ⟨_, conv_eq (by first | rfl | exact fI (by first | omega | grind) | (exfalso; first | omega | grind)), weakH_box (boxEq (by first | rfl | (rw [e]; done) | (rw [e]; rfl) | (simp_all; done))) rfl (weakH_none _), refsIn_ok rfl⟩
      case hR =>
        exact ⟨by omega, by omega⟩

-- (*spec.l00Src).pick
set_option maxRecDepth 20000 in
set_option maxHeartbeats 2000000 in
theorem D_spec_l00Src_pick (cs : List Int) (a s : Int) (n : Int) (hc : cs.length ≤ 17592186044416) (hb : byteL cs) (ha : 0 ≤ a ∧ a ≤ 3999999999999999998) (hn : -1000000000000 ≤ n ∧ n ≤ 1000000000000) : DenXR Try.prog 102 [(1000000, .box 133 (src cs a s))] [.ptr 1000000 0, .s (.int .i64 n)] (τ := Int × Int × Int) (fun (v, a1, s1) => (0 ≤ v ∧ (v = 0 ∨ v < n)) ∧ (a ≤ a1 ∧ a1 ≤ a + 2)) (fun (v, a1, s1) => [(1000000, .box 133 (src cs a1 s1))]) (fun (v, a1, s1) => .s (.int .i64 v)) := by
  refine denXR_of_good Try.func102 (by decide) rfl (Nat.le_of_ble_eq_true rfl) (Nat.le_of_ble_eq_true rfl) rfl ?_
  refine good_seq fun K1 hK1 => ?_
  refine good_region rfl ?_
  refine ev_q rfl (q_assign (by conv => lhs; whnf) ?_)
  refine ev_nil (hK1 _ ?_); clear hK1
  refine good_seq fun K2 hK2 => ?_
  refine good_seq fun K3 hK3 => ?_
  refine good_region rfl ?_
  refine ev_q rfl (q_move (by conv => lhs; whnf) ?_)
  refine ev_q rfl (q_int rfl rfl ?_)
  intro b4 hb4; cases b4
  · replace hb4 := dF hb4
    refine ev_nil (hK3 _ ?_); clear hK3
    refine good_condF rfl ?_
    refine good_skip (hK2 _ ?_); clear hK2
    refine good_seq fun K5 hK5 => ?_
    refine good_region rfl ?_
    refine ev_q rfl (q_move (by conv => lhs; whnf) ?_)
    refine ev_k rfl (k_callR [(1000000, 1000000)] (D_spec_l00Src_next cs _ _  hc hb (by omega)) rfl (rfl) (rfl) ⟨rfl, trivial⟩ rfl (by rintro ⟨v6, a6, s6⟩ ⟨hx6_0, hx6_1⟩; exact ⟨⟨rfl, rfl, trivial⟩, rfl⟩) rfl rfl ?_)
    rintro ⟨v6, a6, s6⟩ ⟨hx6_0, hx6_1⟩
    refine ev_q rfl (q_assign (by conv => lhs; whnf) ?_)
    refine ev_nil (hK5 _ ?_); clear hK5
    refine good_seq fun K7 hK7 => ?_
    refine good_seq fun K8 hK8 => ?_
    refine good_region rfl ?_
    refine ev_q rfl (q_move (by conv => lhs; whnf) ?_)
    refine ev_q rfl (q_int rfl rfl ?_)
    intro b9 hb9; cases b9
    · replace hb9 := dF hb9
      refine ev_nil (hK8 _ ?_); clear hK8
      refine good_condF rfl ?_
      refine good_skip (hK7 _ ?_); clear hK7
      refine good_seq fun K10 hK10 => ?_
      refine good_region rfl ?_
      refine ev_q rfl (q_move (by conv => lhs; whnf) ?_)
      refine ev_q rfl (q_move (by conv => lhs; whnf) ?_)
      refine ev_q rfl (q_int rfl rfl ⟨by omega, ?_⟩)
      intro n11 hn11
      replace hn11 := remE hn11 (by omega)
      have hr : 0 ≤ n11 ∧ n11 < n := by rw [hn11]; exact ⟨Int.emod_nonneg _ (by omega), Int.emod_lt_of_pos _ (by omega)⟩
      refine ev_q rfl (q_assign (by conv => lhs; whnf) ?_)
      refine ev_nil (hK10 _ ?_); clear hK10
      refine good_ret ?_
      repeat (first | refine thenQ_ret ?_ | refine blockQ_ret ?_)
      apply ex_3
      case hF =>
        refine fx_tmp rfl (by conv => lhs; whnf) ?_
        exact ⟨_, conv_eq (by first | rfl | exact fI (by first | omega | grind) | (exfalso; first | omega | grind)), weakH_box (boxEq (by first | rfl | (rw [e]; done) | (rw [e]; rfl) | (simp_all; done))) rfl (weakH_none _), refsIn_ok rfl⟩
      case hR =>
        exact ⟨by omega, by omega⟩
    · replace hb9 := dT hb9
      refine ev_nil (hK8 _ ?_); clear hK8
      refine good_condT rfl ?_
      refine good_region rfl ?_
      refine ev_q rfl (q_move (by conv => lhs; whnf) ?_)
      refine ev_q rfl (q_int rfl rfl ?_)
      intro n12 hn12
      replace hn12 := in64 hn12 (by omega) (by omega)
      refine ev_q rfl (q_move (by conv => lhs; whnf) ?_)
      refine ev_k rfl (k_callR [(1000000, 1000000)] (D_spec_l00Src_next cs _ _  hc hb (by omega)) rfl (rfl) (rfl) ⟨rfl, trivial⟩ rfl (by rintro ⟨v13, a13, s13⟩ ⟨hx13_0, hx13_1⟩; exact ⟨⟨rfl, rfl, trivial⟩, rfl⟩) rfl rfl ?_)
      rintro ⟨v13, a13, s13⟩ ⟨hx13_0, hx13_1⟩
      refine ev_q rfl (q_int rfl rfl ?_)
      intro n14 hn14
      replace hn14 := in64 hn14 (by omega) (by omega)
      refine ev_q rfl (q_assign (by conv => lhs; whnf) ?_)
      refine ev_nil (hK7 _ ?_); clear hK7
      refine good_seq fun K15 hK15 => ?_
      refine good_region rfl ?_
      refine ev_q rfl (q_move (by conv => lhs; whnf) ?_)
      refine ev_q rfl (q_move (by conv => lhs; whnf) ?_)
      refine ev_q rfl (q_int rfl rfl ⟨by omega, ?_⟩)
      intro n16 hn16
      replace hn16 := remE hn16 (by omega)
      have hr : 0 ≤ n16 ∧ n16 < n := by rw [hn16]; exact ⟨Int.emod_nonneg _ (by omega), Int.emod_lt_of_pos _ (by omega)⟩
      refine ev_q rfl (q_assign (by conv => lhs; whnf) ?_)
      refine ev_nil (hK15 _ ?_); clear hK15
      refine good_ret ?_
      repeat (first | refine thenQ_ret ?_ | refine blockQ_ret ?_)
      apply ex_3
      case hF =>
        refine fx_tmp rfl (by conv => lhs; whnf) ?_
        exact ⟨_, conv_eq (by first | rfl | exact fI (by first | omega | grind) | (exfalso; first | omega | grind)), weakH_box (boxEq (by first | rfl | (rw [e]; done) | (rw [e]; rfl) | (simp_all; done))) rfl (weakH_none _), refsIn_ok rfl⟩
      case hR =>
        exact ⟨by omega, by omega⟩
  · replace hb4 := dT hb4
    refine ev_nil (hK3 _ ?_); clear hK3
    refine good_condT rfl ?_
    refine good_seq fun K17 hK17 => ?_
    refine good_region rfl ?_
    refine ev_q rfl (q_assign (by conv => lhs; whnf) ?_)
    refine ev_nil (hK17 _ ?_); clear hK17
    refine good_ret ?_
    repeat (first | refine thenQ_ret ?_ | refine blockQ_ret ?_)
    clear hK2
    apply ex_3
    case hF =>
      refine fx_tmp rfl (by conv => lhs; whnf) ?_
      exact ⟨_, conv_eq (by first | rfl | exact fI (by first | omega | grind) | (exfalso; first | omega | grind)), weakH_box (boxEq (by first | rfl | (rw [e]; done) | (rw [e]; rfl) | (simp_all; done))) rfl (weakH_none _), refsIn_ok rfl⟩
    case hR =>
      exact ⟨by omega, by omega⟩

-- (*spec.l00Src).among
set_option maxRecDepth 20000 in
set_option maxHeartbeats 2000000 in
theorem D_spec_l00Src_among (cs : List Int) (a s : Int) (xs : List Int) (hc : cs.length ≤ 17592186044416) (hb : byteL cs) (ha : 0 ≤ a ∧ a ≤ 3999999999999999998) (hx : 1 ≤ xs.length ∧ xs.length ≤ 1000000) : DenXR Try.prog 99 [(1000000, .box 133 (src cs a s)), (1000001, .row 2 1 (xs.map ci))] [.ptr 1000000 0, .own 1000001 xs.length] (τ := Int × Int × Int) (fun (v, a1, s1) => (v ∈ xs) ∧ (a ≤ a1 ∧ a1 ≤ a + 2)) (fun (v, a1, s1) => [(1000000, .box 133 (src cs a1 s1)), (1000001, .row 2 1 (xs.map ci))]) (fun (v, a1, s1) => .s (.int .i64 v)) := by
  refine denXR_of_good Try.func99 (by decide) rfl (Nat.le_of_ble_eq_true rfl) (Nat.le_of_ble_eq_true rfl) rfl ?_
  refine good_seq fun K1 hK1 => ?_
  refine good_region rfl ?_
  refine ev_q rfl (q_assign (by conv => lhs; whnf) ?_)
  refine ev_nil (hK1 _ ?_); clear hK1
  refine good_seq fun K2 hK2 => ?_
  refine good_region rfl ?_
  refine ev_q rfl (q_move (by conv => lhs; whnf) ?_)
  refine ev_q rfl (q_move (by conv => lhs; whnf) ?_)
  refine ev_q rfl (q_move (by conv => lhs; whnf) ?_)
  refine ev_q rfl (q_len tEs22 rfl ?_)
  intro n3 hn3
  try simp only [List.length_map] at hn3
  refine ev_k rfl (k_callR [(1000000, 1000000)] (D_spec_l00Src_pick cs _ _ _ hc hb (by omega) (by omega)) rfl (rfl) (rfl) ⟨rfl, trivial⟩ rfl (by rintro ⟨v4, a4, s4⟩ ⟨hx4_0, hx4_1⟩; exact ⟨⟨rfl, rfl, trivial⟩, rfl⟩) rfl rfl ?_)
  rintro ⟨v4, a4, s4⟩ ⟨hx4_0, hx4_1⟩
  obtain ⟨p, hp⟩ := getL (xs := xs) (n := v4) (by omega) (by omega)
  refine ev_q rfl (q_idxO tE22 rfl rfl rfl (by omega) (by omega) rfl ?_)
  refine ev_q rfl (q_loadE tA2 rfl rfl (by exact map_get hp) rfl ?_)
  refine ev_q rfl (q_assign (by conv => lhs; whnf) ?_)
  refine ev_nil (hK2 _ ?_); clear hK2
  refine good_ret ?_
  repeat (first | refine thenQ_ret ?_ | refine blockQ_ret ?_)
  apply ex_3
  case hF =>
    refine fx_tmp rfl (by conv => lhs; whnf) ?_
    exact ⟨_, conv_eq (by first | rfl | exact fI (by first | omega | grind) | (exfalso; first | omega | grind)), weakH_box (boxEq (by first | rfl | (rw [e]; done) | (rw [e]; rfl) | (simp_all; done))) rfl (weakH_row (rowEq (by first | rfl | (rw [e]; done) | (rw [e]; rfl) | (simp_all; done))) (weakH_none _)), refsIn_ok rfl⟩
  case hR =>
    exact ⟨List.mem_of_getElem? hp, by omega, by omega⟩

-- spec.l00From
set_option maxRecDepth 20000 in
set_option maxHeartbeats 2000000 in
theorem D_spec_l00From (cs : List Int)  : DenX Try.prog 97 [] [.lst 1 (cs.map cb)] [(5, .box 133 (src cs 0 0))] (.ptr 5 0) := by
  refine denX_of_good Try.func97 (by decide) rfl (Nat.le_of_ble_eq_true rfl) (Nat.le_of_ble_eq_true rfl) rfl ?_
  refine good_seq fun K1 hK1 => ?_
  refine good_region rfl ?_
  refine ev_q rfl (q_assign (by conv => lhs; whnf) ?_)
  refine ev_nil (hK1 _ ?_); clear hK1
  refine good_seq fun K2 hK2 => ?_
  refine good_region rfl ?_
  refine ev_q rfl (q_move (by conv => lhs; whnf) ?_)
  refine ev_k rfl (k_build zA133 pl133 (rfl) ?_)
  refine ev_k rfl (k_box (by conv => lhs; whnf) rfl rfl rfl ?_)
  refine ev_q rfl (q_assign (by conv => lhs; whnf) ?_)
  refine ev_nil (hK2 _ ?_); clear hK2
  refine good_ret ?_
  repeat (first | refine thenQ_ret ?_ | refine blockQ_ret ?_)
  refine fx_tmp rfl (by conv => lhs; whnf) ?_
  exact ⟨_, conv_eq (by first | rfl | (rw [e]; done) | (rw [e]; rfl) | exact ownEq (by first | omega | simp_all)), weakH_box (boxEq (by first | rfl | (rw [e]; done) | (rw [e]; rfl) | (simp_all; done))) rfl (weakH_none _), refsIn_ok rfl⟩

-- spec.l16DrawUsed
set_option maxRecDepth 20000 in
set_option maxHeartbeats 2000000 in
theorem D_spec_l16DrawUsed (cs : List Int) (a s : Int) (hc : cs.length ≤ 17592186044416) (hb : byteL cs) (ha : 0 ≤ a ∧ a ≤ 1000000000000000000) : DenXR Try.prog 98 [(1000000, .box 133 (src cs a s))] [.ptr 1000000 0] (τ := Int × List Int × Int × Int) (fun (f, xs, a1, s1) => xs.length ≤ 70 ∧ (a ≤ a1 ∧ a1 ≤ a + 100)) (fun (f, xs, a1, s1) => [(1000000, .box 133 (src cs a1 s1)), (900001, .row 2 1 (xs.map ci))]) (fun (f, xs, a1, s1) => .tup [.s (.int .i64 f), .own 900001 xs.length]) := by
  refine denXR_of_good Try.func98 (by decide) rfl (Nat.le_of_ble_eq_true rfl) (Nat.le_of_ble_eq_true rfl) rfl ?_
  refine good_seq fun K1 hK1 => ?_
  refine good_region rfl ?_
  refine ev_q rfl (q_assign (by conv => lhs; whnf) ?_)
  refine ev_q rfl (q_assign (by conv => lhs; whnf) ?_)
  refine ev_nil (hK1 _ ?_); clear hK1
  refine good_seq fun K2 hK2 => ?_
  refine good_region rfl ?_
  refine ev_k rfl (k_lit tE22 zA2 rfl rfl (by decide) (by decide) rfl rfl rfl ?_)
  refine ev_q rfl (q_assign (by conv => lhs; whnf) ?_)
  refine ev_nil (hK2 _ ?_); clear hK2
  refine good_seq fun K3 hK3 => ?_
  refine good_seq fun K4 hK4 => ?_
  refine good_region rfl ?_
  refine ev_q rfl (q_move (by conv => lhs; whnf) ?_)
  refine ev_k rfl (k_callR [(1000000, 1000000)] (D_spec_l00Src_pick cs _ _ _ hc hb (by omega) (by omega)) rfl (rfl) (rfl) ⟨rfl, trivial⟩ rfl (by rintro ⟨v5, a5, s5⟩ ⟨hx5_0, hx5_1⟩; exact ⟨⟨rfl, rfl, trivial⟩, rfl⟩) rfl rfl ?_)
  rintro ⟨v5, a5, s5⟩ ⟨hx5_0, hx5_1⟩
  refine ev_q rfl (q_assign (by conv => lhs; whnf) ?_)
  refine ev_nil (hK4 _ ?_); clear hK4
  refine good_block ?_
  refine good_loop (α := List Int × Int × Int × Int) (fun (u, k, a1, s1) => { env := upd (upd (upd ((fun _ => .junk)) 0 (.ptr 1000000 0)) 4 (.own 18 u.length)) 5 (.s (.int .i64 k)), H := upd (upd ((fun _ => none)) 1000000 (some (.box 133 (src cs a1 s1)))) 18 (some (.row 2 1 (u.map ci))) }) (fun (u, k, a1, s1) => (u.length + k ≤ 7 ∧ 0 ≤ k) ∧ (a ≤ a1 ∧ a1 ≤ a + 2 + 2 * u.length)) (fun (u, k, a1, s1) => k.toNat) ([], v5, a5, s5) ?_ ?_ ?_
  · exact ⟨by simp; omega, by simp; omega⟩
  · refine Sub.trans (sub_move 4 7 18 rfl rfl rfl (by decide)) ?_
    refine sub_weak ?_ ?_
    · exact weakH_row (rowEq (rfl)) (weakH_box (boxEq (rfl)) rfl (weakH_none _))
    · refine weakE_upd ?e5 ?r5 (weakE_upd ?e4 ?r4 (weakE_upd ?e0 ?r0 (weakE_junk _ _)))
      case e0 => first | rfl | exact fI (by omega) | (simp_all)
      case r0 => intro h hh; simp [refs] at hh; subst hh; rfl
      case e4 => first | rfl | exact fI (by omega) | (first | rfl | exact ownEq (by simp))
      case r4 => intro h hh; simp [refs] at hh; subst hh; rfl
      case e5 => first | rfl | exact fI (by omega) | (simp_all)
      case r5 => intro h hh; cases hh
  · rintro ⟨u, k, a1, s1⟩ ⟨hI, hJ⟩
    refine good_seq fun K6 hK6 => ?_
    refine good_seq fun K7 hK7 => ?_
    refine good_region rfl ?_
    refine ev_q rfl (q_move (by conv => lhs; whnf) ?_)
    refine ev_q rfl (q_int rfl rfl ?_)
    intro b8 hb8; cases b8
    · replace hb8 := dF hb8
      refine ev_nil (hK7 _ ?_); clear hK7
      refine good_condF rfl ?_
      refine good_exit ?_
      repeat (first | refine thenQ_exit ?_ | refine blockQ_pass rfl ?_)
      refine blockQ_exit (hK3 _ ?_); clear hK3
      refine good_seq fun K9 hK9 => ?_
      refine good_region rfl ?_
      refine ev_q rfl (q_move (by conv => lhs; whnf) ?_)
      refine ev_k rfl (k_callR [(1000000, 1000000)] (D_spec_l00Src_pick cs _ _ _ hc hb (by omega) (by omega)) rfl (rfl) (rfl) ⟨rfl, trivial⟩ rfl (by rintro ⟨v10, a10, s10⟩ ⟨hx10_0, hx10_1⟩; exact ⟨⟨rfl, rfl, trivial⟩, rfl⟩) rfl rfl ?_)
      rintro ⟨v10, a10, s10⟩ ⟨hx10_0, hx10_1⟩
      refine ev_q rfl (q_assign (by conv => lhs; whnf) ?_)
      refine ev_nil (hK9 _ ?_); clear hK9
      refine good_seq fun K11 hK11 => ?_
      refine good_seq fun K12 hK12 => ?_
      refine good_region rfl ?_
      refine ev_q rfl (q_move (by conv => lhs; whnf) ?_)
      refine ev_k rfl (k_callR [(1000000, 1000000)] (D_spec_l00Src_pick cs _ _ _ hc hb (by omega) (by omega)) rfl (rfl) (rfl) ⟨rfl, trivial⟩ rfl (by rintro ⟨v13, a13, s13⟩ ⟨hx13_0, hx13_1⟩; exact ⟨⟨rfl, rfl, trivial⟩, rfl⟩) rfl rfl ?_)
      rintro ⟨v13, a13, s13⟩ ⟨hx13_0, hx13_1⟩
      refine ev_nil (hK12 _ ?_); clear hK12
      refine good_block ?_
      refine good_seq fun K14 hK14 => ?_
      refine good_region rfl ?_
      refine ev_q rfl (q_int rfl rfl ?_)
      intro b15 hb15; cases b15
      · replace hb15 := eqF hb15
        refine ev_q rfl (q_assign (by conv => lhs; whnf) ?_)
        refine ev_nil (hK14 _ ?_); clear hK14
        refine good_condF rfl ?_
        refine good_seq fun K16 hK16 => ?_
        refine good_region rfl ?_
        refine ev_q rfl (q_int rfl rfl ?_)
        intro b17 hb17; cases b17
        · replace hb17 := eqF hb17
          refine ev_q rfl (q_assign (by conv => lhs; whnf) ?_)
          refine ev_nil (hK16 _ ?_); clear hK16
          refine good_condF rfl ?_
          refine good_seq fun K18 hK18 => ?_
          refine good_region rfl ?_
          refine ev_q rfl (q_int rfl rfl ?_)
          intro b19 hb19; cases b19
          · replace hb19 := eqF hb19
            refine ev_q rfl (q_assign (by conv => lhs; whnf) ?_)
            refine ev_nil (hK18 _ ?_); clear hK18
            refine good_condF rfl ?_
            refine good_skip (hK11 _ ?_); clear hK11
            refine good_seq fun K20 hK20 => ?_
            refine good_region rfl ?_
            refine ev_q rfl (q_move (by conv => lhs; whnf) ?_)
            refine ev_q rfl (q_move (by conv => lhs; whnf) ?_)
            refine ev_q rfl (q_assign (by conv => lhs; whnf) ?_)
            refine ev_q rfl (q_assign (by conv => lhs; whnf) ?_)
            refine ev_nil (hK20 _ ?_); clear hK20
            refine good_weak (sub_move 3 18 900001 rfl rfl rfl (by decide)) ?_
            refine good_ret ?_
            repeat (first | refine thenQ_ret ?_ | refine blockQ_ret ?_)
            clear hK6
            refine ex_4 (v := v10) (a := u) (b := a13) (c := s13) ?hF ?hR
            case hF =>
              refine fx_many rfl ?_
              refine fxs_tmp (by conv => lhs; whnf) ?_
              refine fxs_tmp (by conv => lhs; whnf) ?_
              refine fx_nil ?_
              exact ⟨_, .tup (.cons (conv_eq (by first | rfl | exact fI (by first | omega | grind) | (exfalso; first | omega | grind))) (.cons (conv_eq (by first | rfl | (rw [e]; done) | (rw [e]; rfl) | exact ownEq (by first | omega | simp_all))) (.nil))), weakH_box (boxEq (by first | rfl | (rw [e]; done) | (rw [e]; rfl) | (simp_all; done))) rfl (weakH_row (rowEq (by first | rfl | (rw [List.map_append]; rfl) | exact repC)) (weakH_none _)), refsIn_ok rfl⟩
            case hR =>
              exact ⟨by first | omega | (simp; omega), by omega⟩
          · replace hb19 := eqT hb19
            refine ev_q rfl (q_assign (by conv => lhs; whnf) ?_)
            refine ev_nil (hK18 _ ?_); clear hK18
            refine good_condT rfl ?_
            refine good_region rfl ?_
            refine ev_q rfl (q_move (by conv => lhs; whnf) ?_)
            refine ev_k rfl (k_lit tE22 zA2 rfl rfl (by decide) (by decide) rfl rfl rfl ?_)
            refine ev_k rfl (k_callR [(1000000, 1000000), (1000001, 39)] (D_spec_l00Src_among cs _ _ [64, 65] hc hb (by omega) (by decide)) rfl (rfl) (rfl) ⟨rfl, ⟨rfl, trivial⟩⟩ rfl (by rintro ⟨v21, a21, s21⟩ ⟨hx21_0, hx21_1⟩; exact ⟨⟨rfl, rfl, ⟨rfl, ⟨rfl, rfl, by first | exact Nat.le_refl _ | (simp; done) | (simp; omega)⟩, trivial⟩⟩, rfl⟩) rfl rfl ?_)
            rintro ⟨v21, a21, s21⟩ ⟨hx21_0, hx21_1⟩
            simp only [List.mem_cons, List.not_mem_nil, or_false] at hx21_0
            refine ev_k rfl (k_make tE22 rfl rfl zA2 tBy2 rfl (by omega) (by omega) (by omega) rfl (by rfl) ?_)
            refine ev_q rfl (q_assign (by conv => lhs; whnf) ?_)
            refine ev_nil (hK11 _ ?_); clear hK11
            refine good_seq fun K22 hK22 => ?_
            refine good_region rfl ?_
            refine ev_q rfl (q_move (by conv => lhs; whnf) ?_)
            refine ev_q rfl (q_move (by conv => lhs; whnf) ?_)
            refine ev_q rfl (q_assign (by conv => lhs; whnf) ?_)
            refine ev_q rfl (q_assign (by conv => lhs; whnf) ?_)
            refine ev_nil (hK22 _ ?_); clear hK22
            refine good_weak (sub_move 3 41 900001 rfl rfl rfl (by decide)) ?_
            refine good_ret ?_
            repeat (first | refine thenQ_ret ?_ | refine blockQ_ret ?_)
            clear hK6
            refine ex_4 (v := v10) (a := List.replicate v21.toNat 0) (b := a21) (c := s21) ?hF ?hR
            case hF =>
              refine fx_many rfl ?_
              refine fxs_tmp (by conv => lhs; whnf) ?_
              refine fxs_tmp (by conv => lhs; whnf) ?_
              refine fx_nil ?_
              exact ⟨_, .tup (.cons (conv_eq (by first | rfl | exact fI (by first | omega | grind) | (exfalso; first | omega | grind))) (.cons (conv_eq (by first | rfl | (rw [e]; done) | (rw [e]; rfl) | exact ownEq (by first | omega | simp_all))) (.nil))), weakH_box (boxEq (by first | rfl | (rw [e]; done) | (rw [e]; rfl) | (simp_all; done))) rfl (weakH_row (rowEq (by first | rfl | (rw [List.map_append]; rfl) | exact repC)) (weakH_none _)), refsIn_ok rfl⟩
            case hR =>
              exact ⟨by first | omega | (simp; omega), by omega⟩
        · replace hb17 := eqT hb17
          refine ev_q rfl (q_assign (by conv => lhs; whnf) ?_)
          refine ev_nil (hK16 _ ?_); clear hK16
          refine good_condT rfl ?_
          refine good_region rfl ?_
          refine ev_q rfl (q_move (by conv => lhs; whnf) ?_)
          refine ev_q rfl (q_move (by conv => lhs; whnf) ?_)
          refine ev_k rfl (k_lit tE22 zA2 rfl rfl (by decide) (by decide) rfl rfl rfl ?_)
          refine ev_k rfl (k_callR [(1000000, 1000000), (1000001, 32)] (D_spec_l00Src_among cs _ _ [(-1), 1000000000000, 1000000000001] hc hb (by omega) (by decide)) rfl (rfl) (rfl) ⟨rfl, ⟨rfl, trivial⟩⟩ rfl (by rintro ⟨v23, a23, s23⟩ ⟨hx23_0, hx23_1⟩; exact ⟨⟨rfl, rfl, ⟨rfl, ⟨rfl, rfl, by first | exact Nat.le_refl _ | (simp; done) | (simp; omega)⟩, trivial⟩⟩, rfl⟩) rfl rfl ?_)
          rintro ⟨v23, a23, s23⟩ ⟨hx23_0, hx23_1⟩
          simp only [List.mem_cons, List.not_mem_nil, or_false] at hx23_0
          refine ev_k rfl (k_lit tE22 zA2 rfl rfl (by decide) (by decide) rfl rfl rfl ?_)
          refine ev_k rfl (k_app tApp22 rfl rfl (by simp) rfl (.inl rfl) (by simp [maxLen]; omega) (by simp; omega) ?_)
          refine ev_q rfl (q_assign (by conv => lhs; whnf) ?_)
          refine ev_nil (hK11 _ ?_); clear hK11
          refine good_seq fun K24 hK24 => ?_
          refine good_region rfl ?_
          refine ev_q rfl (q_move (by conv => lhs; whnf) ?_)
          refine ev_q rfl (q_move (by conv => lhs; whnf) ?_)
          refine ev_q rfl (q_assign (by conv => lhs; whnf) ?_)
          refine ev_q rfl (q_assign (by conv => lhs; whnf) ?_)
          refine ev_nil (hK24 _ ?_); clear hK24
          refine good_weak (sub_move 3 35 900001 rfl rfl rfl (by decide)) ?_
          refine good_ret ?_
          repeat (first | refine thenQ_ret ?_ | refine blockQ_ret ?_)
          clear hK6
          refine ex_4 (v := v10) (a := u ++ [v23]) (b := a23) (c := s23) ?hF ?hR
          case hF =>
            refine fx_many rfl ?_
            refine fxs_tmp (by conv => lhs; whnf) ?_
            refine fxs_tmp (by conv => lhs; whnf) ?_
            refine fx_nil ?_
            exact ⟨_, .tup (.cons (conv_eq (by first | rfl | exact fI (by first | omega | grind) | (exfalso; first | omega | grind))) (.cons (conv_eq (by first | rfl | (rw [e]; done) | (rw [e]; rfl) | exact ownEq (by first | omega | simp_all))) (.nil))), weakH_box (boxEq (by first | rfl | (rw [e]; done) | (rw [e]; rfl) | (simp_all; done))) rfl (weakH_row (rowEq (by first | rfl | (rw [List.map_append]; rfl) | exact repC)) (weakH_none _)), refsIn_ok rfl⟩
          case hR =>
            exact ⟨by first | omega | (simp; omega), by omega⟩
      · replace hb15 := eqT hb15
        refine ev_q rfl (q_assign (by conv => lhs; whnf) ?_)
        refine ev_nil (hK14 _ ?_); clear hK14
        refine good_condT rfl ?_
        refine good_region rfl ?_
        refine ev_q rfl (q_move (by conv => lhs; whnf) ?_)
        refine ev_k rfl (k_lit tE22 zA2 rfl rfl (by decide) (by decide) rfl rfl rfl ?_)
        refine ev_k rfl (k_callR [(1000000, 1000000), (1000001, 26)] (D_spec_l00Src_among cs _ _ [(-1), 1000000000000, 1000000000001] hc hb (by omega) (by decide)) rfl (rfl) (rfl) ⟨rfl, ⟨rfl, trivial⟩⟩ rfl (by rintro ⟨v25, a25, s25⟩ ⟨hx25_0, hx25_1⟩; exact ⟨⟨rfl, rfl, ⟨rfl, ⟨rfl, rfl, by first | exact Nat.le_refl _ | (simp; done) | (simp; omega)⟩, trivial⟩⟩, rfl⟩) rfl rfl ?_)
        rintro ⟨v25, a25, s25⟩ ⟨hx25_0, hx25_1⟩
        simp only [List.mem_cons, List.not_mem_nil, or_false] at hx25_0
        refine ev_q rfl (q_assign (by conv => lhs; whnf) ?_)
        refine ev_nil (hK11 _ ?_); clear hK11
        refine good_seq fun K26 hK26 => ?_
        refine good_region rfl ?_
        refine ev_q rfl (q_move (by conv => lhs; whnf) ?_)
        refine ev_q rfl (q_move (by conv => lhs; whnf) ?_)
        refine ev_q rfl (q_assign (by conv => lhs; whnf) ?_)
        refine ev_q rfl (q_assign (by conv => lhs; whnf) ?_)
        refine ev_nil (hK26 _ ?_); clear hK26
        refine good_weak (sub_move 3 18 900001 rfl rfl rfl (by decide)) ?_
        refine good_ret ?_
        repeat (first | refine thenQ_ret ?_ | refine blockQ_ret ?_)
        clear hK6
        refine ex_4 (v := v25) (a := u) (b := a25) (c := s25) ?hF ?hR
        case hF =>
          refine fx_many rfl ?_
          refine fxs_tmp (by conv => lhs; whnf) ?_
          refine fxs_tmp (by conv => lhs; whnf) ?_
          refine fx_nil ?_
          exact ⟨_, .tup (.cons (conv_eq (by first | rfl | exact fI (by first | omega | grind) | (exfalso; first | omega | grind))) (.cons (conv_eq (by first | rfl | (rw [e]; done) | (rw [e]; rfl) | exact ownEq (by first | omega | simp_all))) (.nil))), weakH_box (boxEq (by first | rfl | (rw [e]; done) | (rw [e]; rfl) | (simp_all; done))) rfl (weakH_row (rowEq (by first | rfl | (rw [List.map_append]; rfl) | exact repC)) (weakH_none _)), refsIn_ok rfl⟩
        case hR =>
          exact ⟨by first | omega | (simp; omega), by omega⟩
    · replace hb8 := dT hb8
      refine ev_nil (hK7 _ ?_); clear hK7
      refine good_condT rfl ?_
      refine good_skip (hK6 _ ?_); clear hK6
      refine good_seq fun K27 hK27 => ?_
      refine good_block ?_
      refine good_region rfl ?_
      refine ev_q rfl (q_move (by conv => lhs; whnf) ?_)
      refine ev_q rfl (q_move (by conv => lhs; whnf) ?_)
      refine ev_k rfl (k_callR [(1000000, 1000000)] (D_spec_l00Src_pick cs _ _ _ hc hb (by omega) (by omega)) rfl (rfl) (rfl) ⟨rfl, trivial⟩ rfl (by rintro ⟨v28, a28, s28⟩ ⟨hx28_0, hx28_1⟩; exact ⟨⟨rfl, rfl, trivial⟩, rfl⟩) rfl rfl ?_)
      rintro ⟨v28, a28, s28⟩ ⟨hx28_0, hx28_1⟩
      refine ev_k rfl (k_lit tE22 zA2 rfl rfl (by decide) (by decide) rfl rfl rfl ?_)
      refine ev_k rfl (k_app tApp22 rfl rfl (by simp) rfl (.inr rfl) (by simp [maxLen]; omega) (by simp; omega) ?_)
      refine ev_q rfl (q_assign (by conv => lhs; whnf) ?_)
      refine ev_nil (hK27 _ ?_); clear hK27
      refine good_region rfl ?_
      refine ev_q rfl (q_move (by conv => lhs; whnf) ?_)
      refine ev_q rfl (q_int rfl rfl ?_)
      intro n29 hn29
      replace hn29 := in64 hn29 (by omega) (by omega)
      refine ev_q rfl (q_assign (by conv => lhs; whnf) ?_)
      refine ev_nil ?_
      clear hK3
      refine ⟨(u ++ [v28], k - 1, a28, s28), ?_, ?_, ?_⟩
      · exact ⟨by simp; omega, by simp; omega⟩
      · first | omega | (dsimp only; omega)
      · refine sub_weak ?_ ?_
        · exact weakH_row (rowEq (by rw [List.map_append]; rfl)) (weakH_box (boxEq (rfl)) rfl (weakH_none _))
        · refine weakE_upd ?e5 ?r5 (weakE_upd ?e4 ?r4 (weakE_upd ?e0 ?r0 (weakE_junk _ _)))
          case e0 => first | rfl | exact fI (by omega) | (simp_all)
          case r0 => intro h hh; simp [refs] at hh; subst hh; rfl
          case e4 => first | rfl | exact fI (by omega) | (first | rfl | exact ownEq (by simp))
          case r4 => intro h hh; simp [refs] at hh; subst hh; rfl
          case e5 => first | rfl | exact fI (by omega) | (simp_all)
          case r5 => intro h hh; cases hh

-- spec.DrawAllowanceCost
set_option maxRecDepth 20000 in
set_option maxHeartbeats 2000000 in
theorem D_spec_DrawAllowanceCost_X (cs : List Int) (hc : cs.length ≤ 17592186044416) (hb : byteL cs) : DenXR Try.prog 41 [] [.lst 1 (cs.map cb)] (τ := Int × Int × List Int) (fun (f, p, xs) => xs.length ≤ 70) (fun (f, p, xs) => [(900001, .row 2 1 (xs.map ci))]) (fun (f, p, xs) => .tup [.s (.int .i64 f), .s (.int .i64 p), .own 900001 xs.length]) := by
  refine denXR_of_good Try.func41 (by decide) rfl (Nat.le_of_ble_eq_true rfl) (Nat.le_of_ble_eq_true rfl) rfl ?_
  refine good_seq fun K1 hK1 => ?_
  refine good_region rfl ?_
  refine ev_q rfl (q_assign (by conv => lhs; whnf) ?_)
  refine ev_q rfl (q_assign (by conv => lhs; whnf) ?_)
  refine ev_q rfl (q_assign (by conv => lhs; whnf) ?_)
  refine ev_nil (hK1 _ ?_); clear hK1
  refine good_seq fun K2 hK2 => ?_
  refine good_region rfl ?_
  refine ev_q rfl (q_move (by conv => lhs; whnf) ?_)
  refine ev_k rfl (k_callX [(5, 900000)] (D_spec_l00From cs) rfl (rfl) (rfl) trivial ⟨⟨rfl, show (900000 : Nat) < 1000000 by decide⟩, trivial⟩ rfl rfl rfl ?_)
  refine ev_q rfl (q_assign (by conv => lhs; whnf) ?_)
  refine ev_nil (hK2 _ ?_); clear hK2
  refine good_seq fun K3 hK3 => ?_
  refine good_region rfl ?_
  refine ev_q rfl (q_move (by conv => lhs; whnf) ?_)
  refine ev_k rfl (k_callR [(1000000, 900000), (900001, 900001)] (D_spec_l16DrawUsed cs _ _ hc hb (by omega)) rfl (rfl) (rfl) ⟨rfl, trivial⟩ rfl (by rintro ⟨f4, x4, a4, s4⟩ ⟨hx4_0, hx4_1⟩; exact ⟨⟨rfl, rfl, ⟨⟨rfl, show (900001 : Nat) < 1000000 by decide⟩, trivial⟩⟩, rfl⟩) rfl rfl ?_)
  rintro ⟨f4, x4, a4, s4⟩ ⟨hx4_0, hx4_1⟩
  have hi1 := hx4_0
  refine ev_q rfl (q_move (by conv => lhs; whnf) ?_)
  refine ev_q rfl (q_extractI rfl rfl ?_)
  intro n5 hn5
  refine ev_q rfl (q_extract rfl rfl ?_)
  refine ev_q rfl (q_assign (by conv => lhs; whnf) ?_)
  refine ev_q rfl (q_assign (by conv => lhs; whnf) ?_)
  refine ev_nil (hK3 _ ?_); clear hK3
  refine good_seq fun K6 hK6 => ?_
  refine good_region rfl ?_
  refine ev_q rfl (q_move (by conv => lhs; whnf) ?_)
  refine ev_q rfl (q_move (by conv => lhs; whnf) ?_)
  refine ev_k rfl (k_lit tE22 zA2 rfl rfl (by decide) (by decide) rfl rfl rfl ?_)
  refine ev_k rfl (k_callR [(1000000, 900000), (1000001, 17)] (D_spec_l00Src_among cs _ _ [0, 1, 50, 1000, 1001, (-1)] hc hb (by omega) (by decide)) rfl (rfl) (rfl) ⟨rfl, ⟨rfl, trivial⟩⟩ rfl (by rintro ⟨v7, a7, s7⟩ ⟨hx7_0, hx7_1⟩; exact ⟨⟨rfl, rfl, ⟨rfl, ⟨rfl, rfl, by first | exact Nat.le_refl _ | (simp; done) | (simp; omega)⟩, trivial⟩⟩, rfl⟩) rfl rfl ?_)
  rintro ⟨v7, a7, s7⟩ ⟨hx7_0, hx7_1⟩
  simp only [List.mem_cons, List.not_mem_nil, or_false] at hx7_0
  refine ev_q rfl (q_move (by conv => lhs; whnf) ?_)
  refine ev_q rfl (q_assign (by conv => lhs; whnf) ?_)
  refine ev_q rfl (q_assign (by conv => lhs; whnf) ?_)
  refine ev_q rfl (q_assign (by conv => lhs; whnf) ?_)
  refine ev_nil (hK6 _ ?_); clear hK6
  refine good_ret ?_
  repeat (first | refine thenQ_ret ?_ | refine blockQ_ret ?_)
  refine ex_3 (v := f4) (a := v7) (b := x4) ?hF ?hR
  case hF =>
    refine fx_many rfl ?_
    refine fxs_tmp (by conv => lhs; whnf) ?_
    refine fxs_tmp (by conv => lhs; whnf) ?_
    refine fxs_tmp (by conv => lhs; whnf) ?_
    refine fx_nil ?_
    exact ⟨_, .tup (.cons (conv_eq (by first | rfl | exact fI (by first | omega | grind) | (exfalso; first | omega | grind))) (.cons (conv_eq (by first | rfl | exact fI (by first | omega | grind) | (exfalso; first | omega | grind))) (.cons (conv_eq (by first | rfl | (rw [e]; done) | (rw [e]; rfl) | exact ownEq (by first | omega | simp_all))) (.nil)))), weakH_row (rowEq (by first | rfl | (rw [e]; done) | (rw [e]; rfl) | (simp_all; done))) (weakH_none _), refsIn_ok rfl⟩
  case hR =>
    exact hi1
theorem D_spec_DrawAllowanceCost (cs : List Int) (hc : cs.length ≤ 17592186044416) (hb : byteL cs) : DenR Try.prog 41 [.lst 1 (cs.map cb)] (τ := Int × Int × List Int) (fun (f, p, xs) => xs.length ≤ 70) (fun (f, p, xs) => .tup [.s (.int .i64 f), .s (.int .i64 p), .lst 1 (xs.map ci)]) :=
  denR_of_denXR (D_spec_DrawAllowanceCost_X cs hc hb) (by rintro ⟨f, p, xs⟩ _; change (some (.tup [.s (.int .i64 f), .s (.int .i64 p), .lst 1 (List.take xs.length (xs.map ci))]) : Option AV) = some (.tup [.s (.int .i64 f), .s (.int .i64 p), .lst 1 (xs.map ci)]); simp only [takeMap])

-- laws.b10Long
set_option maxRecDepth 20000 in
set_option maxHeartbeats 2000000 in
theorem D_laws_b10Long (cs : List Int)  : Den Try.prog 40 [.lst 1 (cs.map cb)] (.s (.bool (decide ((cs.length : Int) > 1048576)))) := by
  refine den_of_good Try.func40 (by decide) rfl (Nat.le_of_ble_eq_true rfl) (Nat.le_of_ble_eq_true rfl) ?_
  refine good_seq fun K1 hK1 => ?_
  refine good_region rfl ?_
  refine ev_q rfl (q_assign (by conv => lhs; whnf) ?_)
  refine ev_nil (hK1 _ ?_); clear hK1
  refine good_seq fun K2 hK2 => ?_
  refine good_region rfl ?_
  refine ev_q rfl (q_move (by conv => lhs; whnf) ?_)
  refine ev_q rfl (q_len tEs59 rfl ?_)
  intro n3 hn3
  try simp only [List.length_map] at hn3
  refine ev_q rfl (q_int rfl rfl ?_)
  intro b4 hb4; cases b4
  · replace hb4 := dF hb4
    refine ev_q rfl (q_assign (by conv => lhs; whnf) ?_)
    refine ev_nil (hK2 _ ?_); clear hK2
    refine good_ret ?_
    repeat (first | refine thenQ_ret ?_ | refine blockQ_ret ?_)
    refine ret_tmp (st := _) rfl (by conv => lhs; whnf) rfl ?_
    first | exact fT (by omega) | exact fF (by omega)
  · replace hb4 := dT hb4
    refine ev_q rfl (q_assign (by conv => lhs; whnf) ?_)
    refine ev_nil (hK2 _ ?_); clear hK2
    refine good_ret ?_
    repeat (first | refine thenQ_ret ?_ | refine blockQ_ret ?_)
    refine ret_tmp (st := _) rfl (by conv => lhs; whnf) rfl ?_
    first | exact fT (by omega) | exact fF (by omega)

-- laws.b10Sum
set_option maxRecDepth 20000 in
set_option maxHeartbeats 2000000 in
theorem D_laws_b10Sum (xs : List Int) (hx : xs.length ≤ 64) (hw : within xs 0 1000000000000) : Den Try.prog 44 [.lst 1 (xs.map ci)] (.s (.int .i64 (sumG xs xs.length))) := by
  refine den_of_good Try.func44 (by decide) rfl (Nat.le_of_ble_eq_true rfl) (Nat.le_of_ble_eq_true rfl) ?_
  refine good_seq fun K1 hK1 => ?_
  refine good_region rfl ?_
  refine ev_q rfl (q_assign (by conv => lhs; whnf) ?_)
  refine ev_nil (hK1 _ ?_); clear hK1
  refine good_seq fun K2 hK2 => ?_
  refine good_region rfl ?_
  refine ev_q rfl (q_assign (by conv => lhs; whnf) ?_)
  refine ev_nil (hK2 _ ?_); clear hK2
  refine good_seq fun K3 hK3 => ?_
  refine good_seq fun K4 hK4 => ?_
  refine good_region rfl ?_
  refine ev_q rfl (q_assign (by conv => lhs; whnf) ?_)
  refine ev_nil (hK4 _ ?_); clear hK4
  refine good_block ?_
  refine good_loop (α := Nat) (fun i => { env := upd (upd (upd ((fun _ => .junk)) 0 (.lst 1 (xs.map ci))) 3 (.s (.int .i64 (sumG xs i)))) 4 (.s (.int .i64 i)), H := fun _ => none }) (fun i => i ≤ xs.length) (fun i => xs.length - i) 0 ?_ ?_ ?_
  · show 0 ≤ _; omega
  · refine sub_weak ?_ ?_
    · exact weakH_none _
    · refine weakE_upd ?e4 ?r4 (weakE_upd ?e3 ?r3 (weakE_upd ?e0 ?r0 (weakE_junk _ _)))
      case e0 => first | rfl | exact fI (by omega) | (simp_all)
      case r0 => intro h hh; cases hh
      case e3 => first | rfl | exact fI (by omega) | (first | rfl | exact fI (by omega))
      case r3 => intro h hh; cases hh
      case e4 => first | rfl | exact fI (by omega) | (simp_all)
      case r4 => intro h hh; cases hh
  · rintro i hI
    refine good_seq fun K5 hK5 => ?_
    refine good_seq fun K6 hK6 => ?_
    refine good_region rfl ?_
    refine ev_q rfl (q_move (by conv => lhs; whnf) ?_)
    refine ev_q rfl (q_move (by conv => lhs; whnf) ?_)
    refine ev_q rfl (q_len tEs22 rfl ?_)
    intro n7 hn7
    try simp only [List.length_map] at hn7
    refine ev_q rfl (q_int rfl rfl ?_)
    intro b8 hb8; cases b8
    · replace hb8 := dF hb8
      refine ev_nil (hK6 _ ?_); clear hK6
      refine good_condF rfl ?_
      refine good_exit ?_
      repeat (first | refine thenQ_exit ?_ | refine blockQ_pass rfl ?_)
      refine blockQ_exit (hK3 _ ?_); clear hK3
      refine good_seq fun K9 hK9 => ?_
      refine good_region rfl ?_
      refine ev_q rfl (q_move (by conv => lhs; whnf) ?_)
      refine ev_q rfl (q_assign (by conv => lhs; whnf) ?_)
      refine ev_nil (hK9 _ ?_); clear hK9
      refine good_ret ?_
      repeat (first | refine thenQ_ret ?_ | refine blockQ_ret ?_)
      refine ret_tmp (st := _) rfl (by conv => lhs; whnf) rfl ?_
      clear hK5
      exact fI (by rw [show xs.length = i by omega])
    · replace hb8 := dT hb8
      obtain ⟨p, hp⟩ := getL (xs := xs) (n := (i : Int)) (by omega) (by omega)
      replace hp : xs[i]? = some p := hp
      have hbd := sumG_bd hw i hI
      have hpb := hw i p hp
      have hst := sumG_s hp
      refine ev_nil (hK6 _ ?_); clear hK6
      refine good_condT rfl ?_
      refine good_skip (hK5 _ ?_); clear hK5
      refine good_seq fun K10 hK10 => ?_
      refine good_block ?_
      refine good_region rfl ?_
      refine ev_q rfl (q_move (by conv => lhs; whnf) ?_)
      refine ev_q rfl (q_move (by conv => lhs; whnf) ?_)
      refine ev_q rfl (q_move (by conv => lhs; whnf) ?_)
      refine ev_q rfl (q_idx tE22 rfl rfl (by exact Int.natCast_nonneg _) (by exact map_get hp) rfl ?_)
      refine ev_q rfl (q_load tA2 rfl ?_)
      refine ev_q rfl (q_int rfl rfl ?_)
      intro n11 hn11
      replace hn11 := in64 hn11 (by omega) (by omega)
      refine ev_q rfl (q_assign (by conv => lhs; whnf) ?_)
      refine ev_nil (hK10 _ ?_); clear hK10
      refine good_region rfl ?_
      refine ev_q rfl (q_move (by conv => lhs; whnf) ?_)
      refine ev_q rfl (q_int rfl rfl ?_)
      intro n12 hn12
      replace hn12 := in64 hn12 (by omega) (by omega)
      refine ev_q rfl (q_assign (by conv => lhs; whnf) ?_)
      refine ev_nil ?_
      clear hK3
      refine ⟨i + 1, ?_, ?_, ?_⟩
      · show _ ≤ _; omega
      · first | omega | (simp only []; omega) | (dsimp only; omega)
      · refine sub_weak ?_ ?_
        · exact weakH_none _
        · refine weakE_upd ?e4 ?r4 (weakE_upd ?e3 ?r3 (weakE_upd ?e0 ?r0 (weakE_junk _ _)))
          case e0 => first | rfl | exact fI (by omega) | (simp_all)
          case r0 => intro h hh; cases hh
          case e3 => first | rfl | exact fI (by omega) | (first | rfl | exact fI (by omega))
          case r3 => intro h hh; cases hh
          case e4 => first | rfl | exact fI (by omega) | (simp_all)
          case r4 => intro h hh; cases hh

-- laws.FnAllowances
set_option maxRecDepth 20000 in
set_option maxHeartbeats 2000000 in
theorem D_laws_FnAllowances (cs : List Int) (hb : byteL cs) : Den Try.prog 10 [.lst 1 (cs.map cb)] (.s (.bool true)) := by
  refine den_of_good Try.func10 (by decide) rfl (Nat.le_of_ble_eq_true rfl) (Nat.le_of_ble_eq_true rfl) ?_
  refine good_seq fun K1 hK1 => ?_
  refine good_region rfl ?_
  refine ev_q rfl (q_assign (by conv => lhs; whnf) ?_)
  refine ev_nil (hK1 _ ?_); clear hK1
  refine good_seq fun K2 hK2 => ?_
  refine good_seq fun K3 hK3 => ?_
  refine good_region rfl ?_
  refine ev_q rfl (q_move (by conv => lhs; whnf) ?_)
  refine ev_q rfl (q_callB rfl rfl (rfl) (D_laws_b10Long cs) ?_)
  intro b4 hb4; cases b4
  · first | replace hb4 := dF hb4 | skip
    refine ev_nil (hK3 _ ?_); clear hK3
    refine good_condF rfl ?_
    refine good_skip (hK2 _ ?_); clear hK2
    refine good_seq fun K5 hK5 => ?_
    refine good_region rfl ?_
    refine ev_q rfl (q_move (by conv => lhs; whnf) ?_)
    refine ev_k rfl (k_callR [] (D_spec_DrawAllowanceCost cs (by omega) hb) rfl (rfl) (rfl) trivial rfl (by rintro ⟨f6, p6, x6⟩ hx6_0; exact ⟨trivial, rfl⟩) rfl rfl ?_)
    rintro ⟨f6, p6, x6⟩ hx6_0
    have hz := hx6_0
    refine ev_q rfl (q_move (by conv => lhs; whnf) ?_)
    refine ev_q rfl (q_extractI rfl rfl ?_)
    intro n7 hn7
    refine ev_q rfl (q_extractI rfl rfl ?_)
    intro n8 hn8
    refine ev_q rfl (q_extract rfl rfl ?_)
    refine ev_q rfl (q_assign (by conv => lhs; whnf) ?_)
    refine ev_q rfl (q_assign (by conv => lhs; whnf) ?_)
    refine ev_q rfl (q_assign (by conv => lhs; whnf) ?_)
    refine ev_nil (hK5 _ ?_); clear hK5
    refine good_seq fun K9 hK9 => ?_
    refine good_region rfl ?_
    refine ev_q rfl (q_move (by conv => lhs; whnf) ?_)
    refine ev_q rfl (q_move (by conv => lhs; whnf) ?_)
    refine ev_q rfl (q_call rfl rfl (rfl) (D_impl_AllowancesLeft _ _ (by omega)) rfl ?_)
    refine ev_q rfl (q_move (by conv => lhs; whnf) ?_)
    refine ev_q rfl (q_extract rfl rfl ?_)
    refine ev_q rfl (q_extractI rfl rfl ?_)
    intro n10 hn10
    refine ev_q rfl (q_assign (by conv => lhs; whnf) ?_)
    refine ev_q rfl (q_assign (by conv => lhs; whnf) ?_)
    refine ev_nil (hK9 _ ?_); clear hK9
    refine good_seq fun K11 hK11 => ?_
    refine good_region rfl ?_
    refine ev_q rfl (q_move (by conv => lhs; whnf) ?_)
    refine ev_q rfl (q_move (by conv => lhs; whnf) ?_)
    refine ev_q rfl (q_call rfl rfl (rfl) (D_impl_AllowanceCost _ _ _ (by omega)) rfl ?_)
    refine ev_q rfl (q_move (by conv => lhs; whnf) ?_)
    refine ev_q rfl (q_extractI rfl rfl ?_)
    intro n12 hn12
    refine ev_q rfl (q_extractI rfl rfl ?_)
    intro n13 hn13
    refine ev_q rfl (q_assign (by conv => lhs; whnf) ?_)
    refine ev_q rfl (q_assign (by conv => lhs; whnf) ?_)
    refine ev_nil (hK11 _ ?_); clear hK11
    refine good_seq fun K14 hK14 => ?_
    refine good_region rfl ?_
    refine ev_q rfl (q_move (by conv => lhs; whnf) ?_)
    refine ev_q rfl (q_move (by conv => lhs; whnf) ?_)
    refine ev_q rfl (q_move (by conv => lhs; whnf) ?_)
    refine ev_q rfl (q_call rfl rfl (rfl) (D_impl_AllowanceCost _ _ _ (by omega)) rfl ?_)
    refine ev_q rfl (q_move (by conv => lhs; whnf) ?_)
    refine ev_q rfl (q_extractI rfl rfl ?_)
    intro n15 hn15
    refine ev_q rfl (q_extractI rfl rfl ?_)
    intro n16 hn16
    refine ev_q rfl (q_assign (by conv => lhs; whnf) ?_)
    refine ev_q rfl (q_assign (by conv => lhs; whnf) ?_)
    refine ev_nil (hK14 _ ?_); clear hK14
    refine good_seq fun K17 hK17 => ?_
    refine good_seq fun K18 hK18 => ?_
    refine good_region rfl ?_
    have hw := alw hn10 hn12 hn13 hn15 hn16
    obtain ⟨w1, w2, w3, w4⟩ := hw
    clear hn10 hn12 hn13 hn15 hn16
    refine ev_q rfl (q_move (by conv => lhs; whnf) ?_)
    refine ev_q rfl (q_move (by conv => lhs; whnf) ?_)
    refine ev_q rfl (q_int rfl rfl ?_)
    intro b19 hb19; cases b19
    · replace hb19 := neF hb19
      refine ev_nil (hK18 _ ?_); clear hK18
      refine good_condF rfl ?_
      refine good_skip (hK17 _ ?_); clear hK17
      refine good_seq fun K20 hK20 => ?_
      refine good_seq fun K21 hK21 => ?_
      refine good_region rfl ?_
      refine ev_q rfl (q_move (by conv => lhs; whnf) ?_)
      refine ev_q rfl (q_int rfl rfl ?_)
      intro b22 hb22; cases b22
      · replace hb22 := neF hb22
        refine ev_nil (hK21 _ ?_); clear hK21
        refine good_condF rfl ?_
        refine good_skip (hK20 _ ?_); clear hK20
        refine good_seq fun K23 hK23 => ?_
        refine good_seq fun K24 hK24 => ?_
        refine good_region rfl ?_
        obtain ⟨hok, w5, w6⟩ := w3 (by omega)
        have hbd := alG_bd hok.1 hok.2.2.2
        have hl64 := hok.2.2.1
        have eL := alLf_ok hok
        have hba := hbd x6.length (Nat.le_refl _)
        rw [alG_all (Nat.le_refl _)] at hba
        refine ev_q rfl (q_move (by conv => lhs; whnf) ?_)
        refine ev_q rfl (q_len tEs22 rfl ?_)
        intro n25 hn25
        try simp only [List.length_map] at hn25
        refine ev_q rfl (q_move (by conv => lhs; whnf) ?_)
        refine ev_q rfl (q_len tEs22 rfl ?_)
        intro n26 hn26
        try simp only [List.length_map] at hn26
        refine ev_q rfl (q_int rfl rfl ?_)
        intro b27 hb27; cases b27
        · replace hb27 := neF hb27
          refine ev_q rfl (q_move (by conv => lhs; whnf) ?_)
          refine ev_q rfl (q_move (by conv => lhs; whnf) ?_)
          refine ev_q rfl (q_int rfl rfl ?_)
          intro b28 hb28; cases b28
          · replace hb28 := eqF hb28
            refine ev_q rfl (q_move (by conv => lhs; whnf) ?_)
            refine ev_skip rfl ?_
            refine ev_skip rfl ?_
            refine ev_skip rfl ?_
            refine ev_skip rfl ?_
            refine ev_skip rfl ?_
            refine ev_q rfl (q_pickF rfl (by conv => lhs; whnf) ?_)
            refine ev_q rfl (q_pickF rfl (by conv => lhs; whnf) ?_)
            refine ev_nil (hK24 _ ?_); clear hK24
            refine good_condF rfl ?_
            refine good_skip (hK23 _ ?_); clear hK23
            refine good_seq fun K29 hK29 => ?_
            refine good_region rfl ?_
            refine ev_q rfl (q_assign (by conv => lhs; whnf) ?_)
            refine ev_nil (hK29 _ ?_); clear hK29
            refine good_seq fun K30 hK30 => ?_
            refine good_seq fun K31 hK31 => ?_
            refine good_region rfl ?_
            refine ev_q rfl (q_assign (by conv => lhs; whnf) ?_)
            refine ev_nil (hK31 _ ?_); clear hK31
            refine good_block ?_
            refine good_loop (α := Nat) (fun i => { env := upd (upd (upd (upd (upd (upd ((fun _ => .junk)) 3 (.s (.int .i64 (n7)))) 5 (.lst 1 (x6.map ci))) 6 (.lst 1 ((alLf n7 x6).map ci))) 8 (.s (.int .i64 (n12)))) 12 (.s (.int .i64 ((alG n7 x6 i).1)))) 13 (.s (.int .i64 i)), H := fun _ => none }) (fun i => i ≤ x6.length) (fun i => x6.length - i) 0 ?_ ?_ ?_
            · show 0 ≤ _; omega
            · refine sub_weak ?_ ?_
              · exact weakH_none _
              · refine weakE_upd ?e13 ?r13 (weakE_upd ?e12 ?r12 (weakE_upd ?e8 ?r8 (weakE_upd ?e6 ?r6 (weakE_upd ?e5 ?r5 (weakE_upd ?e3 ?r3 (weakE_junk _ _))))))
                case e3 => first | rfl | exact fI (by omega) | (simp_all)
                case r3 => intro h hh; cases hh
                case e5 => first | rfl | exact fI (by omega) | (simp_all)
                case r5 => intro h hh; cases hh
                case e6 => first | rfl | exact fI (by omega) | (simp_all)
                case r6 => intro h hh; cases hh
                case e8 => first | rfl | exact fI (by omega) | (simp_all)
                case r8 => intro h hh; cases hh
                case e12 => first | rfl | exact fI (by omega) | (first | rfl | (simp [alG, alF]; done))
                case r12 => intro h hh; cases hh
                case e13 => first | rfl | exact fI (by omega) | (simp_all)
                case r13 => intro h hh; cases hh
            · rintro i hI
              refine good_seq fun K32 hK32 => ?_
              refine good_seq fun K33 hK33 => ?_
              refine good_region rfl ?_
              refine ev_q rfl (q_move (by conv => lhs; whnf) ?_)
              refine ev_q rfl (q_move (by conv => lhs; whnf) ?_)
              refine ev_q rfl (q_len tEs22 rfl ?_)
              intro n34 hn34
              try simp only [List.length_map] at hn34
              refine ev_q rfl (q_int rfl rfl ?_)
              intro b35 hb35; cases b35
              · replace hb35 := dF hb35
                refine ev_nil (hK33 _ ?_); clear hK33
                refine good_condF rfl ?_
                refine good_exit ?_
                repeat (first | refine thenQ_exit ?_ | refine blockQ_pass rfl ?_)
                refine blockQ_exit (hK30 _ ?_); clear hK30
                refine good_seq fun K36 hK36 => ?_
                refine good_region rfl ?_
                refine ev_q rfl (q_move (by conv => lhs; whnf) ?_)
                refine ev_q rfl (q_move (by conv => lhs; whnf) ?_)
                refine ev_q rfl (q_len tEs22 rfl ?_)
                intro n37 hn37
                try simp only [List.length_map] at hn37
                have hf0 := hok.1
                refine ev_q rfl (q_int rfl rfl ?_)
                intro n38 hn38
                have hm := mulB (a := n7) (b := n37) (A := 1000000000000) (B := 64) (by omega) (by omega) (by omega) (by omega)
                replace hn38 := in64 hn38 (by omega) (by omega)
                refine ev_q rfl (q_move (by conv => lhs; whnf) ?_)
                refine ev_q rfl (q_int rfl rfl ?_)
                intro n39 hn39
                replace hn39 := in64 hn39 (by omega) (by omega)
                refine ev_q rfl (q_move (by conv => lhs; whnf) ?_)
                refine ev_q rfl (q_callI rfl rfl (rfl) (D_laws_b10Sum _ (by omega) hok.2.2.2) ?_)
                intro n40 hn40
                refine ev_q rfl (q_move (by conv => lhs; whnf) ?_)
                refine ev_q rfl (q_int rfl rfl ?_)
                intro n41 hn41
                have ei : i = x6.length := by omega
                subst ei
                rw [alG_all (Nat.le_refl _)] at hn41
                have hsb := sumG_bd hok.2.2.2 x6.length (Nat.le_refl _)
                replace hn41 := in64 hn41 (by omega) (by omega)
                have e92 : n38 = n7 * ((x6.length : Nat) : Int) := by rw [hn38, hn37]
                have hinv := alInv (free := n7) (xs := x6) x6.length (Nat.le_refl _)
                rw [alG_all (Nat.le_refl _)] at hinv
                refine ev_q rfl (q_int rfl rfl ?_)
                intro b42 hb42; cases b42
                · replace hb42 := eqF hb42
                  exfalso; omega
                · replace hb42 := eqT hb42
                  refine ev_q rfl (q_assign (by conv => lhs; whnf) ?_)
                  refine ev_nil (hK36 _ ?_); clear hK36
                  refine good_ret ?_
                  repeat (first | refine thenQ_ret ?_ | refine blockQ_ret ?_)
                  refine ret_tmp (st := _) rfl (by conv => lhs; whnf) rfl ?_
                  clear hK32
                  first | rfl | (exfalso; omega)
              · replace hb35 := dT hb35
                have hbi := hbd (i + 1) (by omega)
                refine ev_nil (hK33 _ ?_); clear hK33
                refine good_condT rfl ?_
                refine good_skip (hK32 _ ?_); clear hK32
                refine good_seq fun K43 hK43 => ?_
                refine good_block ?_
                refine good_seq fun K44 hK44 => ?_
                refine good_seq fun K45 hK45 => ?_
                refine good_region rfl ?_
                refine ev_q rfl (q_move (by conv => lhs; whnf) ?_)
                refine ev_q rfl (q_move (by conv => lhs; whnf) ?_)
                refine ev_q rfl (q_idx tE22 rfl rfl (by exact Int.natCast_nonneg _) (by rw [eL]; exact map_get (alL_get (j := i) (by omega))) rfl ?_)
                refine ev_q rfl (q_load tA2 rfl ?_)
                refine ev_q rfl (q_int rfl rfl ?_)
                intro b46 hb46; cases b46
                · replace hb46 := dF hb46
                  refine ev_nil (hK45 _ ?_); clear hK45
                  refine good_condF rfl ?_
                  refine good_skip (hK44 _ ?_); clear hK44
                  refine good_region rfl ?_
                  refine ev_q rfl (q_move (by conv => lhs; whnf) ?_)
                  refine ev_q rfl (q_move (by conv => lhs; whnf) ?_)
                  refine ev_q rfl (q_idx tE22 rfl rfl (by exact Int.natCast_nonneg _) (by rw [eL]; exact map_get (alL_get (j := i) (by omega))) rfl ?_)
                  refine ev_q rfl (q_load tA2 rfl ?_)
                  refine ev_q rfl (q_assign (by conv => lhs; whnf) ?_)
                  refine ev_nil (hK43 _ ?_); clear hK43
                  refine good_region rfl ?_
                  refine ev_q rfl (q_move (by conv => lhs; whnf) ?_)
                  refine ev_q rfl (q_int rfl rfl ?_)
                  intro n47 hn47
                  replace hn47 := in64 hn47 (by omega) (by omega)
                  refine ev_q rfl (q_assign (by conv => lhs; whnf) ?_)
                  refine ev_nil ?_
                  clear hK30
                  refine ⟨i + 1, ?_, ?_, ?_⟩
                  · show _ ≤ _; omega
                  · first | omega | (simp only []; omega) | (dsimp only; omega)
                  · refine sub_weak ?_ ?_
                    · exact weakH_none _
                    · refine weakE_upd ?e13 ?r13 (weakE_upd ?e12 ?r12 (weakE_upd ?e8 ?r8 (weakE_upd ?e6 ?r6 (weakE_upd ?e5 ?r5 (weakE_upd ?e3 ?r3 (weakE_junk _ _))))))
                      case e3 => first | rfl | exact fI (by omega) | (simp_all)
                      case r3 => intro h hh; cases hh
                      case e5 => first | rfl | exact fI (by omega) | (simp_all)
                      case r5 => intro h hh; cases hh
                      case e6 => first | rfl | exact fI (by omega) | (simp_all)
                      case r6 => intro h hh; cases hh
                      case e8 => first | rfl | exact fI (by omega) | (simp_all)
                      case r8 => intro h hh; cases hh
                      case e12 => first | rfl | exact fI (by omega) | (first | rfl | (simp [alG, alF]; done))
                      case r12 => intro h hh; cases hh
                      case e13 => first | rfl | exact fI (by omega) | (simp_all)
                      case r13 => intro h hh; cases hh
                · replace hb46 := dT hb46
                  exfalso; omega
          · replace hb28 := eqT hb28
            refine ev_q rfl (q_move (by conv => lhs; whnf) ?_)
            refine ev_q rfl (q_move (by conv => lhs; whnf) ?_)
            refine ev_q rfl (q_move (by conv => lhs; whnf) ?_)
            refine ev_q rfl (q_move (by conv => lhs; whnf) ?_)
            refine ev_q rfl (q_int rfl rfl ?_)
            intro n48 hn48
            obtain ⟨w7, w8⟩ := w4 (by omega)
            have hm3 := mulB3 (a := n12) (b := n8) (by omega) (by omega)
            replace hn48 := in64 hn48 (by omega) (by omega)
            have e70 : n48 = n12 * n8 := hn48
            refine ev_q rfl (q_int rfl rfl ?_)
            intro b49 hb49; cases b49
            · replace hb49 := neF hb49
              refine ev_q rfl (q_pickT rfl (by conv => lhs; whnf) ?_)
              refine ev_q rfl (q_pickF rfl (by conv => lhs; whnf) ?_)
              refine ev_nil (hK24 _ ?_); clear hK24
              refine good_condF rfl ?_
              refine good_skip (hK23 _ ?_); clear hK23
              refine good_seq fun K50 hK50 => ?_
              refine good_region rfl ?_
              refine ev_q rfl (q_assign (by conv => lhs; whnf) ?_)
              refine ev_nil (hK50 _ ?_); clear hK50
              refine good_seq fun K51 hK51 => ?_
              refine good_seq fun K52 hK52 => ?_
              refine good_region rfl ?_
              refine ev_q rfl (q_assign (by conv => lhs; whnf) ?_)
              refine ev_nil (hK52 _ ?_); clear hK52
              refine good_block ?_
              refine good_loop (α := Nat) (fun i => { env := upd (upd (upd (upd (upd (upd ((fun _ => .junk)) 3 (.s (.int .i64 (n7)))) 5 (.lst 1 (x6.map ci))) 6 (.lst 1 ((alLf n7 x6).map ci))) 8 (.s (.int .i64 (n12)))) 12 (.s (.int .i64 ((alG n7 x6 i).1)))) 13 (.s (.int .i64 i)), H := fun _ => none }) (fun i => i ≤ x6.length) (fun i => x6.length - i) 0 ?_ ?_ ?_
              · show 0 ≤ _; omega
              · refine sub_weak ?_ ?_
                · exact weakH_none _
                · refine weakE_upd ?e13 ?r13 (weakE_upd ?e12 ?r12 (weakE_upd ?e8 ?r8 (weakE_upd ?e6 ?r6 (weakE_upd ?e5 ?r5 (weakE_upd ?e3 ?r3 (weakE_junk _ _))))))
                  case e3 => first | rfl | exact fI (by omega) | (simp_all)
                  case r3 => intro h hh; cases hh
                  case e5 => first | rfl | exact fI (by omega) | (simp_all)
                  case r5 => intro h hh; cases hh
                  case e6 => first | rfl | exact fI (by omega) | (simp_all)
                  case r6 => intro h hh; cases hh
                  case e8 => first | rfl | exact fI (by omega) | (simp_all)
                  case r8 => intro h hh; cases hh
                  case e12 => first | rfl | exact fI (by omega) | (first | rfl | (simp [alG, alF]; done))
                  case r12 => intro h hh; cases hh
                  case e13 => first | rfl | exact fI (by omega) | (simp_all)
                  case r13 => intro h hh; cases hh
              · rintro i hI
                refine good_seq fun K53 hK53 => ?_
                refine good_seq fun K54 hK54 => ?_
                refine good_region rfl ?_
                refine ev_q rfl (q_move (by conv => lhs; whnf) ?_)
                refine ev_q rfl (q_move (by conv => lhs; whnf) ?_)
                refine ev_q rfl (q_len tEs22 rfl ?_)
                intro n55 hn55
                try simp only [List.length_map] at hn55
                refine ev_q rfl (q_int rfl rfl ?_)
                intro b56 hb56; cases b56
                · replace hb56 := dF hb56
                  refine ev_nil (hK54 _ ?_); clear hK54
                  refine good_condF rfl ?_
                  refine good_exit ?_
                  repeat (first | refine thenQ_exit ?_ | refine blockQ_pass rfl ?_)
                  refine blockQ_exit (hK51 _ ?_); clear hK51
                  refine good_seq fun K57 hK57 => ?_
                  refine good_region rfl ?_
                  refine ev_q rfl (q_move (by conv => lhs; whnf) ?_)
                  refine ev_q rfl (q_move (by conv => lhs; whnf) ?_)
                  refine ev_q rfl (q_len tEs22 rfl ?_)
                  intro n58 hn58
                  try simp only [List.length_map] at hn58
                  have hf0 := hok.1
                  refine ev_q rfl (q_int rfl rfl ?_)
                  intro n59 hn59
                  have hm := mulB (a := n7) (b := n58) (A := 1000000000000) (B := 64) (by omega) (by omega) (by omega) (by omega)
                  replace hn59 := in64 hn59 (by omega) (by omega)
                  refine ev_q rfl (q_move (by conv => lhs; whnf) ?_)
                  refine ev_q rfl (q_int rfl rfl ?_)
                  intro n60 hn60
                  replace hn60 := in64 hn60 (by omega) (by omega)
                  refine ev_q rfl (q_move (by conv => lhs; whnf) ?_)
                  refine ev_q rfl (q_callI rfl rfl (rfl) (D_laws_b10Sum _ (by omega) hok.2.2.2) ?_)
                  intro n61 hn61
                  refine ev_q rfl (q_move (by conv => lhs; whnf) ?_)
                  refine ev_q rfl (q_int rfl rfl ?_)
                  intro n62 hn62
                  have ei : i = x6.length := by omega
                  subst ei
                  rw [alG_all (Nat.le_refl _)] at hn62
                  have hsb := sumG_bd hok.2.2.2 x6.length (Nat.le_refl _)
                  replace hn62 := in64 hn62 (by omega) (by omega)
                  have e92 : n59 = n7 * ((x6.length : Nat) : Int) := by rw [hn59, hn58]
                  have hinv := alInv (free := n7) (xs := x6) x6.length (Nat.le_refl _)
                  rw [alG_all (Nat.le_refl _)] at hinv
                  refine ev_q rfl (q_int rfl rfl ?_)
                  intro b63 hb63; cases b63
                  · replace hb63 := eqF hb63
                    exfalso; omega
                  · replace hb63 := eqT hb63
                    refine ev_q rfl (q_assign (by conv => lhs; whnf) ?_)
                    refine ev_nil (hK57 _ ?_); clear hK57
                    refine good_ret ?_
                    repeat (first | refine thenQ_ret ?_ | refine blockQ_ret ?_)
                    refine ret_tmp (st := _) rfl (by conv => lhs; whnf) rfl ?_
                    clear hK53
                    first | rfl | (exfalso; omega)
                · replace hb56 := dT hb56
                  have hbi := hbd (i + 1) (by omega)
                  refine ev_nil (hK54 _ ?_); clear hK54
                  refine good_condT rfl ?_
                  refine good_skip (hK53 _ ?_); clear hK53
                  refine good_seq fun K64 hK64 => ?_
                  refine good_block ?_
                  refine good_seq fun K65 hK65 => ?_
                  refine good_seq fun K66 hK66 => ?_
                  refine good_region rfl ?_
                  refine ev_q rfl (q_move (by conv => lhs; whnf) ?_)
                  refine ev_q rfl (q_move (by conv => lhs; whnf) ?_)
                  refine ev_q rfl (q_idx tE22 rfl rfl (by exact Int.natCast_nonneg _) (by rw [eL]; exact map_get (alL_get (j := i) (by omega))) rfl ?_)
                  refine ev_q rfl (q_load tA2 rfl ?_)
                  refine ev_q rfl (q_int rfl rfl ?_)
                  intro b67 hb67; cases b67
                  · replace hb67 := dF hb67
                    refine ev_nil (hK66 _ ?_); clear hK66
                    refine good_condF rfl ?_
                    refine good_skip (hK65 _ ?_); clear hK65
                    refine good_region rfl ?_
                    refine ev_q rfl (q_move (by conv => lhs; whnf) ?_)
                    refine ev_q rfl (q_move (by conv => lhs; whnf) ?_)
                    refine ev_q rfl (q_idx tE22 rfl rfl (by exact Int.natCast_nonneg _) (by rw [eL]; exact map_get (alL_get (j := i) (by omega))) rfl ?_)
                    refine ev_q rfl (q_load tA2 rfl ?_)
                    refine ev_q rfl (q_assign (by conv => lhs; whnf) ?_)
                    refine ev_nil (hK64 _ ?_); clear hK64
                    refine good_region rfl ?_
                    refine ev_q rfl (q_move (by conv => lhs; whnf) ?_)
                    refine ev_q rfl (q_int rfl rfl ?_)
                    intro n68 hn68
                    replace hn68 := in64 hn68 (by omega) (by omega)
                    refine ev_q rfl (q_assign (by conv => lhs; whnf) ?_)
                    refine ev_nil ?_
                    clear hK51
                    refine ⟨i + 1, ?_, ?_, ?_⟩
                    · show _ ≤ _; omega
                    · first | omega | (simp only []; omega) | (dsimp only; omega)
                    · refine sub_weak ?_ ?_
                      · exact weakH_none _
                      · refine weakE_upd ?e13 ?r13 (weakE_upd ?e12 ?r12 (weakE_upd ?e8 ?r8 (weakE_upd ?e6 ?r6 (weakE_upd ?e5 ?r5 (weakE_upd ?e3 ?r3 (weakE_junk _ _))))))
                        case e3 => first | rfl | exact fI (by omega) | (simp_all)
                        case r3 => intro h hh; cases hh
                        case e5 => first | rfl | exact fI (by omega) | (simp_all)
                        case r5 => intro h hh; cases hh
                        case e6 => first | rfl | exact fI (by omega) | (simp_all)
                        case r6 => intro h hh; cases hh
                        case e8 => first | rfl | exact fI (by omega) | (simp_all)
                        case r8 => intro h hh; cases hh
                        case e12 => first | rfl | exact fI (by omega) | (first | rfl | (simp [alG, alF]; done))
                        case r12 => intro h hh; cases hh
                        case e13 => first | rfl | exact fI (by omega) | (simp_all)
                        case r13 => intro h hh; cases hh
                  · replace hb67 := dT hb67
                    exfalso; omega
            · replace hb49 := neT hb49
              exfalso; omega
        · replace hb27 := neT hb27
          exfalso; omega
      · replace hb22 := neT hb22
        refine ev_nil (hK21 _ ?_); clear hK21
        refine good_condT rfl ?_
        refine good_seq fun K69 hK69 => ?_
        refine good_region rfl ?_
        refine ev_q rfl (q_move (by conv => lhs; whnf) ?_)
        refine ev_q rfl (q_len tEs22 rfl ?_)
        intro n70 hn70
        try simp only [List.length_map] at hn70
        refine ev_q rfl (q_int rfl rfl ?_)
        intro b71 hb71; cases b71
        · replace hb71 := eqF hb71
          exfalso; omega
        · replace hb71 := eqT hb71
          refine ev_q rfl (q_move (by conv => lhs; whnf) ?_)
          refine ev_q rfl (q_move (by conv => lhs; whnf) ?_)
          refine ev_q rfl (q_int rfl rfl ?_)
          intro b72 hb72; cases b72
          · replace hb72 := eqF hb72
            exfalso; omega
          · replace hb72 := eqT hb72
            refine ev_q rfl (q_pickT rfl (by conv => lhs; whnf) ?_)
            refine ev_q rfl (q_move (by conv => lhs; whnf) ?_)
            refine ev_q rfl (q_move (by conv => lhs; whnf) ?_)
            refine ev_q rfl (q_move (by conv => lhs; whnf) ?_)
            refine ev_q rfl (q_int rfl rfl ?_)
            intro b73 hb73; cases b73
            · replace hb73 := eqF hb73
              exfalso; omega
            · replace hb73 := eqT hb73
              refine ev_q rfl (q_pickT rfl (by conv => lhs; whnf) ?_)
              refine ev_q rfl (q_assign (by conv => lhs; whnf) ?_)
              refine ev_nil (hK69 _ ?_); clear hK69
              refine good_ret ?_
              repeat (first | refine thenQ_ret ?_ | refine blockQ_ret ?_)
              refine ret_tmp (st := _) rfl (by conv => lhs; whnf) rfl ?_
              clear hK20
              first | rfl | (exfalso; omega)
    · replace hb19 := neT hb19
      exfalso; omega
  · first | replace hb4 := dT hb4 | skip
    refine ev_nil (hK3 _ ?_); clear hK3
    refine good_condT rfl ?_
    refine good_seq fun K74 hK74 => ?_
    refine good_region rfl ?_
    refine ev_q rfl (q_assign (by conv => lhs; whnf) ?_)
    refine ev_nil (hK74 _ ?_); clear hK74
    refine good_ret ?_
    repeat (first | refine thenQ_ret ?_ | refine blockQ_ret ?_)
    refine ret_tmp (st := _) rfl (by conv => lhs; whnf) rfl ?_
    clear hK2
    first | rfl | (exfalso; omega)

end Go.Proofs.Ytpoppoglnjoomaa.DFnAllowances
