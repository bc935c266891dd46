/- Walks through the functions that FnExactAllowanceCost reaches: what each answers. -/
import Derived.Test.YtlmigknkcghpcaaEvO
import Derived.Test.YtlmigknkcghpcaaProg
set_option linter.unusedVariables false
set_option linter.unusedSimpArgs false
namespace Go.Proofs.Ytlmigknkcghpcaa.DFnExactAllowanceCost
open Go Go.RowKit Go.Proofs Go.Proofs.Ytlmigknkcghpcaa Go.Proofs.Ytlmigknkcghpcaa.Ev
def ci (n : Int) : AV := .s (.int .i64 n)
def within (xs : List Int) (lo hi : Int) : Prop := ∀ (j : Nat) (q : Int), xs[j]? = some q → lo ≤ q ∧ q ≤ hi
noncomputable instance (xs : List Int) (lo hi : Int) : Decidable (within xs lo hi) := Classical.propDecidable _
theorem all_extI {α : Type} {xs : List α} {i : Nat} {Q : Nat → α → Prop} {p : α} (hJ : ∀ j q, j < i → xs[j]? = some q → Q j q) (hp : xs[i]? = some p) (h : Q i p) : ∀ j q, j < i + 1 → xs[j]? = some q → Q j q := by
  intro j q hj hq
  by_cases e : j = i
  · subst e; rw [hp] at hq; cases hq; exact h
  · exact hJ j q (by omega) hq
theorem all_finI {α : Type} {xs : List α} {i : Nat} {Q : Nat → α → Prop} (hJ : ∀ j q, j < i → xs[j]? = some q → Q j q) (hi : xs.length ≤ i) : ∀ j q, xs[j]? = some q → Q j q := by
  intro j q hq
  exact hJ j q (by have := (List.getElem?_eq_some_iff.1 hq).1; omega) hq
theorem fi_some {α : Type} {xs : List α} {p : α → Prop} [DecidablePred p] {i : Nat} {q : α} (hq : xs[i]? = some q) (hJ : ∀ (j : Nat) (q : α), j < i → xs[j]? = some q → ¬ p q) (h : p q) : xs.findIdx? (fun x => decide (p x)) = some i := by
  rw [List.findIdx?_eq_some_iff_getElem]
  obtain ⟨hl, he⟩ := List.getElem?_eq_some_iff.1 hq
  refine ⟨hl, by simpa [he] using h, fun j hj => ?_⟩
  simpa using hJ j _ hj (List.getElem?_eq_getElem (by omega))
theorem fi_none {α : Type} {xs : List α} {p : α → Prop} [DecidablePred p] (hJ : ∀ (j : Nat) (q : α), xs[j]? = some q → ¬ p q) : xs.findIdx? (fun x => decide (p x)) = none := by
  rw [List.findIdx?_eq_none_iff]
  intro x hx
  obtain ⟨j, hj⟩ := List.getElem?_of_mem hx
  simpa using hJ j x hj
theorem fi_any {α : Type} {xs : List α} {p : α → Prop} [DecidablePred p] : (0 : Int) ≤ (match xs.findIdx? (fun x => decide (p x)) with | some j => (j : Int) | none => -1) ↔ ∃ x ∈ xs, p x := by
  cases h : xs.findIdx? (fun x => decide (p x)) with
  | none =>
    rw [List.findIdx?_eq_none_iff] at h
    simp at h ⊢
    exact h
  | some j =>
    rw [List.findIdx?_eq_some_iff_getElem] at h
    obtain ⟨hl, h1, _⟩ := h
    simp only [Int.natCast_nonneg, true_iff]
    exact ⟨_, List.getElem_mem hl, by simpa using h1⟩
theorem within_any {xs : List Int} {lo hi : Int} : within xs lo hi ↔ ¬ ∃ x ∈ xs, ¬ (lo ≤ x ∧ x ≤ hi) := by
  constructor
  · intro h ⟨x, hx, hn⟩
    obtain ⟨j, hj⟩ := List.getElem?_of_mem hx
    exact hn (h j x hj)
  · intro h j q hq
    apply Classical.byContradiction
    intro hn
    exact h ⟨q, List.mem_of_getElem? hq, hn⟩
def alS (free : Int) (s : Int × Int) (u : Int) : Int × Int := let n := s.1 + (free - u); (if n < 0 then 0 else n, if n < 0 then s.2 - n else s.2)
def alF (free : Int) (xs : List Int) : Int × Int := xs.foldl (alS free) (0, 0)
def alG (free : Int) (xs : List Int) (i : Nat) : Int × Int := alF free (xs.take i)
theorem alG_step {free : Int} {xs : List Int} {i : Nat} {p : Int} (h : xs[i]? = some p) : alG free xs (i + 1) = alS free (alG free xs i) p := by
  obtain ⟨hl, he⟩ := List.getElem?_eq_some_iff.1 h
  unfold alG alF
  rw [List.take_add_one, h]
  simp
theorem alG_bd {free : Int} {xs : List Int} (hf : 0 ≤ free ∧ free ≤ 1000000000000) (hw : within xs 0 1000000000000) : ∀ i : Nat, i ≤ xs.length → (0 ≤ (alG free xs i).1 ∧ (alG free xs i).1 ≤ i * 1000000000000) ∧ (0 ≤ (alG free xs i).2 ∧ (alG free xs i).2 ≤ i * 1000000000000)
  | 0, _ => by simp [alG, alF]
  | i + 1, h => by
    have ih := alG_bd hf hw i (by omega)
    have hp : xs[i]? = some (xs[i]'(by omega)) := List.getElem?_eq_getElem (by omega)
    have hq := hw i _ hp
    rw [alG_step hp]
    generalize xs[i]'(by omega) = u at hq
    simp only [alS]
    omega
theorem alG_all {free : Int} {xs : List Int} {i : Nat} (h : xs.length ≤ i) : alG free xs i = alF free xs := by
  unfold alG; rw [List.take_of_length_le h]
def alOk (free price : Int) (xs : List Int) : Prop := (0 ≤ free ∧ free ≤ 1000000000000) ∧ (0 ≤ price ∧ price ≤ 1000) ∧ xs.length ≤ 64 ∧ within xs 0 1000000000000
noncomputable instance (f p : Int) (xs : List Int) : Decidable (alOk f p xs) := Classical.propDecidable _
theorem mulB3 {a b : Int} (ha : 0 ≤ a ∧ a ≤ 100000000000000) (hb : 0 ≤ b ∧ b ≤ 1000) : 0 ≤ a * b ∧ a * b ≤ 100000000000000000 := by
  have := mulB ha.1 ha.2 hb.1 hb.2; omega
def alL (free : Int) (xs : List Int) (i : Nat) : List Int := (List.range i).map fun j => (alG free xs (j + 1)).1
theorem alL_succ {free : Int} {xs : List Int} {i : Nat} : alL free xs (i + 1) = alL free xs i ++ [(alG free xs (i + 1)).1] := by
  unfold alL; rw [List.range_succ, List.map_append]; rfl
theorem alL_len {free : Int} {xs : List Int} {i : Nat} : (alL free xs i).length = i := by simp [alL]
theorem appEq {f : Int → AV} {l : List Int} {l2 : List Int} {n m : Int} (h : l2 = l ++ [m]) (e : n = m) : l.map f ++ [f n] = l2.map f := by subst h; subst e; simp
theorem hmix : Try.prog.follows .mixedOrders = true := by kernel_rfl
theorem sz2 : tSz Try.prog 2 = some 1 := by kernel_rfl
theorem tA2 : tAgg Try.prog 2 = some none := by kernel_rfl
theorem tApp50 : tApp Try.prog 50 = some (2, 1, 8) := by kernel_rfl
theorem tBy2 : tBytes Try.prog 2 = some 8 := by kernel_rfl
theorem tE50 : tElem Try.prog 50 = some (2, 1) := by kernel_rfl
theorem tEs50 : (tElem Try.prog 50).isSome = true := by kernel_rfl
theorem zA2 : zeroA Try.prog 2 = some [.s (.int .i64 0)] := by kernel_rfl

-- impl.within
set_option maxRecDepth 20000 in
theorem D_impl_within (a lo hi : Int)  : Den Try.prog 50 [.s (.int .i64 a), .s (.int .i64 lo), .s (.int .i64 hi)] (.s (.bool (decide (lo ≤ a ∧ a ≤ hi)))) := by
  refine den_of_good Try.func50 (by decide) rfl (Nat.le_of_ble_eq_true rfl) ?_
  refine good_seq fun K1 hK1 => ?_
  refine good_region rfl ?_
  refine ev_q rfl (q_assign (by conv => lhs; whnf) ?_)
  refine ev_nil (hK1 _ ?_); clear hK1
  refine good_seq fun K2 hK2 => ?_
  refine good_region rfl ?_
  refine ev_q rfl (q_move (by conv => lhs; whnf) ?_)
  refine ev_q rfl (q_move (by conv => lhs; whnf) ?_)
  refine ev_q rfl (q_int rfl rfl ?_)
  intro b3 hb3; cases b3
  · replace hb3 := dF hb3
    refine ev_q rfl (q_move (by conv => lhs; whnf) ?_)
    refine ev_skip rfl ?_
    refine ev_skip rfl ?_
    refine ev_skip rfl ?_
    refine ev_q rfl (q_pickF rfl (by conv => lhs; whnf) ?_)
    refine ev_q rfl (q_assign (by conv => lhs; whnf) ?_)
    refine ev_nil (hK2 _ ?_); clear hK2
    refine good_ret ?_
    repeat (first | refine thenQ_ret ?_ | refine blockQ_ret ?_)
    refine ret_tmp (st := _) rfl (by conv => lhs; whnf) rfl ?_
    first | rfl | exact fT (by first | omega | grind) | exact fF (by first | omega | grind) | exact fT' (by first | omega | grind) | (exfalso; first | omega | grind)
  · replace hb3 := dT hb3
    refine ev_q rfl (q_move (by conv => lhs; whnf) ?_)
    refine ev_q rfl (q_move (by conv => lhs; whnf) ?_)
    refine ev_q rfl (q_move (by conv => lhs; whnf) ?_)
    refine ev_q rfl (q_int rfl rfl ?_)
    intro b4 hb4; cases b4
    · replace hb4 := dF hb4
      refine ev_q rfl (q_pickT rfl (by conv => lhs; whnf) ?_)
      refine ev_q rfl (q_assign (by conv => lhs; whnf) ?_)
      refine ev_nil (hK2 _ ?_); clear hK2
      refine good_ret ?_
      repeat (first | refine thenQ_ret ?_ | refine blockQ_ret ?_)
      refine ret_tmp (st := _) rfl (by conv => lhs; whnf) rfl ?_
      first | rfl | exact fT (by first | omega | grind) | exact fF (by first | omega | grind) | exact fT' (by first | omega | grind) | (exfalso; first | omega | grind)
    · replace hb4 := dT hb4
      refine ev_q rfl (q_pickT rfl (by conv => lhs; whnf) ?_)
      refine ev_q rfl (q_assign (by conv => lhs; whnf) ?_)
      refine ev_nil (hK2 _ ?_); clear hK2
      refine good_ret ?_
      repeat (first | refine thenQ_ret ?_ | refine blockQ_ret ?_)
      refine ret_tmp (st := _) rfl (by conv => lhs; whnf) rfl ?_
      first | rfl | exact fT (by first | omega | grind) | exact fF (by first | omega | grind) | exact fT' (by first | omega | grind) | (exfalso; first | omega | grind)

-- spec.l00In
set_option maxRecDepth 20000 in
theorem D_spec_l00In (a lo hi : Int)  : Den Try.prog 51 [.s (.int .i64 a), .s (.int .i64 lo), .s (.int .i64 hi)] (.s (.bool (decide (lo ≤ a ∧ a ≤ hi)))) := by
  refine den_of_good Try.func51 (by decide) rfl (Nat.le_of_ble_eq_true rfl) ?_
  refine good_seq fun K1 hK1 => ?_
  refine good_region rfl ?_
  refine ev_q rfl (q_assign (by conv => lhs; whnf) ?_)
  refine ev_nil (hK1 _ ?_); clear hK1
  refine good_seq fun K2 hK2 => ?_
  refine good_region rfl ?_
  refine ev_q rfl (q_move (by conv => lhs; whnf) ?_)
  refine ev_q rfl (q_move (by conv => lhs; whnf) ?_)
  refine ev_q rfl (q_int rfl rfl ?_)
  intro b3 hb3; cases b3
  · replace hb3 := dF hb3
    refine ev_q rfl (q_move (by conv => lhs; whnf) ?_)
    refine ev_skip rfl ?_
    refine ev_skip rfl ?_
    refine ev_skip rfl ?_
    refine ev_q rfl (q_pickF rfl (by conv => lhs; whnf) ?_)
    refine ev_q rfl (q_assign (by conv => lhs; whnf) ?_)
    refine ev_nil (hK2 _ ?_); clear hK2
    refine good_ret ?_
    repeat (first | refine thenQ_ret ?_ | refine blockQ_ret ?_)
    refine ret_tmp (st := _) rfl (by conv => lhs; whnf) rfl ?_
    first | rfl | exact fT (by first | omega | grind) | exact fF (by first | omega | grind) | exact fT' (by first | omega | grind) | (exfalso; first | omega | grind)
  · replace hb3 := dT hb3
    refine ev_q rfl (q_move (by conv => lhs; whnf) ?_)
    refine ev_q rfl (q_move (by conv => lhs; whnf) ?_)
    refine ev_q rfl (q_move (by conv => lhs; whnf) ?_)
    refine ev_q rfl (q_int rfl rfl ?_)
    intro b4 hb4; cases b4
    · replace hb4 := dF hb4
      refine ev_q rfl (q_pickT rfl (by conv => lhs; whnf) ?_)
      refine ev_q rfl (q_assign (by conv => lhs; whnf) ?_)
      refine ev_nil (hK2 _ ?_); clear hK2
      refine good_ret ?_
      repeat (first | refine thenQ_ret ?_ | refine blockQ_ret ?_)
      refine ret_tmp (st := _) rfl (by conv => lhs; whnf) rfl ?_
      first | rfl | exact fT (by first | omega | grind) | exact fF (by first | omega | grind) | exact fT' (by first | omega | grind) | (exfalso; first | omega | grind)
    · replace hb4 := dT hb4
      refine ev_q rfl (q_pickT rfl (by conv => lhs; whnf) ?_)
      refine ev_q rfl (q_assign (by conv => lhs; whnf) ?_)
      refine ev_nil (hK2 _ ?_); clear hK2
      refine good_ret ?_
      repeat (first | refine thenQ_ret ?_ | refine blockQ_ret ?_)
      refine ret_tmp (st := _) rfl (by conv => lhs; whnf) rfl ?_
      first | rfl | exact fT (by first | omega | grind) | exact fF (by first | omega | grind) | exact fT' (by first | omega | grind) | (exfalso; first | omega | grind)

-- laws.toInt64S
set_option maxRecDepth 20000 in
theorem D_laws_toInt64S (xs : List Int) (hx : xs.length ≤ 17592186044416) : Den Try.prog 36 [.lst 1 (xs.map ci)] (.lst 1 (xs.map ci)) := by
  refine den_of_good Try.func36 (by decide) rfl (Nat.le_of_ble_eq_true rfl) ?_
  refine good_seq fun K1 hK1 => ?_
  refine good_region rfl ?_
  refine ev_q rfl (q_assign (by conv => lhs; whnf) ?_)
  refine ev_nil (hK1 _ ?_); clear hK1
  refine good_seq fun K2 hK2 => ?_
  refine good_region rfl ?_
  refine ev_q rfl (q_move (by conv => lhs; whnf) ?_)
  refine ev_q rfl (q_len tEs50 rfl ?_)
  intro n3 hn3
  try simp only [List.length_map] at hn3
  refine ev_k rfl (k_make tE50 rfl rfl zA2 tBy2 rfl (by omega) (by omega) (by omega) rfl (by show _ = xs.length; omega) ?_)
  refine ev_q rfl (q_assign (by conv => lhs; whnf) ?_)
  refine ev_nil (hK2 _ ?_); clear hK2
  refine good_seq fun K4 hK4 => ?_
  refine good_seq fun K5 hK5 => ?_
  refine good_region rfl ?_
  refine ev_q rfl (q_assign (by conv => lhs; whnf) ?_)
  refine ev_nil (hK5 _ ?_); clear hK5
  refine good_block ?_
  refine good_loop (α := Nat) (fun i => { env := upd (upd (upd ((fun _ => .junk)) 0 (.lst 1 (xs.map ci))) 3 (.own 7 xs.length)) 4 (.s (.int .i64 i)), H := upd ((fun _ => none)) 7 (some (.row 2 1 (fillC ci (ci 0) xs i))) }) (fun i => i ≤ xs.length) (fun i => xs.length - i) 0 ?_ ?_ ?_
  · show 0 ≤ _; omega
  · refine sub_weak ?_ ?_
    · exact weakH_row (rowEq (fill0 rfl)) (weakH_none _)
    · refine weakE_upd ?e4 ?r4 (weakE_upd ?e3 ?r3 (weakE_upd ?e0 ?r0 (weakE_junk _ _)))
      case e0 => first | rfl | exact fI (by omega) | (simp_all)
      case r0 => intro h hh; cases hh
      case e3 => first | rfl | exact fI (by omega) | (simp_all)
      case r3 => intro h hh; simp [refs] at hh; subst hh; rfl
      case e4 => first | rfl | exact fI (by omega) | (simp_all)
      case r4 => intro h hh; cases hh
  · rintro i hI
    refine good_seq fun K6 hK6 => ?_
    refine good_seq fun K7 hK7 => ?_
    refine good_region rfl ?_
    refine ev_q rfl (q_move (by conv => lhs; whnf) ?_)
    refine ev_q rfl (q_move (by conv => lhs; whnf) ?_)
    refine ev_q rfl (q_len tEs50 rfl ?_)
    intro n8 hn8
    try simp only [List.length_map] at hn8
    refine ev_q rfl (q_int rfl rfl ?_)
    intro b9 hb9; cases b9
    · replace hb9 := dF hb9
      refine ev_nil (hK7 _ ?_); clear hK7
      refine good_condF rfl ?_
      refine good_exit ?_
      repeat (first | refine thenQ_exit ?_ | refine blockQ_pass rfl ?_)
      refine blockQ_exit (hK4 _ ?_); clear hK4
      refine good_seq fun K10 hK10 => ?_
      refine good_region rfl ?_
      refine ev_q rfl (q_move (by conv => lhs; whnf) ?_)
      refine ev_q rfl (q_assign (by conv => lhs; whnf) ?_)
      refine ev_nil (hK10 _ ?_); clear hK10
      refine good_ret ?_
      repeat (first | refine thenQ_ret ?_ | refine blockQ_ret ?_)
      refine ret_tmp (st := _) rfl (by conv => lhs; whnf) rfl ?_
      clear hK6
      exact lstEq (fillE (by omega) rfl)
    · replace hb9 := dT hb9
      obtain ⟨p, hp⟩ := getL (xs := xs) (n := (i : Int)) (by omega) (by omega)
      refine ev_nil (hK7 _ ?_); clear hK7
      refine good_condT rfl ?_
      refine good_skip (hK6 _ ?_); clear hK6
      refine good_seq fun K11 hK11 => ?_
      refine good_block ?_
      refine good_region rfl ?_
      refine ev_q rfl (q_move (by conv => lhs; whnf) ?_)
      refine ev_q rfl (q_move (by conv => lhs; whnf) ?_)
      refine ev_q rfl (q_move (by conv => lhs; whnf) ?_)
      refine ev_q rfl (q_move (by conv => lhs; whnf) ?_)
      refine ev_q rfl (q_idx tE50 rfl rfl (by exact Int.natCast_nonneg _) (by exact map_get hp) rfl ?_)
      refine ev_q rfl (q_load tA2 rfl ?_)
      refine ev_q rfl (q_idxO tE50 rfl rfl rfl (by exact Int.natCast_nonneg _) (by omega) rfl ?_)
      refine ev_k rfl (k_storeE sz2 rfl (by conv => lhs; whnf) rfl rfl rfl (Nat.le_of_ble_eq_true rfl) rfl (by exact fillG (by omega)) (Nat.le_of_ble_eq_true rfl) rfl ?_)
      refine ev_nil (hK11 _ ?_); clear hK11
      refine good_region rfl ?_
      refine ev_q rfl (q_move (by conv => lhs; whnf) ?_)
      refine ev_q rfl (q_int rfl rfl ?_)
      intro n12 hn12
      replace hn12 := in64 hn12 (by omega) (by omega)
      refine ev_q rfl (q_assign (by conv => lhs; whnf) ?_)
      refine ev_nil ?_
      clear hK4
      refine ⟨i + 1, ?_, ?_, ?_⟩
      · show _ ≤ _; omega
      · first | omega | (simp only []; omega) | (dsimp only; omega)
      · refine sub_weak ?_ ?_
        · exact weakH_row (rowEq (fillS hp rfl)) (weakH_none _)
        · refine weakE_upd ?e4 ?r4 (weakE_upd ?e3 ?r3 (weakE_upd ?e0 ?r0 (weakE_junk _ _)))
          case e0 => first | rfl | exact fI (by omega) | (simp_all)
          case r0 => intro h hh; cases hh
          case e3 => first | rfl | exact fI (by omega) | (simp_all)
          case r3 => intro h hh; simp [refs] at hh; subst hh; rfl
          case e4 => first | rfl | exact fI (by omega) | (simp_all)
          case r4 => intro h hh; cases hh

-- laws.eqInt64S
set_option maxRecDepth 20000 in
theorem D_laws_eqInt64S (xs : List Int) (hx : xs.length ≤ 17592186044416) : Den Try.prog 38 [.lst 1 (xs.map ci), .lst 1 (xs.map ci)] (.s (.bool true)) := by
  refine den_of_good Try.func38 (by decide) rfl (Nat.le_of_ble_eq_true rfl) ?_
  refine good_seq fun K1 hK1 => ?_
  refine good_region rfl ?_
  refine ev_q rfl (q_assign (by conv => lhs; whnf) ?_)
  refine ev_nil (hK1 _ ?_); clear hK1
  refine good_seq fun K2 hK2 => ?_
  refine good_seq fun K3 hK3 => ?_
  refine good_region rfl ?_
  refine ev_q rfl (q_move (by conv => lhs; whnf) ?_)
  refine ev_q rfl (q_len tEs50 rfl ?_)
  intro n4 hn4
  try simp only [List.length_map] at hn4
  refine ev_q rfl (q_move (by conv => lhs; whnf) ?_)
  refine ev_q rfl (q_len tEs50 rfl ?_)
  intro n5 hn5
  try simp only [List.length_map] at hn5
  refine ev_q rfl (q_int rfl rfl ?_)
  intro b6 hb6; cases b6
  · replace hb6 := neF hb6
    refine ev_nil (hK3 _ ?_); clear hK3
    refine good_condF rfl ?_
    refine good_skip (hK2 _ ?_); clear hK2
    refine good_seq fun K7 hK7 => ?_
    refine good_seq fun K8 hK8 => ?_
    refine good_region rfl ?_
    refine ev_q rfl (q_assign (by conv => lhs; whnf) ?_)
    refine ev_nil (hK8 _ ?_); clear hK8
    refine good_block ?_
    refine good_loop (α := Nat) (fun i => { env := upd (upd (upd ((fun _ => .junk)) 0 (.lst 1 (xs.map ci))) 1 (.lst 1 (xs.map ci))) 5 (.s (.int .i64 i)), H := fun _ => none }) (fun i => i ≤ xs.length) (fun i => xs.length - i) 0 ?_ ?_ ?_
    · show 0 ≤ _; omega
    · refine sub_weak ?_ ?_
      · exact weakH_none _
      · refine weakE_upd ?e5 ?r5 (weakE_upd ?e1 ?r1 (weakE_upd ?e0 ?r0 (weakE_junk _ _)))
        case e0 => first | rfl | exact fI (by omega) | (simp_all)
        case r0 => intro h hh; cases hh
        case e1 => first | rfl | exact fI (by omega) | (simp_all)
        case r1 => intro h hh; cases hh
        case e5 => first | rfl | exact fI (by omega) | (simp_all)
        case r5 => intro h hh; cases hh
    · rintro i hI
      refine good_seq fun K9 hK9 => ?_
      refine good_seq fun K10 hK10 => ?_
      refine good_region rfl ?_
      refine ev_q rfl (q_move (by conv => lhs; whnf) ?_)
      refine ev_q rfl (q_move (by conv => lhs; whnf) ?_)
      refine ev_q rfl (q_len tEs50 rfl ?_)
      intro n11 hn11
      try simp only [List.length_map] at hn11
      refine ev_q rfl (q_int rfl rfl ?_)
      intro b12 hb12; cases b12
      · replace hb12 := dF hb12
        refine ev_nil (hK10 _ ?_); clear hK10
        refine good_condF rfl ?_
        refine good_exit ?_
        repeat (first | refine thenQ_exit ?_ | refine blockQ_pass rfl ?_)
        refine blockQ_exit (hK7 _ ?_); clear hK7
        refine good_seq fun K13 hK13 => ?_
        refine good_region rfl ?_
        refine ev_q rfl (q_assign (by conv => lhs; whnf) ?_)
        refine ev_nil (hK13 _ ?_); clear hK13
        refine good_ret ?_
        repeat (first | refine thenQ_ret ?_ | refine blockQ_ret ?_)
        refine ret_tmp (st := _) rfl (by conv => lhs; whnf) rfl ?_
        clear hK9
        first | rfl | (exfalso; omega)
      · replace hb12 := dT hb12
        obtain ⟨p, hp⟩ := getL (xs := xs) (n := (i : Int)) (by omega) (by omega)
        replace hp : xs[i]? = some p := hp
        refine ev_nil (hK10 _ ?_); clear hK10
        refine good_condT rfl ?_
        refine good_skip (hK9 _ ?_); clear hK9
        refine good_seq fun K14 hK14 => ?_
        refine good_block ?_
        refine good_seq fun K15 hK15 => ?_
        refine good_draw 9 hmix (by kernel_rfl) rfl ?_
        refine qo_q rfl (q_move (by conv => lhs; whnf) ?_)
        refine qo_q rfl (q_move (by conv => lhs; whnf) ?_)
        refine qo_q rfl (q_idx tE50 rfl rfl (by exact Int.natCast_nonneg _) (by exact map_get hp) rfl ?_)
        refine qo_q rfl (q_load tA2 rfl ?_)
        refine qo_q rfl (q_move (by conv => lhs; whnf) ?_)
        refine qo_q rfl (q_move (by conv => lhs; whnf) ?_)
        refine qo_q rfl (q_idx tE50 rfl rfl (by exact Int.natCast_nonneg _) (by exact map_get hp) rfl ?_)
        refine qo_q rfl (q_load tA2 rfl ?_)
        refine qo_q rfl (q_int rfl rfl ?_)
        intro b16 hb16; cases b16
        · replace hb16 := neF hb16
          refine qo_nil ?_
          refine ev_nil (hK15 _ ?_); clear hK15
          refine good_condF rfl ?_
          refine good_skip (hK14 _ ?_); clear hK14
          refine good_region rfl ?_
          refine ev_q rfl (q_move (by conv => lhs; whnf) ?_)
          refine ev_q rfl (q_int rfl rfl ?_)
          intro n17 hn17
          replace hn17 := in64 hn17 (by omega) (by omega)
          refine ev_q rfl (q_assign (by conv => lhs; whnf) ?_)
          refine ev_nil ?_
          clear hK7
          refine ⟨i + 1, ?_, ?_, ?_⟩
          · show _ ≤ _; omega
          · first | omega | (simp only []; omega) | (dsimp only; omega)
          · refine sub_weak ?_ ?_
            · exact weakH_none _
            · refine weakE_upd ?e5 ?r5 (weakE_upd ?e1 ?r1 (weakE_upd ?e0 ?r0 (weakE_junk _ _)))
              case e0 => first | rfl | exact fI (by omega) | (simp_all)
              case r0 => intro h hh; cases hh
              case e1 => first | rfl | exact fI (by omega) | (simp_all)
              case r1 => intro h hh; cases hh
              case e5 => first | rfl | exact fI (by omega) | (simp_all)
              case r5 => intro h hh; cases hh
        · replace hb16 := neT hb16
          refine qo_nil ?_
          refine ev_nil (hK15 _ ?_); clear hK15
          refine good_condT rfl ?_
          refine good_seq fun K18 hK18 => ?_
          refine good_region rfl ?_
          refine ev_q rfl (q_assign (by conv => lhs; whnf) ?_)
          refine ev_nil (hK18 _ ?_); clear hK18
          refine good_ret ?_
          repeat (first | refine thenQ_ret ?_ | refine blockQ_ret ?_)
          refine ret_tmp (st := _) rfl (by conv => lhs; whnf) rfl ?_
          clear hK7 hK14
          first | rfl | (exfalso; omega)
  · replace hb6 := neT hb6
    refine ev_nil (hK3 _ ?_); clear hK3
    refine good_condT rfl ?_
    refine good_seq fun K19 hK19 => ?_
    refine good_region rfl ?_
    refine ev_q rfl (q_assign (by conv => lhs; whnf) ?_)
    refine ev_nil (hK19 _ ?_); clear hK19
    refine good_ret ?_
    repeat (first | refine thenQ_ret ?_ | refine blockQ_ret ?_)
    refine ret_tmp (st := _) rfl (by conv => lhs; whnf) rfl ?_
    clear hK2
    first | rfl | (exfalso; omega)

-- impl.allWithin$1
set_option maxRecDepth 20000 in
theorem D_impl_allWithin_1 (a lo hi : Int)  : Den Try.prog 93 [.s (.int .i64 a), .rp [.s (.int .i64 lo)], .rp [.s (.int .i64 hi)]] (.s (.bool (decide (¬ (lo ≤ a ∧ a ≤ hi))))) := by
  refine den_of_good Try.func93 (by decide) rfl (Nat.le_of_ble_eq_true rfl) ?_
  refine good_seq fun K1 hK1 => ?_
  refine good_region rfl ?_
  refine ev_q rfl (q_assign (by conv => lhs; whnf) ?_)
  refine ev_nil (hK1 _ ?_); clear hK1
  refine good_seq fun K2 hK2 => ?_
  refine good_region rfl ?_
  refine ev_q rfl (q_move (by conv => lhs; whnf) ?_)
  refine ev_q rfl (q_load tA2 rfl ?_)
  refine ev_q rfl (q_load tA2 rfl ?_)
  refine ev_q rfl (q_callB rfl rfl rfl (D_impl_within ..) ?_)
  intro b3 hb3; cases b3
  · first | replace hb3 := dF hb3 | skip
    refine ev_q rfl (q_not rfl rfl ?_)
    refine ev_q rfl (q_assign (by conv => lhs; whnf) ?_)
    refine ev_nil (hK2 _ ?_); clear hK2
    refine good_ret ?_
    repeat (first | refine thenQ_ret ?_ | refine blockQ_ret ?_)
    refine ret_tmp (st := _) rfl (by conv => lhs; whnf) rfl ?_
    first | rfl | exact fT (by first | omega | grind) | exact fF (by first | omega | grind) | exact fT' (by first | omega | grind) | (exfalso; first | omega | grind)
  · first | replace hb3 := dT hb3 | skip
    refine ev_q rfl (q_not rfl rfl ?_)
    refine ev_q rfl (q_assign (by conv => lhs; whnf) ?_)
    refine ev_nil (hK2 _ ?_); clear hK2
    refine good_ret ?_
    repeat (first | refine thenQ_ret ?_ | refine blockQ_ret ?_)
    refine ret_tmp (st := _) rfl (by conv => lhs; whnf) rfl ?_
    first | rfl | exact fT (by first | omega | grind) | exact fF (by first | omega | grind) | exact fT' (by first | omega | grind) | (exfalso; first | omega | grind)

-- slices.IndexFunc[[]int64,int64]
set_option maxRecDepth 20000 in
theorem D_slices_IndexFunc_int64_int64 (f : Nat) (caps : List AV) (p : Int → Prop) [DecidablePred p] (xs : List Int) (hx : xs.length ≤ 17592186044416) (hf : ∀ x ∈ xs, Den Try.prog f (.s (.int .i64 x) :: caps) (.s (.bool (decide (p x))))) : Den Try.prog 97 [.lst 1 (xs.map ci), .fn f caps] (.s (.int .i64 ((match xs.findIdx? (fun x => decide (p x)) with | some j => (j : Int) | none => -1)))) := by
  refine den_of_good Try.func97 (by decide) rfl (Nat.le_of_ble_eq_true rfl) ?_
  refine good_seq fun K1 hK1 => ?_
  refine good_region rfl ?_
  refine ev_q rfl (q_assign (by conv => lhs; whnf) ?_)
  refine ev_nil (hK1 _ ?_); clear hK1
  refine good_seq fun K2 hK2 => ?_
  refine good_seq fun K3 hK3 => ?_
  refine good_region rfl ?_
  refine ev_q rfl (q_move (by conv => lhs; whnf) ?_)
  refine ev_q rfl (q_len tEs50 rfl ?_)
  intro n4 hn4
  try simp only [List.length_map] at hn4
  refine ev_q rfl (q_move (by conv => lhs; whnf) ?_)
  refine ev_nil (hK3 _ ?_); clear hK3
  refine good_block ?_
  refine good_loop (α := Nat) (fun i => { env := upd (upd (upd (upd ((fun _ => .junk)) 0 (.lst 1 (xs.map ci))) 1 (.fn f caps)) 7 (.s (.int .i64 ((xs.length : Int))))) 8 (.s (.int .i64 i)), H := fun _ => none }) (fun i => i ≤ xs.length ∧ ∀ j q, j < i → xs[j]? = some q → ¬ p q) (fun i => xs.length - i) 0 ?_ ?_ ?_
  · exact ⟨by omega, fun j u hj => by omega⟩
  · refine sub_weak ?_ ?_
    · exact weakH_none _
    · refine weakE_upd ?e8 ?r8 (weakE_upd ?e7 ?r7 (weakE_upd ?e1 ?r1 (weakE_upd ?e0 ?r0 (weakE_junk _ _))))
      case e0 => first | rfl | exact fI (by omega) | (simp_all)
      case r0 => intro h hh; cases hh
      case e1 => first | rfl | exact fI (by omega) | (simp_all)
      case r1 => intro h hh; cases hh
      case e7 => first | rfl | exact fI (by omega) | (simp_all)
      case r7 => intro h hh; cases hh
      case e8 => first | rfl | exact fI (by omega) | (simp_all)
      case r8 => intro h hh; cases hh
  · rintro i ⟨hI, hJ⟩
    refine good_seq fun K5 hK5 => ?_
    refine good_region rfl ?_
    refine ev_q rfl (q_int rfl rfl ?_)
    intro b6 hb6; cases b6
    · replace hb6 := dF hb6
      refine ev_nil (hK5 _ ?_); clear hK5
      refine good_seq fun K7 hK7 => ?_
      refine good_condF rfl ?_
      refine good_exit ?_
      repeat (first | refine thenQ_exit ?_ | refine blockQ_pass rfl ?_)
      refine blockQ_exit (hK2 _ ?_); clear hK2
      refine good_seq fun K8 hK8 => ?_
      refine good_region rfl ?_
      refine ev_q rfl (q_assign (by conv => lhs; whnf) ?_)
      refine ev_nil (hK8 _ ?_); clear hK8
      refine good_ret ?_
      repeat (first | refine thenQ_ret ?_ | refine blockQ_ret ?_)
      refine ret_tmp (st := _) rfl (by conv => lhs; whnf) rfl ?_
      clear hK7
      first | exact fI (by have e := fi_some (i := i) hq hJ (by assumption); simp only [e]) | exact fI (by have e := fi_none (all_finI (Q := fun _ q => ¬ p q) hJ (by omega)); simp only [e])
    · replace hb6 := dT hb6
      obtain ⟨q, hq⟩ := getL (xs := xs) (n := (i : Int)) (by omega) (by omega)
      replace hq : xs[i]? = some q := hq
      refine ev_nil (hK5 _ ?_); clear hK5
      refine good_seq fun K9 hK9 => ?_
      refine good_condT rfl ?_
      refine good_skip (hK9 _ ?_); clear hK9
      refine good_seq fun K10 hK10 => ?_
      refine good_block ?_
      refine good_seq fun K11 hK11 => ?_
      refine good_region rfl ?_
      refine ev_q rfl (q_move (by conv => lhs; whnf) ?_)
      refine ev_q rfl (q_assign (by conv => lhs; whnf) ?_)
      refine ev_nil (hK11 _ ?_); clear hK11
      refine good_seq fun K12 hK12 => ?_
      refine good_region rfl ?_
      refine ev_q rfl (q_move (by conv => lhs; whnf) ?_)
      refine ev_q rfl (q_move (by conv => lhs; whnf) ?_)
      refine ev_q rfl (q_move (by conv => lhs; whnf) ?_)
      refine ev_q rfl (q_idx tE50 rfl rfl (by exact Int.natCast_nonneg _) (by exact map_get hq) rfl ?_)
      refine ev_q rfl (q_load tA2 rfl ?_)
      refine ev_q rfl (q_callB rfl rfl rfl (hf _ (List.mem_of_getElem? hq)) ?_)
      intro b13 hb13; cases b13
      · first | replace hb13 := dF hb13 | skip
        refine ev_nil (hK12 _ ?_); clear hK12
        refine good_condF rfl ?_
        refine good_skip (hK10 _ ?_); clear hK10
        refine good_region rfl ?_
        refine ev_q rfl (q_int rfl rfl ?_)
        intro n14 hn14
        replace hn14 := in64 hn14 (by omega) (by omega)
        refine ev_q rfl (q_move (by conv => lhs; whnf) ?_)
        refine ev_nil ?_
        clear hK2
        refine ⟨i + 1, ?_, ?_, ?_⟩
        · exact ⟨by omega, all_extI (Q := fun _ q => ¬ p q) hJ hq (by assumption)⟩
        · first | omega | (simp only []; omega) | (dsimp only; omega)
        · refine sub_weak ?_ ?_
          · exact weakH_none _
          · refine weakE_upd ?e8 ?r8 (weakE_upd ?e7 ?r7 (weakE_upd ?e1 ?r1 (weakE_upd ?e0 ?r0 (weakE_junk _ _))))
            case e0 => first | rfl | exact fI (by omega) | (simp_all)
            case r0 => intro h hh; cases hh
            case e1 => first | rfl | exact fI (by omega) | (simp_all)
            case r1 => intro h hh; cases hh
            case e7 => first | rfl | exact fI (by omega) | (simp_all)
            case r7 => intro h hh; cases hh
            case e8 => first | rfl | exact fI (by omega) | (simp_all)
            case r8 => intro h hh; cases hh
      · first | replace hb13 := dT hb13 | skip
        refine ev_nil (hK12 _ ?_); clear hK12
        refine good_condT rfl ?_
        refine good_seq fun K15 hK15 => ?_
        refine good_region rfl ?_
        refine ev_q rfl (q_move (by conv => lhs; whnf) ?_)
        refine ev_q rfl (q_assign (by conv => lhs; whnf) ?_)
        refine ev_nil (hK15 _ ?_); clear hK15
        refine good_ret ?_
        repeat (first | refine thenQ_ret ?_ | refine blockQ_ret ?_)
        refine ret_tmp (st := _) rfl (by conv => lhs; whnf) rfl ?_
        clear hK2 hK10
        first | exact fI (by have e := fi_some (i := i) hq hJ (by assumption); simp only [e]) | exact fI (by have e := fi_none (all_finI (Q := fun _ q => ¬ p q) hJ (by omega)); simp only [e])

-- slices.ContainsFunc[[]int64,int64]
set_option maxRecDepth 20000 in
theorem D_slices_ContainsFunc_int64_int64 (f : Nat) (caps : List AV) (p : Int → Prop) [DecidablePred p] (xs : List Int) [Decidable (∃ x ∈ xs, p x)] (hx : xs.length ≤ 17592186044416) (hf : ∀ x ∈ xs, Den Try.prog f (.s (.int .i64 x) :: caps) (.s (.bool (decide (p x))))) : Den Try.prog 92 [.lst 1 (xs.map ci), .fn f caps] (.s (.bool (decide (∃ x ∈ xs, p x)))) := by
  refine den_of_good Try.func92 (by decide) rfl (Nat.le_of_ble_eq_true rfl) ?_
  refine good_seq fun K1 hK1 => ?_
  refine good_region rfl ?_
  refine ev_q rfl (q_assign (by conv => lhs; whnf) ?_)
  refine ev_nil (hK1 _ ?_); clear hK1
  refine good_seq fun K2 hK2 => ?_
  refine good_region rfl ?_
  refine ev_q rfl (q_move (by conv => lhs; whnf) ?_)
  refine ev_q rfl (q_move (by conv => lhs; whnf) ?_)
  refine ev_q rfl (q_callI rfl rfl rfl (D_slices_IndexFunc_int64_int64 f caps p xs hx hf) ?_)
  intro n3 hn3
  refine ev_q rfl (q_int rfl rfl ?_)
  intro b4 hb4; cases b4
  · replace hb4 := dF hb4
    refine ev_q rfl (q_assign (by conv => lhs; whnf) ?_)
    refine ev_nil (hK2 _ ?_); clear hK2
    refine good_ret ?_
    repeat (first | refine thenQ_ret ?_ | refine blockQ_ret ?_)
    refine ret_tmp (st := _) rfl (by conv => lhs; whnf) rfl ?_
    first | exact fT (fi_any.1 (by omega)) | exact fF (fun h => absurd (fi_any.2 h) (by omega))
  · replace hb4 := dT hb4
    refine ev_q rfl (q_assign (by conv => lhs; whnf) ?_)
    refine ev_nil (hK2 _ ?_); clear hK2
    refine good_ret ?_
    repeat (first | refine thenQ_ret ?_ | refine blockQ_ret ?_)
    refine ret_tmp (st := _) rfl (by conv => lhs; whnf) rfl ?_
    first | exact fT (fi_any.1 (by omega)) | exact fF (fun h => absurd (fi_any.2 h) (by omega))

-- impl.allWithin
set_option maxRecDepth 20000 in
theorem D_impl_allWithin (xs : List Int) (lo hi : Int) (hx : xs.length ≤ 17592186044416) : Den Try.prog 78 [.lst 1 (xs.map ci), .s (.int .i64 lo), .s (.int .i64 hi)] (.s (.bool (decide (within xs lo hi)))) := by
  classical
  refine den_of_good Try.func78 (by decide) rfl (Nat.le_of_ble_eq_true rfl) ?_
  refine good_seq fun K1 hK1 => ?_
  refine good_region rfl ?_
  refine ev_k rfl (k_box (by conv => lhs; whnf) rfl rfl rfl ?_)
  refine ev_k rfl (k_box (by conv => lhs; whnf) rfl rfl rfl ?_)
  refine ev_q rfl (q_assign (by conv => lhs; whnf) ?_)
  refine ev_nil (hK1 _ ?_); clear hK1
  refine good_seq fun K2 hK2 => ?_
  refine good_region rfl ?_
  refine ev_q rfl (q_move (by conv => lhs; whnf) ?_)
  refine ev_q rfl (q_clo rfl rfl ?_)
  refine ev_q rfl (q_callB rfl rfl rfl (D_slices_ContainsFunc_int64_int64 _ _ (fun x => ¬ (lo ≤ x ∧ x ≤ hi)) xs hx (fun x _ => D_impl_allWithin_1 x lo hi)) ?_)
  intro b3 hb3; cases b3
  · first | replace hb3 := dF hb3 | skip
    refine ev_q rfl (q_not rfl rfl ?_)
    refine ev_q rfl (q_assign (by conv => lhs; whnf) ?_)
    refine ev_nil (hK2 _ ?_); clear hK2
    refine good_ret ?_
    repeat (first | refine thenQ_ret ?_ | refine blockQ_ret ?_)
    refine ret_tmp (st := _) rfl (by conv => lhs; whnf) rfl ?_
    first | exact fT (within_any.2 (by assumption)) | exact fF (fun h => absurd (within_any.1 h) (by simpa using ‹∃ x ∈ xs, ¬ (lo ≤ x ∧ x ≤ hi)›))
  · first | replace hb3 := dT hb3 | skip
    refine ev_q rfl (q_not rfl rfl ?_)
    refine ev_q rfl (q_assign (by conv => lhs; whnf) ?_)
    refine ev_nil (hK2 _ ?_); clear hK2
    refine good_ret ?_
    repeat (first | refine thenQ_ret ?_ | refine blockQ_ret ?_)
    refine ret_tmp (st := _) rfl (by conv => lhs; whnf) rfl ?_
    first | exact fT (within_any.2 (by assumption)) | exact fF (fun h => absurd (within_any.1 h) (by simpa using ‹∃ x ∈ xs, ¬ (lo ≤ x ∧ x ≤ hi)›))

-- spec.l16Value
set_option maxRecDepth 20000 in
theorem D_spec_l16Value (a : Int)  : Den Try.prog 71 [.s (.int .i64 a)] (.s (.bool (decide (0 ≤ a ∧ a ≤ 1000000000000)))) := by
  refine den_of_good Try.func71 (by decide) rfl (Nat.le_of_ble_eq_true rfl) ?_
  refine good_seq fun K1 hK1 => ?_
  refine good_region rfl ?_
  refine ev_q rfl (q_assign (by conv => lhs; whnf) ?_)
  refine ev_nil (hK1 _ ?_); clear hK1
  refine good_seq fun K2 hK2 => ?_
  refine good_region rfl ?_
  refine ev_q rfl (q_move (by conv => lhs; whnf) ?_)
  refine ev_q rfl (q_callB rfl rfl rfl (D_spec_l00In ..) ?_)
  intro b3 hb3; cases b3
  · first | replace hb3 := dF hb3 | skip
    refine ev_q rfl (q_assign (by conv => lhs; whnf) ?_)
    refine ev_nil (hK2 _ ?_); clear hK2
    refine good_ret ?_
    repeat (first | refine thenQ_ret ?_ | refine blockQ_ret ?_)
    refine ret_tmp (st := _) rfl (by conv => lhs; whnf) rfl ?_
    first | rfl | exact fT (by first | omega | grind) | exact fF (by first | omega | grind) | exact fT' (by first | omega | grind) | (exfalso; first | omega | grind)
  · first | replace hb3 := dT hb3 | skip
    refine ev_q rfl (q_assign (by conv => lhs; whnf) ?_)
    refine ev_nil (hK2 _ ?_); clear hK2
    refine good_ret ?_
    repeat (first | refine thenQ_ret ?_ | refine blockQ_ret ?_)
    refine ret_tmp (st := _) rfl (by conv => lhs; whnf) rfl ?_
    first | rfl | exact fT (by first | omega | grind) | exact fF (by first | omega | grind) | exact fT' (by first | omega | grind) | (exfalso; first | omega | grind)

-- spec.l16Used
set_option maxRecDepth 20000 in
theorem D_spec_l16Used (xs : List Int) (hx : xs.length ≤ 17592186044416) : Den Try.prog 72 [.lst 1 (xs.map ci)] (.s (.bool (decide (xs.length ≤ 64 ∧ within xs (0) 1000000000000)))) := by
  classical
  refine den_of_good Try.func72 (by decide) rfl (Nat.le_of_ble_eq_true rfl) ?_
  refine good_seq fun K1 hK1 => ?_
  refine good_region rfl ?_
  refine ev_q rfl (q_assign (by conv => lhs; whnf) ?_)
  refine ev_nil (hK1 _ ?_); clear hK1
  refine good_seq fun K2 hK2 => ?_
  refine good_seq fun K3 hK3 => ?_
  refine good_region rfl ?_
  refine ev_q rfl (q_assign (by conv => lhs; whnf) ?_)
  refine ev_nil (hK3 _ ?_); clear hK3
  refine good_block ?_
  refine good_loop (α := Nat) (fun i => { env := upd (upd ((fun _ => .junk)) 0 (.lst 1 (xs.map ci))) 3 (.s (.int .i64 i)), H := fun _ => none }) (fun i => i ≤ xs.length ∧ ∀ j q, j < i → xs[j]? = some q → (0) ≤ q ∧ q ≤ 1000000000000) (fun i => xs.length - i) 0 ?_ ?_ ?_
  · exact ⟨by omega, fun j u hj => by omega⟩
  · refine sub_weak ?_ ?_
    · exact weakH_none _
    · refine weakE_upd ?e3 ?r3 (weakE_upd ?e0 ?r0 (weakE_junk _ _))
      case e0 => first | rfl | exact fI (by omega) | (simp_all)
      case r0 => intro h hh; cases hh
      case e3 => first | rfl | exact fI (by omega) | (simp_all)
      case r3 => intro h hh; cases hh
  · rintro i ⟨hI, hJ⟩
    refine good_seq fun K4 hK4 => ?_
    refine good_seq fun K5 hK5 => ?_
    refine good_region rfl ?_
    refine ev_q rfl (q_move (by conv => lhs; whnf) ?_)
    refine ev_q rfl (q_move (by conv => lhs; whnf) ?_)
    refine ev_q rfl (q_len tEs50 rfl ?_)
    intro n6 hn6
    try simp only [List.length_map] at hn6
    refine ev_q rfl (q_int rfl rfl ?_)
    intro b7 hb7; cases b7
    · replace hb7 := dF hb7
      refine ev_nil (hK5 _ ?_); clear hK5
      refine good_condF rfl ?_
      refine good_exit ?_
      repeat (first | refine thenQ_exit ?_ | refine blockQ_pass rfl ?_)
      refine blockQ_exit (hK2 _ ?_); clear hK2
      refine good_seq fun K8 hK8 => ?_
      refine good_region rfl ?_
      refine ev_q rfl (q_move (by conv => lhs; whnf) ?_)
      refine ev_q rfl (q_len tEs50 rfl ?_)
      intro n9 hn9
      try simp only [List.length_map] at hn9
      refine ev_q rfl (q_int rfl rfl ?_)
      intro b10 hb10; cases b10
      · replace hb10 := dF hb10
        refine ev_q rfl (q_assign (by conv => lhs; whnf) ?_)
        refine ev_nil (hK8 _ ?_); clear hK8
        refine good_ret ?_
        repeat (first | refine thenQ_ret ?_ | refine blockQ_ret ?_)
        refine ret_tmp (st := _) rfl (by conv => lhs; whnf) rfl ?_
        clear hK4
        first | exact fT ⟨by omega, all_finI (Q := fun _ q => (0) ≤ q ∧ q ≤ 1000000000000) hJ (by omega)⟩ | exact fF (fun h => by have := h.1; omega) | exact fF (fun h => by have := h.2 _ _ hp; omega)
      · replace hb10 := dT hb10
        refine ev_q rfl (q_assign (by conv => lhs; whnf) ?_)
        refine ev_nil (hK8 _ ?_); clear hK8
        refine good_ret ?_
        repeat (first | refine thenQ_ret ?_ | refine blockQ_ret ?_)
        refine ret_tmp (st := _) rfl (by conv => lhs; whnf) rfl ?_
        clear hK4
        first | exact fT ⟨by omega, all_finI (Q := fun _ q => (0) ≤ q ∧ q ≤ 1000000000000) hJ (by omega)⟩ | exact fF (fun h => by have := h.1; omega) | exact fF (fun h => by have := h.2 _ _ hp; omega)
    · replace hb7 := dT hb7
      obtain ⟨p, hp⟩ := getL (xs := xs) (n := (i : Int)) (by omega) (by omega)
      replace hp : xs[i]? = some p := hp
      refine ev_nil (hK5 _ ?_); clear hK5
      refine good_condT rfl ?_
      refine good_skip (hK4 _ ?_); clear hK4
      refine good_seq fun K11 hK11 => ?_
      refine good_block ?_
      refine good_seq fun K12 hK12 => ?_
      refine good_region rfl ?_
      refine ev_q rfl (q_move (by conv => lhs; whnf) ?_)
      refine ev_q rfl (q_move (by conv => lhs; whnf) ?_)
      refine ev_q rfl (q_idx tE50 rfl rfl (by exact Int.natCast_nonneg _) (by exact map_get hp) rfl ?_)
      refine ev_q rfl (q_load tA2 rfl ?_)
      refine ev_q rfl (q_callB rfl rfl rfl (D_spec_l16Value ..) ?_)
      intro b13 hb13; cases b13
      · first | replace hb13 := dF hb13 | skip
        refine ev_q rfl (q_not rfl rfl ?_)
        refine ev_nil (hK12 _ ?_); clear hK12
        refine good_condT rfl ?_
        refine good_seq fun K14 hK14 => ?_
        refine good_region rfl ?_
        refine ev_q rfl (q_assign (by conv => lhs; whnf) ?_)
        refine ev_nil (hK14 _ ?_); clear hK14
        refine good_ret ?_
        repeat (first | refine thenQ_ret ?_ | refine blockQ_ret ?_)
        refine ret_tmp (st := _) rfl (by conv => lhs; whnf) rfl ?_
        clear hK2 hK11
        first | exact fT ⟨by omega, all_finI (Q := fun _ q => (0) ≤ q ∧ q ≤ 1000000000000) hJ (by omega)⟩ | exact fF (fun h => by have := h.1; omega) | exact fF (fun h => by have := h.2 _ _ hp; omega)
      · first | replace hb13 := dT hb13 | skip
        refine ev_q rfl (q_not rfl rfl ?_)
        refine ev_nil (hK12 _ ?_); clear hK12
        refine good_condF rfl ?_
        refine good_skip (hK11 _ ?_); clear hK11
        refine good_region rfl ?_
        refine ev_q rfl (q_move (by conv => lhs; whnf) ?_)
        refine ev_q rfl (q_int rfl rfl ?_)
        intro n15 hn15
        replace hn15 := in64 hn15 (by omega) (by omega)
        refine ev_q rfl (q_assign (by conv => lhs; whnf) ?_)
        refine ev_nil ?_
        clear hK2
        refine ⟨i + 1, ?_, ?_, ?_⟩
        · exact ⟨by omega, all_extI (Q := fun _ q => (0) ≤ q ∧ q ≤ 1000000000000) hJ hp (by omega)⟩
        · first | omega | (simp only []; omega) | (dsimp only; omega)
        · refine sub_weak ?_ ?_
          · exact weakH_none _
          · refine weakE_upd ?e3 ?r3 (weakE_upd ?e0 ?r0 (weakE_junk _ _))
            case e0 => first | rfl | exact fI (by omega) | (simp_all)
            case r0 => intro h hh; cases hh
            case e3 => first | rfl | exact fI (by omega) | (simp_all)
            case r3 => intro h hh; cases hh

-- impl.allowancesOk
set_option maxRecDepth 20000 in
theorem D_impl_allowancesOk (free price : Int) (xs : List Int) (hx : xs.length ≤ 17592186044416) : Den Try.prog 73 [.s (.int .i64 free), .s (.int .i64 price), .lst 1 (xs.map ci)] (.s (.bool (decide (alOk free price xs)))) := by
  refine den_of_good Try.func73 (by decide) rfl (Nat.le_of_ble_eq_true rfl) ?_
  refine good_seq fun K1 hK1 => ?_
  refine good_region rfl ?_
  refine ev_q rfl (q_assign (by conv => lhs; whnf) ?_)
  refine ev_nil (hK1 _ ?_); clear hK1
  refine good_seq fun K2 hK2 => ?_
  refine good_region rfl ?_
  refine ev_q rfl (q_move (by conv => lhs; whnf) ?_)
  refine ev_q rfl (q_callB rfl rfl rfl (D_impl_within ..) ?_)
  intro b3 hb3; cases b3
  · first | replace hb3 := dF hb3 | skip
    refine ev_q rfl (q_move (by conv => lhs; whnf) ?_)
    refine ev_skip rfl ?_
    refine ev_skip rfl ?_
    refine ev_q rfl (q_pickF rfl (by conv => lhs; whnf) ?_)
    refine ev_q rfl (q_move (by conv => lhs; whnf) ?_)
    refine ev_skip rfl ?_
    refine ev_skip rfl ?_
    refine ev_skip rfl ?_
    refine ev_q rfl (q_pickF rfl (by conv => lhs; whnf) ?_)
    refine ev_q rfl (q_move (by conv => lhs; whnf) ?_)
    refine ev_skip rfl ?_
    refine ev_skip rfl ?_
    refine ev_q rfl (q_pickF rfl (by conv => lhs; whnf) ?_)
    refine ev_q rfl (q_assign (by conv => lhs; whnf) ?_)
    refine ev_nil (hK2 _ ?_); clear hK2
    refine good_ret ?_
    repeat (first | refine thenQ_ret ?_ | refine blockQ_ret ?_)
    refine ret_tmp (st := _) rfl (by conv => lhs; whnf) rfl ?_
    first | exact fT ⟨by omega, by omega, by omega, by assumption⟩ | exact fF (fun h => by obtain ⟨h1, h2, h3, h4⟩ := h; first | omega | contradiction)
  · first | replace hb3 := dT hb3 | skip
    refine ev_q rfl (q_move (by conv => lhs; whnf) ?_)
    refine ev_q rfl (q_move (by conv => lhs; whnf) ?_)
    refine ev_q rfl (q_callB rfl rfl rfl (D_impl_within ..) ?_)
    intro b4 hb4; cases b4
    · first | replace hb4 := dF hb4 | skip
      refine ev_q rfl (q_pickT rfl (by conv => lhs; whnf) ?_)
      refine ev_q rfl (q_move (by conv => lhs; whnf) ?_)
      refine ev_skip rfl ?_
      refine ev_skip rfl ?_
      refine ev_skip rfl ?_
      refine ev_q rfl (q_pickF rfl (by conv => lhs; whnf) ?_)
      refine ev_q rfl (q_move (by conv => lhs; whnf) ?_)
      refine ev_skip rfl ?_
      refine ev_skip rfl ?_
      refine ev_q rfl (q_pickF rfl (by conv => lhs; whnf) ?_)
      refine ev_q rfl (q_assign (by conv => lhs; whnf) ?_)
      refine ev_nil (hK2 _ ?_); clear hK2
      refine good_ret ?_
      repeat (first | refine thenQ_ret ?_ | refine blockQ_ret ?_)
      refine ret_tmp (st := _) rfl (by conv => lhs; whnf) rfl ?_
      first | exact fT ⟨by omega, by omega, by omega, by assumption⟩ | exact fF (fun h => by obtain ⟨h1, h2, h3, h4⟩ := h; first | omega | contradiction)
    · first | replace hb4 := dT hb4 | skip
      refine ev_q rfl (q_pickT rfl (by conv => lhs; whnf) ?_)
      refine ev_q rfl (q_move (by conv => lhs; whnf) ?_)
      refine ev_q rfl (q_move (by conv => lhs; whnf) ?_)
      refine ev_q rfl (q_len tEs50 rfl ?_)
      intro n5 hn5
      try simp only [List.length_map] at hn5
      refine ev_q rfl (q_int rfl rfl ?_)
      intro b6 hb6; cases b6
      · replace hb6 := dF hb6
        refine ev_q rfl (q_pickT rfl (by conv => lhs; whnf) ?_)
        refine ev_q rfl (q_move (by conv => lhs; whnf) ?_)
        refine ev_skip rfl ?_
        refine ev_skip rfl ?_
        refine ev_q rfl (q_pickF rfl (by conv => lhs; whnf) ?_)
        refine ev_q rfl (q_assign (by conv => lhs; whnf) ?_)
        refine ev_nil (hK2 _ ?_); clear hK2
        refine good_ret ?_
        repeat (first | refine thenQ_ret ?_ | refine blockQ_ret ?_)
        refine ret_tmp (st := _) rfl (by conv => lhs; whnf) rfl ?_
        first | exact fT ⟨by omega, by omega, by omega, by assumption⟩ | exact fF (fun h => by obtain ⟨h1, h2, h3, h4⟩ := h; first | omega | contradiction)
      · replace hb6 := dT hb6
        refine ev_q rfl (q_pickT rfl (by conv => lhs; whnf) ?_)
        refine ev_q rfl (q_move (by conv => lhs; whnf) ?_)
        refine ev_q rfl (q_move (by conv => lhs; whnf) ?_)
        refine ev_q rfl (q_callB rfl rfl rfl (D_impl_allWithin _ _ _ hx) ?_)
        intro b7 hb7; cases b7
        · first | replace hb7 := dF hb7 | skip
          refine ev_q rfl (q_pickT rfl (by conv => lhs; whnf) ?_)
          refine ev_q rfl (q_assign (by conv => lhs; whnf) ?_)
          refine ev_nil (hK2 _ ?_); clear hK2
          refine good_ret ?_
          repeat (first | refine thenQ_ret ?_ | refine blockQ_ret ?_)
          refine ret_tmp (st := _) rfl (by conv => lhs; whnf) rfl ?_
          first | exact fT ⟨by omega, by omega, by omega, by assumption⟩ | exact fF (fun h => by obtain ⟨h1, h2, h3, h4⟩ := h; first | omega | contradiction)
        · first | replace hb7 := dT hb7 | skip
          refine ev_q rfl (q_pickT rfl (by conv => lhs; whnf) ?_)
          refine ev_q rfl (q_assign (by conv => lhs; whnf) ?_)
          refine ev_nil (hK2 _ ?_); clear hK2
          refine good_ret ?_
          repeat (first | refine thenQ_ret ?_ | refine blockQ_ret ?_)
          refine ret_tmp (st := _) rfl (by conv => lhs; whnf) rfl ?_
          first | exact fT ⟨by omega, by omega, by omega, by assumption⟩ | exact fF (fun h => by obtain ⟨h1, h2, h3, h4⟩ := h; first | omega | contradiction)

-- spec.AllowanceCost
set_option maxRecDepth 20000 in
theorem D_spec_AllowanceCost (free price : Int) (xs : List Int) (hx : xs.length ≤ 17592186044416) : Den Try.prog 35 [.s (.int .i64 free), .s (.int .i64 price), .lst 1 (xs.map ci)] (.tup [.s (.int .i64 (if alOk free price xs then (alF free xs).2 * price else 0)), .s (.int .i64 (if alOk free price xs then 0 else 2))]) := by
  refine den_of_good Try.func35 (by decide) rfl (Nat.le_of_ble_eq_true rfl) ?_
  refine good_seq fun K1 hK1 => ?_
  refine good_region rfl ?_
  refine ev_q rfl (q_assign (by conv => lhs; whnf) ?_)
  refine ev_q rfl (q_assign (by conv => lhs; whnf) ?_)
  refine ev_nil (hK1 _ ?_); clear hK1
  refine good_seq fun K2 hK2 => ?_
  refine good_seq fun K3 hK3 => ?_
  refine good_region rfl ?_
  refine ev_q rfl (q_move (by conv => lhs; whnf) ?_)
  refine ev_q rfl (q_callB rfl rfl rfl (D_spec_l16Value ..) ?_)
  intro b4 hb4; cases b4
  · first | replace hb4 := dF hb4 | skip
    refine ev_q rfl (q_not rfl rfl ?_)
    refine ev_q rfl (q_move (by conv => lhs; whnf) ?_)
    refine ev_skip rfl ?_
    refine ev_skip rfl ?_
    refine ev_skip rfl ?_
    refine ev_q rfl (q_pickT rfl (by conv => lhs; whnf) ?_)
    refine ev_q rfl (q_move (by conv => lhs; whnf) ?_)
    refine ev_skip rfl ?_
    refine ev_skip rfl ?_
    refine ev_skip rfl ?_
    refine ev_q rfl (q_pickT rfl (by conv => lhs; whnf) ?_)
    refine ev_nil (hK3 _ ?_); clear hK3
    refine good_condT rfl ?_
    refine good_seq fun K5 hK5 => ?_
    refine good_region rfl ?_
    refine ev_q rfl (q_assign (by conv => lhs; whnf) ?_)
    refine ev_q rfl (q_assign (by conv => lhs; whnf) ?_)
    refine ev_nil (hK5 _ ?_); clear hK5
    refine good_ret ?_
    repeat (first | refine thenQ_ret ?_ | refine blockQ_ret ?_)
    refine ret_many rfl ?_
    refine res_tmp (by conv => lhs; whnf) rfl ?_
    refine res_tmp (by conv => lhs; whnf) rfl ?_
    refine res_nil ?_
    clear hK2
    first | exact fTup1 (fI (by rw [if_pos ok, ← alG_all (by omega : xs.length ≤ i)])) (fTup1 (fI (by rw [if_pos ok])) rfl) | (have hno : ¬ alOk free price xs := (fun h => by first | contradiction | (obtain ⟨h1, h2, h3, h4⟩ := h; first | omega | contradiction | grind)); exact fTup1 (fI (if_neg hno).symm) (fTup1 (fI (if_neg hno).symm) rfl))
  · first | replace hb4 := dT hb4 | skip
    refine ev_q rfl (q_not rfl rfl ?_)
    refine ev_q rfl (q_move (by conv => lhs; whnf) ?_)
    refine ev_q rfl (q_move (by conv => lhs; whnf) ?_)
    refine ev_q rfl (q_callB rfl rfl rfl (D_spec_l00In ..) ?_)
    intro b6 hb6; cases b6
    · first | replace hb6 := dF hb6 | skip
      refine ev_q rfl (q_not rfl rfl ?_)
      refine ev_q rfl (q_pickF rfl (by conv => lhs; whnf) ?_)
      refine ev_q rfl (q_move (by conv => lhs; whnf) ?_)
      refine ev_skip rfl ?_
      refine ev_skip rfl ?_
      refine ev_skip rfl ?_
      refine ev_q rfl (q_pickT rfl (by conv => lhs; whnf) ?_)
      refine ev_nil (hK3 _ ?_); clear hK3
      refine good_condT rfl ?_
      refine good_seq fun K7 hK7 => ?_
      refine good_region rfl ?_
      refine ev_q rfl (q_assign (by conv => lhs; whnf) ?_)
      refine ev_q rfl (q_assign (by conv => lhs; whnf) ?_)
      refine ev_nil (hK7 _ ?_); clear hK7
      refine good_ret ?_
      repeat (first | refine thenQ_ret ?_ | refine blockQ_ret ?_)
      refine ret_many rfl ?_
      refine res_tmp (by conv => lhs; whnf) rfl ?_
      refine res_tmp (by conv => lhs; whnf) rfl ?_
      refine res_nil ?_
      clear hK2
      first | exact fTup1 (fI (by rw [if_pos ok, ← alG_all (by omega : xs.length ≤ i)])) (fTup1 (fI (by rw [if_pos ok])) rfl) | (have hno : ¬ alOk free price xs := (fun h => by first | contradiction | (obtain ⟨h1, h2, h3, h4⟩ := h; first | omega | contradiction | grind)); exact fTup1 (fI (if_neg hno).symm) (fTup1 (fI (if_neg hno).symm) rfl))
    · first | replace hb6 := dT hb6 | skip
      refine ev_q rfl (q_not rfl rfl ?_)
      refine ev_q rfl (q_pickF rfl (by conv => lhs; whnf) ?_)
      refine ev_q rfl (q_move (by conv => lhs; whnf) ?_)
      refine ev_q rfl (q_move (by conv => lhs; whnf) ?_)
      refine ev_q rfl (q_callB rfl rfl rfl (D_spec_l16Used _ hx) ?_)
      intro b8 hb8; cases b8
      · first | replace hb8 := dF hb8 | skip
        refine ev_q rfl (q_not rfl rfl ?_)
        refine ev_q rfl (q_pickF rfl (by conv => lhs; whnf) ?_)
        refine ev_nil (hK3 _ ?_); clear hK3
        refine good_condT rfl ?_
        refine good_seq fun K9 hK9 => ?_
        refine good_region rfl ?_
        refine ev_q rfl (q_assign (by conv => lhs; whnf) ?_)
        refine ev_q rfl (q_assign (by conv => lhs; whnf) ?_)
        refine ev_nil (hK9 _ ?_); clear hK9
        refine good_ret ?_
        repeat (first | refine thenQ_ret ?_ | refine blockQ_ret ?_)
        refine ret_many rfl ?_
        refine res_tmp (by conv => lhs; whnf) rfl ?_
        refine res_tmp (by conv => lhs; whnf) rfl ?_
        refine res_nil ?_
        clear hK2
        first | exact fTup1 (fI (by rw [if_pos ok, ← alG_all (by omega : xs.length ≤ i)])) (fTup1 (fI (by rw [if_pos ok])) rfl) | (have hno : ¬ alOk free price xs := (fun h => by first | contradiction | (obtain ⟨h1, h2, h3, h4⟩ := h; first | omega | contradiction | grind)); exact fTup1 (fI (if_neg hno).symm) (fTup1 (fI (if_neg hno).symm) rfl))
      · first | replace hb8 := dT hb8 | skip
        refine ev_q rfl (q_not rfl rfl ?_)
        refine ev_q rfl (q_pickF rfl (by conv => lhs; whnf) ?_)
        refine ev_nil (hK3 _ ?_); clear hK3
        refine good_condF rfl ?_
        refine good_skip (hK2 _ ?_); clear hK2
        refine good_seq fun K10 hK10 => ?_
        refine good_region rfl ?_
        refine ev_q rfl (q_assign (by conv => lhs; whnf) ?_)
        refine ev_nil (hK10 _ ?_); clear hK10
        refine good_seq fun K11 hK11 => ?_
        refine good_region rfl ?_
        refine ev_q rfl (q_assign (by conv => lhs; whnf) ?_)
        refine ev_nil (hK11 _ ?_); clear hK11
        refine good_seq fun K12 hK12 => ?_
        refine good_seq fun K13 hK13 => ?_
        refine good_region rfl ?_
        refine ev_q rfl (q_assign (by conv => lhs; whnf) ?_)
        refine ev_nil (hK13 _ ?_); clear hK13
        refine good_block ?_
        have ok : alOk free price xs := ⟨by omega, by omega, by omega, (by grind)⟩
        have hbd := alG_bd ok.1 ok.2.2.2
        refine good_loop (α := Nat) (fun i => { env := upd (upd (upd (upd (upd (upd ((fun _ => .junk)) 0 (.s (.int .i64 free))) 1 (.s (.int .i64 price))) 2 (.lst 1 (xs.map ci))) 8 (.s (.int .i64 ((alG free xs i).2 * price)))) 9 (.s (.int .i64 ((alG free xs i).1)))) 10 (.s (.int .i64 i)), H := fun _ => none }) (fun i => i ≤ xs.length) (fun i => xs.length - i) 0 ?_ ?_ ?_
        · show 0 ≤ _; omega
        · refine sub_weak ?_ ?_
          · exact weakH_none _
          · refine weakE_upd ?e10 ?r10 (weakE_upd ?e9 ?r9 (weakE_upd ?e8 ?r8 (weakE_upd ?e2 ?r2 (weakE_upd ?e1 ?r1 (weakE_upd ?e0 ?r0 (weakE_junk _ _))))))
            case e0 => first | rfl | exact fI (by omega) | (simp_all)
            case r0 => intro h hh; cases hh
            case e1 => first | rfl | exact fI (by omega) | (simp_all)
            case r1 => intro h hh; cases hh
            case e2 => first | rfl | exact fI (by omega) | (simp_all)
            case r2 => intro h hh; cases hh
            case e8 => first | rfl | exact fI (by omega) | (first | exact fI (by rw [hnx, Int.sub_mul]; omega) | exact fI (by rw [hnx]) | exact fI (by simp [alG, alF]))
            case r8 => intro h hh; cases hh
            case e9 => first | rfl | exact fI (by omega) | (first | exact fI (by omega) | exact fI (by simp [alG, alF]))
            case r9 => intro h hh; cases hh
            case e10 => first | rfl | exact fI (by omega) | (simp_all)
            case r10 => intro h hh; cases hh
        · rintro i hI
          refine good_seq fun K14 hK14 => ?_
          refine good_seq fun K15 hK15 => ?_
          refine good_region rfl ?_
          refine ev_q rfl (q_move (by conv => lhs; whnf) ?_)
          refine ev_q rfl (q_move (by conv => lhs; whnf) ?_)
          refine ev_q rfl (q_len tEs50 rfl ?_)
          intro n16 hn16
          try simp only [List.length_map] at hn16
          refine ev_q rfl (q_int rfl rfl ?_)
          intro b17 hb17; cases b17
          · replace hb17 := dF hb17
            refine ev_nil (hK15 _ ?_); clear hK15
            refine good_condF rfl ?_
            refine good_exit ?_
            repeat (first | refine thenQ_exit ?_ | refine blockQ_pass rfl ?_)
            refine blockQ_exit (hK12 _ ?_); clear hK12
            refine good_seq fun K18 hK18 => ?_
            refine good_region rfl ?_
            refine ev_q rfl (q_move (by conv => lhs; whnf) ?_)
            refine ev_q rfl (q_assign (by conv => lhs; whnf) ?_)
            refine ev_q rfl (q_assign (by conv => lhs; whnf) ?_)
            refine ev_nil (hK18 _ ?_); clear hK18
            refine good_ret ?_
            repeat (first | refine thenQ_ret ?_ | refine blockQ_ret ?_)
            refine ret_many rfl ?_
            refine res_tmp (by conv => lhs; whnf) rfl ?_
            refine res_tmp (by conv => lhs; whnf) rfl ?_
            refine res_nil ?_
            clear hK14
            first | exact fTup1 (fI (by rw [if_pos ok, ← alG_all (by omega : xs.length ≤ i)])) (fTup1 (fI (by rw [if_pos ok])) rfl) | (have hno : ¬ alOk free price xs := (fun h => by first | contradiction | (obtain ⟨h1, h2, h3, h4⟩ := h; first | omega | contradiction | grind)); exact fTup1 (fI (if_neg hno).symm) (fTup1 (fI (if_neg hno).symm) rfl))
          · replace hb17 := dT hb17
            obtain ⟨p, hp⟩ := getL (xs := xs) (n := (i : Int)) (by omega) (by omega)
            replace hp : xs[i]? = some p := hp
            have hbi := hbd i hI
            have hp2 := ok.2.2.2 i p hp
            have hst := alG_step (free := free) hp
            have hm3 := mulB3 (a := (alG free xs i).2) (b := price) (by omega) ok.2.1
            refine ev_nil (hK15 _ ?_); clear hK15
            refine good_condT rfl ?_
            refine good_skip (hK14 _ ?_); clear hK14
            refine good_seq fun K19 hK19 => ?_
            refine good_block ?_
            refine good_seq fun K20 hK20 => ?_
            refine good_region rfl ?_
            refine ev_q rfl (q_move (by conv => lhs; whnf) ?_)
            refine ev_q rfl (q_move (by conv => lhs; whnf) ?_)
            refine ev_q rfl (q_move (by conv => lhs; whnf) ?_)
            refine ev_q rfl (q_move (by conv => lhs; whnf) ?_)
            refine ev_q rfl (q_idx tE50 rfl rfl (by exact Int.natCast_nonneg _) (by exact map_get hp) rfl ?_)
            refine ev_q rfl (q_load tA2 rfl ?_)
            refine ev_q rfl (q_int rfl rfl ?_)
            intro n21 hn21
            replace hn21 := in64 hn21 (by omega) (by omega)
            refine ev_q rfl (q_int rfl rfl ?_)
            intro n22 hn22
            replace hn22 := in64 hn22 (by omega) (by omega)
            refine ev_q rfl (q_assign (by conv => lhs; whnf) ?_)
            refine ev_nil (hK20 _ ?_); clear hK20
            refine good_seq fun K23 hK23 => ?_
            refine good_region rfl ?_
            refine ev_q rfl (q_move (by conv => lhs; whnf) ?_)
            refine ev_q rfl (q_int rfl rfl ?_)
            intro b24 hb24; cases b24
            · replace hb24 := dF hb24
              have hnx : (alG free xs (i+1)).2 = (alG free xs i).2 := by rw [hst]; simp only [alS]; rw [if_neg (by omega)]
              have hnl : (alG free xs (i+1)).1 = n22 := by rw [hst]; simp only [alS]; rw [if_neg (by omega)]; omega
              refine ev_nil (hK23 _ ?_); clear hK23
              refine good_condF rfl ?_
              refine good_skip (hK19 _ ?_); clear hK19
              refine good_region rfl ?_
              refine ev_q rfl (q_move (by conv => lhs; whnf) ?_)
              refine ev_q rfl (q_int rfl rfl ?_)
              intro n25 hn25
              replace hn25 := in64 hn25 (by omega) (by omega)
              refine ev_q rfl (q_assign (by conv => lhs; whnf) ?_)
              refine ev_nil ?_
              clear hK12
              refine ⟨i + 1, ?_, ?_, ?_⟩
              · show _ ≤ _; omega
              · first | omega | (simp only []; omega) | (dsimp only; omega)
              · refine sub_weak ?_ ?_
                · exact weakH_none _
                · refine weakE_upd ?e10 ?r10 (weakE_upd ?e9 ?r9 (weakE_upd ?e8 ?r8 (weakE_upd ?e2 ?r2 (weakE_upd ?e1 ?r1 (weakE_upd ?e0 ?r0 (weakE_junk _ _))))))
                  case e0 => first | rfl | exact fI (by omega) | (simp_all)
                  case r0 => intro h hh; cases hh
                  case e1 => first | rfl | exact fI (by omega) | (simp_all)
                  case r1 => intro h hh; cases hh
                  case e2 => first | rfl | exact fI (by omega) | (simp_all)
                  case r2 => intro h hh; cases hh
                  case e8 => first | rfl | exact fI (by omega) | (first | exact fI (by rw [hnx, Int.sub_mul]; omega) | exact fI (by rw [hnx]) | exact fI (by simp [alG, alF]))
                  case r8 => intro h hh; cases hh
                  case e9 => first | rfl | exact fI (by omega) | (first | exact fI (by omega) | exact fI (by simp [alG, alF]))
                  case r9 => intro h hh; cases hh
                  case e10 => first | rfl | exact fI (by omega) | (simp_all)
                  case r10 => intro h hh; cases hh
            · replace hb24 := dT hb24
              have hnx : (alG free xs (i+1)).2 = (alG free xs i).2 - n22 := by rw [hst]; simp only [alS]; rw [if_pos (by omega)]; omega
              have hnl : (alG free xs (i+1)).1 = 0 := by rw [hst]; simp only [alS]; rw [if_pos (by omega)]
              refine ev_nil (hK23 _ ?_); clear hK23
              refine good_condT rfl ?_
              refine good_seq fun K26 hK26 => ?_
              refine good_region rfl ?_
              refine ev_q rfl (q_move (by conv => lhs; whnf) ?_)
              refine ev_q rfl (q_move (by conv => lhs; whnf) ?_)
              refine ev_q rfl (q_move (by conv => lhs; whnf) ?_)
              refine ev_q rfl (q_int rfl rfl ?_)
              intro n27 hn27
              have hm4 := mulS (a := n22) (b := price) (A := 1000000000000) (B := 1000) (by omega) (by omega) (by omega) (by omega)
              replace hn27 := in64 hn27 (by omega) (by omega)
              refine ev_q rfl (q_int rfl rfl ?_)
              intro n28 hn28
              replace hn28 := in64 hn28 (by omega) (by omega)
              refine ev_q rfl (q_assign (by conv => lhs; whnf) ?_)
              refine ev_nil (hK26 _ ?_); clear hK26
              refine good_region rfl ?_
              refine ev_q rfl (q_assign (by conv => lhs; whnf) ?_)
              refine ev_nil (hK19 _ ?_); clear hK19
              refine good_region rfl ?_
              refine ev_q rfl (q_move (by conv => lhs; whnf) ?_)
              refine ev_q rfl (q_int rfl rfl ?_)
              intro n29 hn29
              replace hn29 := in64 hn29 (by omega) (by omega)
              refine ev_q rfl (q_assign (by conv => lhs; whnf) ?_)
              refine ev_nil ?_
              clear hK12
              refine ⟨i + 1, ?_, ?_, ?_⟩
              · show _ ≤ _; omega
              · first | omega | (simp only []; omega) | (dsimp only; omega)
              · refine sub_weak ?_ ?_
                · exact weakH_none _
                · refine weakE_upd ?e10 ?r10 (weakE_upd ?e9 ?r9 (weakE_upd ?e8 ?r8 (weakE_upd ?e2 ?r2 (weakE_upd ?e1 ?r1 (weakE_upd ?e0 ?r0 (weakE_junk _ _))))))
                  case e0 => first | rfl | exact fI (by omega) | (simp_all)
                  case r0 => intro h hh; cases hh
                  case e1 => first | rfl | exact fI (by omega) | (simp_all)
                  case r1 => intro h hh; cases hh
                  case e2 => first | rfl | exact fI (by omega) | (simp_all)
                  case r2 => intro h hh; cases hh
                  case e8 => first | rfl | exact fI (by omega) | (first | exact fI (by rw [hnx, Int.sub_mul]; omega) | exact fI (by rw [hnx]) | exact fI (by simp [alG, alF]))
                  case r8 => intro h hh; cases hh
                  case e9 => first | rfl | exact fI (by omega) | (first | exact fI (by omega) | exact fI (by simp [alG, alF]))
                  case r9 => intro h hh; cases hh
                  case e10 => first | rfl | exact fI (by omega) | (simp_all)
                  case r10 => intro h hh; cases hh

-- impl.allowances
set_option maxRecDepth 20000 in
theorem D_impl_allowances (free : Int) (xs : List Int) (hf : 0 ≤ free ∧ free ≤ 1000000000000) (hw : xs.length ≤ 64 ∧ within xs 0 1000000000000) : Den Try.prog 74 [.s (.int .i64 free), .lst 1 (xs.map ci)] (.tup [.lst 1 ((alL free xs xs.length).map ci), .s (.int .i64 ((alF free xs).2))]) := by
  refine den_of_good Try.func74 (by decide) rfl (Nat.le_of_ble_eq_true rfl) ?_
  refine good_seq fun K1 hK1 => ?_
  refine good_region rfl ?_
  refine ev_q rfl (q_assign (by conv => lhs; whnf) ?_)
  refine ev_q rfl (q_assign (by conv => lhs; whnf) ?_)
  refine ev_nil (hK1 _ ?_); clear hK1
  refine good_seq fun K2 hK2 => ?_
  refine good_region rfl ?_
  refine ev_q rfl (q_assign (by conv => lhs; whnf) ?_)
  refine ev_nil (hK2 _ ?_); clear hK2
  refine good_seq fun K3 hK3 => ?_
  refine good_region rfl ?_
  refine ev_q rfl (q_assign (by conv => lhs; whnf) ?_)
  refine ev_q rfl (q_assign (by conv => lhs; whnf) ?_)
  refine ev_nil (hK3 _ ?_); clear hK3
  refine good_seq fun K4 hK4 => ?_
  refine good_seq fun K5 hK5 => ?_
  refine good_region rfl ?_
  refine ev_q rfl (q_move (by conv => lhs; whnf) ?_)
  refine ev_q rfl (q_len tEs50 rfl ?_)
  intro n6 hn6
  try simp only [List.length_map] at hn6
  refine ev_q rfl (q_move (by conv => lhs; whnf) ?_)
  refine ev_nil (hK5 _ ?_); clear hK5
  refine good_block ?_
  have hbd := alG_bd hf hw.2
  refine good_loop (α := Nat) (fun i => { env := upd (upd (upd (upd (upd (upd (upd ((fun _ => .junk)) 0 (.s (.int .i64 free))) 6 (.own 32 i)) 7 (.s (.int .i64 ((alG free xs i).1)))) 8 (.s (.int .i64 ((alG free xs i).2)))) 11 (.lst 1 (xs.map ci))) 12 (.s (.int .i64 ((xs.length : Int))))) 13 (.s (.int .i64 i)), H := upd ((fun _ => none)) 32 (some (.row 2 1 ((alL free xs i).map ci))) }) (fun i => i ≤ xs.length) (fun i => xs.length - i) 0 ?_ ?_ ?_
  · show 0 ≤ _; omega
  · refine Sub.trans (sub_nil 6 32 2 1 rfl rfl) ?_
    refine sub_weak ?_ ?_
    · exact weakH_row (rowEq (by simp [alL])) (weakH_none _)
    · refine weakE_upd ?e13 ?r13 (weakE_upd ?e12 ?r12 (weakE_upd ?e11 ?r11 (weakE_upd ?e8 ?r8 (weakE_upd ?e7 ?r7 (weakE_upd ?e6 ?r6 (weakE_upd ?e0 ?r0 (weakE_junk _ _)))))))
      case e0 => first | rfl | exact fI (by omega) | (simp_all)
      case r0 => intro h hh; cases hh
      case e6 => first | rfl | exact fI (by omega) | (exact ownEq (by simp [alL_len]))
      case r6 => intro h hh; simp [refs] at hh; subst hh; rfl
      case e7 => first | rfl | exact fI (by omega) | (first | exact fI (by omega) | exact fI (by simp [alG, alF]))
      case r7 => intro h hh; cases hh
      case e8 => first | rfl | exact fI (by omega) | (first | exact fI (by omega) | exact fI (by simp [alG, alF]))
      case r8 => intro h hh; cases hh
      case e11 => first | rfl | exact fI (by omega) | (simp_all)
      case r11 => intro h hh; cases hh
      case e12 => first | rfl | exact fI (by omega) | (simp_all)
      case r12 => intro h hh; cases hh
      case e13 => first | rfl | exact fI (by omega) | (simp_all)
      case r13 => intro h hh; cases hh
  · rintro i hI
    refine good_seq fun K7 hK7 => ?_
    refine good_region rfl ?_
    refine ev_q rfl (q_int rfl rfl ?_)
    intro b8 hb8; cases b8
    · replace hb8 := dF hb8
      refine ev_nil (hK7 _ ?_); clear hK7
      refine good_seq fun K9 hK9 => ?_
      refine good_condF rfl ?_
      refine good_exit ?_
      repeat (first | refine thenQ_exit ?_ | refine blockQ_pass rfl ?_)
      refine blockQ_exit (hK4 _ ?_); clear hK4
      refine good_seq fun K10 hK10 => ?_
      refine good_region rfl ?_
      refine ev_q rfl (q_move (by conv => lhs; whnf) ?_)
      refine ev_q rfl (q_move (by conv => lhs; whnf) ?_)
      refine ev_q rfl (q_assign (by conv => lhs; whnf) ?_)
      refine ev_q rfl (q_assign (by conv => lhs; whnf) ?_)
      refine ev_nil (hK10 _ ?_); clear hK10
      refine good_ret ?_
      repeat (first | refine thenQ_ret ?_ | refine blockQ_ret ?_)
      refine ret_many rfl ?_
      refine res_tmp (by conv => lhs; whnf) rfl ?_
      refine res_tmp (by conv => lhs; whnf) rfl ?_
      refine res_nil ?_
      clear hK9
      exact fTup1 (lstEq (by rw [List.take_of_length_le (by simp [alL_len])]; rw [show i = xs.length by omega])) (fTup1 (fI (by rw [← alG_all (by omega : xs.length ≤ i)])) rfl)
    · replace hb8 := dT hb8
      obtain ⟨p, hp⟩ := getL (xs := xs) (n := (i : Int)) (by omega) (by omega)
      replace hp : xs[i]? = some p := hp
      have hbi := hbd i hI
      have hp2 := hw.2 i p hp
      have hst := alG_step (free := free) (i := i) hp
      have hs1 := congrArg Prod.fst hst
      have hs2 := congrArg Prod.snd hst
      simp only [alS] at hs1 hs2
      refine ev_nil (hK7 _ ?_); clear hK7
      refine good_seq fun K11 hK11 => ?_
      refine good_condT rfl ?_
      refine good_skip (hK11 _ ?_); clear hK11
      refine good_seq fun K12 hK12 => ?_
      refine good_block ?_
      refine good_seq fun K13 hK13 => ?_
      refine good_region rfl ?_
      refine ev_q rfl (q_idx tE50 rfl rfl (by exact Int.natCast_nonneg _) (by exact map_get hp) rfl ?_)
      refine ev_q rfl (q_load tA2 rfl ?_)
      refine ev_q rfl (q_assign (by conv => lhs; whnf) ?_)
      refine ev_nil (hK13 _ ?_); clear hK13
      refine good_seq fun K14 hK14 => ?_
      refine good_region rfl ?_
      refine ev_q rfl (q_move (by conv => lhs; whnf) ?_)
      refine ev_q rfl (q_move (by conv => lhs; whnf) ?_)
      refine ev_q rfl (q_move (by conv => lhs; whnf) ?_)
      refine ev_q rfl (q_int rfl rfl ?_)
      intro n15 hn15
      replace hn15 := in64 hn15 (by omega) (by omega)
      refine ev_q rfl (q_int rfl rfl ?_)
      intro n16 hn16
      replace hn16 := in64 hn16 (by omega) (by omega)
      refine ev_q rfl (q_assign (by conv => lhs; whnf) ?_)
      refine ev_nil (hK14 _ ?_); clear hK14
      refine good_seq fun K17 hK17 => ?_
      refine good_region rfl ?_
      refine ev_q rfl (q_move (by conv => lhs; whnf) ?_)
      refine ev_q rfl (q_move (by conv => lhs; whnf) ?_)
      refine ev_q rfl (q_neg rfl ?_)
      intro n18 hn18
      replace hn18 := neg64 hn18 (by omega) (by omega)
      refine ev_q rfl (q_max rfl rfl ?_)
      intro n19 hn19; simp only [mxI, mnI] at hn19
      refine ev_q rfl (q_int rfl rfl ?_)
      intro n20 hn20
      replace hn20 := in64 hn20 (by omega) (by omega)
      refine ev_q rfl (q_assign (by conv => lhs; whnf) ?_)
      refine ev_nil (hK17 _ ?_); clear hK17
      refine good_seq fun K21 hK21 => ?_
      refine good_region rfl ?_
      refine ev_q rfl (q_move (by conv => lhs; whnf) ?_)
      refine ev_q rfl (q_max rfl rfl ?_)
      intro n22 hn22; simp only [mxI, mnI] at hn22
      refine ev_q rfl (q_assign (by conv => lhs; whnf) ?_)
      refine ev_nil (hK21 _ ?_); clear hK21
      refine good_region rfl ?_
      refine ev_q rfl (q_move (by conv => lhs; whnf) ?_)
      refine ev_q rfl (q_move (by conv => lhs; whnf) ?_)
      refine ev_k rfl (k_lit tE50 zA2 rfl rfl (by decide) (by decide) rfl rfl rfl ?_)
      refine ev_k rfl (k_app tApp50 rfl rfl (by simp [alL_len]) rfl (.inr rfl) (by simp [alL_len, maxLen]; omega) (by simp [alL_len]; omega) ?_)
      refine ev_q rfl (q_assign (by conv => lhs; whnf) ?_)
      refine ev_nil (hK12 _ ?_); clear hK12
      refine good_region rfl ?_
      refine ev_q rfl (q_int rfl rfl ?_)
      intro n23 hn23
      replace hn23 := in64 hn23 (by omega) (by omega)
      refine ev_q rfl (q_move (by conv => lhs; whnf) ?_)
      refine ev_nil ?_
      clear hK4
      refine ⟨i + 1, ?_, ?_, ?_⟩
      · show _ ≤ _; omega
      · first | omega | (simp only []; omega) | (dsimp only; omega)
      · refine sub_weak ?_ ?_
        · exact weakH_row (rowEq (appEq alL_succ (by omega))) (weakH_none _)
        · refine weakE_upd ?e13 ?r13 (weakE_upd ?e12 ?r12 (weakE_upd ?e11 ?r11 (weakE_upd ?e8 ?r8 (weakE_upd ?e7 ?r7 (weakE_upd ?e6 ?r6 (weakE_upd ?e0 ?r0 (weakE_junk _ _)))))))
          case e0 => first | rfl | exact fI (by omega) | (simp_all)
          case r0 => intro h hh; cases hh
          case e6 => first | rfl | exact fI (by omega) | (exact ownEq (by simp [alL_len]))
          case r6 => intro h hh; simp [refs] at hh; subst hh; rfl
          case e7 => first | rfl | exact fI (by omega) | (first | exact fI (by omega) | exact fI (by simp [alG, alF]))
          case r7 => intro h hh; cases hh
          case e8 => first | rfl | exact fI (by omega) | (first | exact fI (by omega) | exact fI (by simp [alG, alF]))
          case r8 => intro h hh; cases hh
          case e11 => first | rfl | exact fI (by omega) | (simp_all)
          case r11 => intro h hh; cases hh
          case e12 => first | rfl | exact fI (by omega) | (simp_all)
          case r12 => intro h hh; cases hh
          case e13 => first | rfl | exact fI (by omega) | (simp_all)
          case r13 => intro h hh; cases hh

-- impl.AllowanceCost
set_option maxRecDepth 20000 in
theorem D_impl_AllowanceCost (free price : Int) (xs : List Int) (hx : xs.length ≤ 17592186044416) : Den Try.prog 37 [.s (.int .i64 free), .s (.int .i64 price), .lst 1 (xs.map ci)] (.tup [.s (.int .i64 (if alOk free price xs then (alF free xs).2 * price else 0)), .s (.int .i64 (if alOk free price xs then 0 else 2))]) := by
  refine den_of_good Try.func37 (by decide) rfl (Nat.le_of_ble_eq_true rfl) ?_
  refine good_seq fun K1 hK1 => ?_
  refine good_region rfl ?_
  refine ev_q rfl (q_assign (by conv => lhs; whnf) ?_)
  refine ev_q rfl (q_assign (by conv => lhs; whnf) ?_)
  refine ev_nil (hK1 _ ?_); clear hK1
  refine good_seq fun K2 hK2 => ?_
  refine good_seq fun K3 hK3 => ?_
  refine good_region rfl ?_
  refine ev_q rfl (q_move (by conv => lhs; whnf) ?_)
  refine ev_q rfl (q_move (by conv => lhs; whnf) ?_)
  refine ev_q rfl (q_move (by conv => lhs; whnf) ?_)
  refine ev_q rfl (q_callB rfl rfl rfl (D_impl_allowancesOk _ _ _ hx) ?_)
  intro b4 hb4; cases b4
  · first | replace hb4 := dF hb4 | skip
    refine ev_q rfl (q_not rfl rfl ?_)
    refine ev_nil (hK3 _ ?_); clear hK3
    refine good_condT rfl ?_
    refine good_seq fun K5 hK5 => ?_
    refine good_region rfl ?_
    refine ev_q rfl (q_assign (by conv => lhs; whnf) ?_)
    refine ev_q rfl (q_assign (by conv => lhs; whnf) ?_)
    refine ev_nil (hK5 _ ?_); clear hK5
    refine good_ret ?_
    repeat (first | refine thenQ_ret ?_ | refine blockQ_ret ?_)
    refine ret_many rfl ?_
    refine res_tmp (by conv => lhs; whnf) rfl ?_
    refine res_tmp (by conv => lhs; whnf) rfl ?_
    refine res_nil ?_
    clear hK2
    first | exact fTup1 (fI (by rw [if_pos ok]; omega)) (fTup1 (fI (by rw [if_pos ok])) rfl) | (have hno : ¬ alOk free price xs := (fun h => by first | contradiction | (obtain ⟨h1, h2, h3, h4⟩ := h; first | omega | contradiction | grind)); exact fTup1 (fI (if_neg hno).symm) (fTup1 (fI (if_neg hno).symm) rfl))
  · first | replace hb4 := dT hb4 | skip
    have ok : alOk free price xs := by assumption
    have hbd := alG_bd ok.1 ok.2.2.2 xs.length (by omega)
    rw [alG_all (by omega : xs.length ≤ xs.length)] at hbd
    have hlen := ok.2.2.1
    have hm3 := mulB3 (a := (alF free xs).2) (b := price) (by omega) ok.2.1
    refine ev_q rfl (q_not rfl rfl ?_)
    refine ev_nil (hK3 _ ?_); clear hK3
    refine good_condF rfl ?_
    refine good_skip (hK2 _ ?_); clear hK2
    refine good_seq fun K6 hK6 => ?_
    refine good_region rfl ?_
    refine ev_q rfl (q_move (by conv => lhs; whnf) ?_)
    refine ev_q rfl (q_move (by conv => lhs; whnf) ?_)
    refine ev_q rfl (q_call rfl rfl rfl (D_impl_allowances _ _ ok.1 ok.2.2) rfl ?_)
    refine ev_q rfl (q_move (by conv => lhs; whnf) ?_)
    refine ev_q rfl (q_extract rfl rfl ?_)
    refine ev_q rfl (q_extractI rfl rfl ?_)
    intro n7 hn7
    refine ev_q rfl (q_assign (by conv => lhs; whnf) ?_)
    refine ev_q rfl (q_assign (by conv => lhs; whnf) ?_)
    refine ev_nil (hK6 _ ?_); clear hK6
    refine good_seq fun K8 hK8 => ?_
    refine good_region rfl ?_
    refine ev_q rfl (q_move (by conv => lhs; whnf) ?_)
    refine ev_q rfl (q_move (by conv => lhs; whnf) ?_)
    refine ev_q rfl (q_int rfl rfl ?_)
    intro n9 hn9
    rw [hn7] at hn9
    replace hn9 := in64 hn9 (by omega) (by omega)
    refine ev_q rfl (q_assign (by conv => lhs; whnf) ?_)
    refine ev_q rfl (q_assign (by conv => lhs; whnf) ?_)
    refine ev_nil (hK8 _ ?_); clear hK8
    refine good_ret ?_
    repeat (first | refine thenQ_ret ?_ | refine blockQ_ret ?_)
    refine ret_many rfl ?_
    refine res_tmp (by conv => lhs; whnf) rfl ?_
    refine res_tmp (by conv => lhs; whnf) rfl ?_
    refine res_nil ?_
    first | exact fTup1 (fI (by rw [if_pos ok]; omega)) (fTup1 (fI (by rw [if_pos ok])) rfl) | (have hno : ¬ alOk free price xs := (fun h => by first | contradiction | (obtain ⟨h1, h2, h3, h4⟩ := h; first | omega | contradiction | grind)); exact fTup1 (fI (if_neg hno).symm) (fTup1 (fI (if_neg hno).symm) rfl))

-- laws.FnExactAllowanceCost
set_option maxRecDepth 20000 in
theorem D_laws_FnExactAllowanceCost (free price : Int) (xs : List Int)  : Den Try.prog 10 [.s (.int .i64 free), .s (.int .i64 price), .lst 1 (xs.map ci)] (.s (.bool true)) := by
  refine den_of_good Try.func10 (by decide) rfl (Nat.le_of_ble_eq_true rfl) ?_
  refine good_seq fun K1 hK1 => ?_
  refine good_region rfl ?_
  refine ev_q rfl (q_assign (by conv => lhs; whnf) ?_)
  refine ev_nil (hK1 _ ?_); clear hK1
  refine good_seq fun K2 hK2 => ?_
  refine good_seq fun K3 hK3 => ?_
  refine good_region rfl ?_
  refine ev_q rfl (q_move (by conv => lhs; whnf) ?_)
  refine ev_q rfl (q_len tEs50 rfl ?_)
  intro n4 hn4
  try simp only [List.length_map] at hn4
  refine ev_q rfl (q_int rfl rfl ?_)
  intro b5 hb5; cases b5
  · replace hb5 := dF hb5
    refine ev_nil (hK3 _ ?_); clear hK3
    refine good_condF rfl ?_
    refine good_skip (hK2 _ ?_); clear hK2
    refine good_seq fun K6 hK6 => ?_
    refine good_region rfl ?_
    refine ev_q rfl (q_move (by conv => lhs; whnf) ?_)
    refine ev_q rfl (q_move (by conv => lhs; whnf) ?_)
    refine ev_q rfl (q_move (by conv => lhs; whnf) ?_)
    refine ev_q rfl (q_call rfl rfl rfl (D_laws_toInt64S _ (by omega)) rfl ?_)
    refine ev_q rfl (q_call rfl rfl rfl (D_spec_AllowanceCost _ _ _ (by omega)) rfl ?_)
    refine ev_q rfl (q_move (by conv => lhs; whnf) ?_)
    refine ev_q rfl (q_extractI rfl rfl ?_)
    intro n7 hn7
    refine ev_q rfl (q_extractI rfl rfl ?_)
    intro n8 hn8
    refine ev_q rfl (q_assign (by conv => lhs; whnf) ?_)
    refine ev_q rfl (q_assign (by conv => lhs; whnf) ?_)
    refine ev_nil (hK6 _ ?_); clear hK6
    refine good_seq fun K9 hK9 => ?_
    refine good_region rfl ?_
    refine ev_q rfl (q_move (by conv => lhs; whnf) ?_)
    refine ev_q rfl (q_call rfl rfl rfl (D_laws_toInt64S _ (by omega)) rfl ?_)
    refine ev_q rfl (q_assign (by conv => lhs; whnf) ?_)
    refine ev_nil (hK9 _ ?_); clear hK9
    refine good_seq fun K10 hK10 => ?_
    refine good_region rfl ?_
    refine ev_q rfl (q_move (by conv => lhs; whnf) ?_)
    refine ev_q rfl (q_move (by conv => lhs; whnf) ?_)
    refine ev_q rfl (q_move (by conv => lhs; whnf) ?_)
    refine ev_q rfl (q_call rfl rfl rfl (D_impl_AllowanceCost _ _ _ (by omega)) rfl ?_)
    refine ev_q rfl (q_move (by conv => lhs; whnf) ?_)
    refine ev_q rfl (q_extractI rfl rfl ?_)
    intro n11 hn11
    refine ev_q rfl (q_extractI rfl rfl ?_)
    intro n12 hn12
    refine ev_q rfl (q_assign (by conv => lhs; whnf) ?_)
    refine ev_q rfl (q_assign (by conv => lhs; whnf) ?_)
    refine ev_nil (hK10 _ ?_); clear hK10
    refine good_seq fun K13 hK13 => ?_
    refine good_seq fun K14 hK14 => ?_
    refine good_region rfl ?_
    refine ev_q rfl (q_move (by conv => lhs; whnf) ?_)
    refine ev_q rfl (q_move (by conv => lhs; whnf) ?_)
    refine ev_q rfl (q_int rfl rfl ?_)
    intro b15 hb15; cases b15
    · replace hb15 := neF hb15
      refine ev_q rfl (q_move (by conv => lhs; whnf) ?_)
      refine ev_q rfl (q_move (by conv => lhs; whnf) ?_)
      refine ev_q rfl (q_move (by conv => lhs; whnf) ?_)
      refine ev_q rfl (q_int rfl rfl ?_)
      intro b16 hb16; cases b16
      · replace hb16 := neF hb16
        refine ev_q rfl (q_pickF rfl (by conv => lhs; whnf) ?_)
        refine ev_nil (hK14 _ ?_); clear hK14
        refine good_condF rfl ?_
        refine good_skip (hK13 _ ?_); clear hK13
        refine good_seq fun K17 hK17 => ?_
        refine good_seq fun K18 hK18 => ?_
        refine good_region rfl ?_
        refine ev_q rfl (q_move (by conv => lhs; whnf) ?_)
        refine ev_q rfl (q_move (by conv => lhs; whnf) ?_)
        refine ev_q rfl (q_call rfl rfl rfl (D_laws_toInt64S _ (by omega)) rfl ?_)
        refine ev_q rfl (q_callB rfl rfl rfl (D_laws_eqInt64S _ (by omega)) ?_)
        intro b19 hb19; cases b19
        · first | replace hb19 := dF hb19 | skip
          refine ev_q rfl (q_not rfl rfl ?_)
          refine ev_nil (hK18 _ ?_); clear hK18
          refine good_condT rfl ?_
          refine good_seq fun K20 hK20 => ?_
          refine good_region rfl ?_
          refine ev_q rfl (q_assign (by conv => lhs; whnf) ?_)
          refine ev_nil (hK20 _ ?_); clear hK20
          refine good_ret ?_
          repeat (first | refine thenQ_ret ?_ | refine blockQ_ret ?_)
          refine ret_tmp (st := _) rfl (by conv => lhs; whnf) rfl ?_
          clear hK17
          first | rfl | exact fT (by first | omega | grind) | exact fF (by first | omega | grind) | exact fT' (by first | omega | grind) | (exfalso; first | omega | grind)
        · first | replace hb19 := dT hb19 | skip
          refine ev_q rfl (q_not rfl rfl ?_)
          refine ev_nil (hK18 _ ?_); clear hK18
          refine good_condF rfl ?_
          refine good_skip (hK17 _ ?_); clear hK17
          refine good_seq fun K21 hK21 => ?_
          refine good_region rfl ?_
          refine ev_q rfl (q_assign (by conv => lhs; whnf) ?_)
          refine ev_nil (hK21 _ ?_); clear hK21
          refine good_ret ?_
          repeat (first | refine thenQ_ret ?_ | refine blockQ_ret ?_)
          refine ret_tmp (st := _) rfl (by conv => lhs; whnf) rfl ?_
          first | rfl | exact fT (by first | omega | grind) | exact fF (by first | omega | grind) | exact fT' (by first | omega | grind) | (exfalso; first | omega | grind)
      · replace hb16 := neT hb16
        refine ev_q rfl (q_pickF rfl (by conv => lhs; whnf) ?_)
        refine ev_nil (hK14 _ ?_); clear hK14
        refine good_condT rfl ?_
        refine good_seq fun K22 hK22 => ?_
        refine good_region rfl ?_
        refine ev_q rfl (q_assign (by conv => lhs; whnf) ?_)
        refine ev_nil (hK22 _ ?_); clear hK22
        refine good_ret ?_
        repeat (first | refine thenQ_ret ?_ | refine blockQ_ret ?_)
        refine ret_tmp (st := _) rfl (by conv => lhs; whnf) rfl ?_
        clear hK13
        first | rfl | exact fT (by first | omega | grind) | exact fF (by first | omega | grind) | exact fT' (by first | omega | grind) | (exfalso; first | omega | grind)
    · replace hb15 := neT hb15
      refine ev_q rfl (q_move (by conv => lhs; whnf) ?_)
      refine ev_skip rfl ?_
      refine ev_skip rfl ?_
      refine ev_skip rfl ?_
      refine ev_q rfl (q_pickT rfl (by conv => lhs; whnf) ?_)
      refine ev_nil (hK14 _ ?_); clear hK14
      refine good_condT rfl ?_
      refine good_seq fun K23 hK23 => ?_
      refine good_region rfl ?_
      refine ev_q rfl (q_assign (by conv => lhs; whnf) ?_)
      refine ev_nil (hK23 _ ?_); clear hK23
      refine good_ret ?_
      repeat (first | refine thenQ_ret ?_ | refine blockQ_ret ?_)
      refine ret_tmp (st := _) rfl (by conv => lhs; whnf) rfl ?_
      clear hK13
      first | rfl | exact fT (by first | omega | grind) | exact fF (by first | omega | grind) | exact fT' (by first | omega | grind) | (exfalso; first | omega | grind)
  · replace hb5 := dT hb5
    refine ev_nil (hK3 _ ?_); clear hK3
    refine good_condT rfl ?_
    refine good_seq fun K24 hK24 => ?_
    refine good_region rfl ?_
    refine ev_q rfl (q_assign (by conv => lhs; whnf) ?_)
    refine ev_nil (hK24 _ ?_); clear hK24
    refine good_ret ?_
    repeat (first | refine thenQ_ret ?_ | refine blockQ_ret ?_)
    refine ret_tmp (st := _) rfl (by conv => lhs; whnf) rfl ?_
    clear hK2
    first | rfl | exact fT (by first | omega | grind) | exact fF (by first | omega | grind) | exact fT' (by first | omega | grind) | (exfalso; first | omega | grind)

end Go.Proofs.Ytlmigknkcghpcaa.DFnExactAllowanceCost
