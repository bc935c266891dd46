/- Walks through the functions that FnExactRangeOf reaches: what each answers. -/
import Derived.Test.YtlmigknkcghpcaaEvO
import Derived.Test.YtlmigknkcghpcaaProg
set_option linter.unusedVariables false
set_option linter.unusedSimpArgs false
namespace Go.Proofs.Ytlmigknkcghpcaa.DFnExactRangeOf
open Go Go.RowKit Go.Proofs Go.Proofs.Ytlmigknkcghpcaa Go.Proofs.Ytlmigknkcghpcaa.Ev
def stp (p : Int × Int) : AV := .agg [.s (.int .i64 p.1), .s (.int .i64 p.2)]
def zst : AV := .agg [.s (.int .i64 0), .s (.int .i64 0)]
def wv (xs : List (Int × Int)) : AV := .lst 2 (xs.map stp)
def okAt (xs : List (Int × Int)) (j : Nat) (p : Int × Int) : Prop := (0 ≤ p.1 ∧ p.1 ≤ 1000000) ∧ (-5000 ≤ p.2 ∧ p.2 ≤ 20000) ∧ (j = 0 → p.1 = 0) ∧ ∀ q, 0 < j → xs[j - 1]? = some q → q.1 < p.1
def waveOk (xs : List (Int × Int)) : Prop := (1 ≤ xs.length ∧ xs.length ≤ 24) ∧ ∀ j p, xs[j]? = some p → okAt xs j p
noncomputable instance (xs : List (Int × Int)) : Decidable (waveOk xs) := Classical.propDecidable _
theorem wave_no {xs : List (Int × Int)} {i : Nat} {p : Int × Int} (h : xs[i]? = some p) (hn : ¬ okAt xs i p) : ¬ waveOk xs := fun ⟨_, h2⟩ => hn (h2 i p h)
theorem wave_iff {xs : List (Int × Int)} (h : ∀ j p, xs[j]? = some p → okAt xs j p) : (1 ≤ (xs.length : Int) ∧ (xs.length : Int) ≤ 24) ↔ waveOk xs := ⟨fun h2 => ⟨by omega, h⟩, fun ⟨h2, _⟩ => by omega⟩
theorem all_ext {xs : List (Int × Int)} {i : Nat} {Q : Nat → Int × Int → Prop} {p : Int × Int} (hJ : ∀ j q, j < i → xs[j]? = some q → Q j q) (hp : xs[i]? = some p) (h : Q i p) : ∀ j q, j < i + 1 → xs[j]? = some q → Q j q := by
  intro j q hj hq
  by_cases e : j = i
  · subst e; rw [hp] at hq; cases hq; exact h
  · exact hJ j q (by omega) hq
theorem all_fin {xs : List (Int × Int)} {i : Nat} {Q : Nat → Int × Int → Prop} (hJ : ∀ j q, j < i → xs[j]? = some q → Q j q) (hi : xs.length ≤ i) : ∀ j q, xs[j]? = some q → Q j q := by
  intro j q hq
  exact hJ j q (by have := (List.getElem?_eq_some_iff.1 hq).1; omega) hq
def loF (m : Int) (p : Int × Int) : Int := if p.2 < m then p.2 else m
def hiF (m : Int) (p : Int × Int) : Int := if p.2 > m then p.2 else m
def loG (xs : List (Int × Int)) (m : Int) (i : Nat) : Int := (xs.take i).foldl loF m
def hiG (xs : List (Int × Int)) (m : Int) (i : Nat) : Int := (xs.take i).foldl hiF m
theorem foldG {α β : Type} {f : β → α → β} {xs : List α} {m : β} {i : Nat} {p : α} (h : xs[i]? = some p) : (xs.take (i + 1)).foldl f m = f ((xs.take i).foldl f m) p := by
  rw [List.take_add_one, h]; simp
theorem take_all {α : Type} {xs : List α} {i : Nat} (h : xs.length ≤ i) : xs.take i = xs.take xs.length := by
  rw [List.take_of_length_le h, List.take_of_length_le (Nat.le_refl _)]
def hd2 (xs : List (Int × Int)) : Int := match xs with
  | [] => 0
  | p :: _ => p.2
theorem hd2_eq {xs : List (Int × Int)} {p : Int × Int} (h : xs[0]? = some p) : hd2 xs = p.2 := by
  cases xs with
  | nil => simp at h
  | cons a l => simp at h; subst h; rfl
theorem lo1 {xs : List (Int × Int)} {p : Int × Int} (h : xs[0]? = some p) : loG xs p.2 1 = p.2 := by
  unfold loG; rw [foldG h]; simp [loF]
theorem hi1 {xs : List (Int × Int)} {p : Int × Int} (h : xs[0]? = some p) : hiG xs p.2 1 = p.2 := by
  unfold hiG; rw [foldG h]; simp [hiF]
theorem fO77_0 : fOff Try.prog 77 0 = some 0 := by kernel_rfl
theorem fO77_1 : fOff Try.prog 77 1 = some 1 := by kernel_rfl
theorem fO79_0 : fOff Try.prog 79 0 = some 0 := by kernel_rfl
theorem fO79_1 : fOff Try.prog 79 1 = some 1 := by kernel_rfl
theorem hmix : Try.prog.follows .mixedOrders = true := by kernel_rfl
theorem sz2 : tSz Try.prog 2 = some 1 := by kernel_rfl
theorem sz77 : tSz Try.prog 77 = some 2 := by kernel_rfl
theorem tA2 : tAgg Try.prog 2 = some none := by kernel_rfl
theorem tA77 : tAgg Try.prog 77 = some (some 2) := by kernel_rfl
theorem tA79 : tAgg Try.prog 79 = some (some 2) := by kernel_rfl
theorem tBy77 : tBytes Try.prog 77 = some 16 := by kernel_rfl
theorem tE40 : tElem Try.prog 40 = some (79, 2) := by kernel_rfl
theorem tE43 : tElem Try.prog 43 = some (77, 2) := by kernel_rfl
theorem tEs40 : (tElem Try.prog 40).isSome = true := by kernel_rfl
theorem tEs43 : (tElem Try.prog 43).isSome = true := by kernel_rfl
theorem zA77 : zeroA Try.prog 77 = some [.s (.int .i64 0), .s (.int .i64 0)] := by kernel_rfl

-- impl.within
set_option maxRecDepth 20000 in
theorem D_impl_within (a lo hi : Int)  : Den Try.prog 50 [.s (.int .i64 a), .s (.int .i64 lo), .s (.int .i64 hi)] (.s (.bool (decide (lo ≤ a ∧ a ≤ hi)))) := by
  refine den_of_good Try.func50 (by decide) rfl (Nat.le_of_ble_eq_true rfl) ?_
  refine good_seq fun K1 hK1 => ?_
  refine good_region rfl ?_
  refine ev_q rfl (q_assign (by conv => lhs; whnf) ?_)
  refine ev_nil (hK1 _ ?_); clear hK1
  refine good_seq fun K2 hK2 => ?_
  refine good_region rfl ?_
  refine ev_q rfl (q_move (by conv => lhs; whnf) ?_)
  refine ev_q rfl (q_move (by conv => lhs; whnf) ?_)
  refine ev_q rfl (q_int rfl rfl ?_)
  intro b3 hb3; cases b3
  · replace hb3 := dF hb3
    refine ev_q rfl (q_move (by conv => lhs; whnf) ?_)
    refine ev_skip rfl ?_
    refine ev_skip rfl ?_
    refine ev_skip rfl ?_
    refine ev_q rfl (q_pickF rfl (by conv => lhs; whnf) ?_)
    refine ev_q rfl (q_assign (by conv => lhs; whnf) ?_)
    refine ev_nil (hK2 _ ?_); clear hK2
    refine good_ret ?_
    repeat (first | refine thenQ_ret ?_ | refine blockQ_ret ?_)
    refine ret_tmp (st := _) rfl (by conv => lhs; whnf) rfl ?_
    first | rfl | exact fT (by first | omega | grind) | exact fF (by first | omega | grind) | exact fT' (by first | omega | grind) | (exfalso; first | omega | grind)
  · replace hb3 := dT hb3
    refine ev_q rfl (q_move (by conv => lhs; whnf) ?_)
    refine ev_q rfl (q_move (by conv => lhs; whnf) ?_)
    refine ev_q rfl (q_move (by conv => lhs; whnf) ?_)
    refine ev_q rfl (q_int rfl rfl ?_)
    intro b4 hb4; cases b4
    · replace hb4 := dF hb4
      refine ev_q rfl (q_pickT rfl (by conv => lhs; whnf) ?_)
      refine ev_q rfl (q_assign (by conv => lhs; whnf) ?_)
      refine ev_nil (hK2 _ ?_); clear hK2
      refine good_ret ?_
      repeat (first | refine thenQ_ret ?_ | refine blockQ_ret ?_)
      refine ret_tmp (st := _) rfl (by conv => lhs; whnf) rfl ?_
      first | rfl | exact fT (by first | omega | grind) | exact fF (by first | omega | grind) | exact fT' (by first | omega | grind) | (exfalso; first | omega | grind)
    · replace hb4 := dT hb4
      refine ev_q rfl (q_pickT rfl (by conv => lhs; whnf) ?_)
      refine ev_q rfl (q_assign (by conv => lhs; whnf) ?_)
      refine ev_nil (hK2 _ ?_); clear hK2
      refine good_ret ?_
      repeat (first | refine thenQ_ret ?_ | refine blockQ_ret ?_)
      refine ret_tmp (st := _) rfl (by conv => lhs; whnf) rfl ?_
      first | rfl | exact fT (by first | omega | grind) | exact fF (by first | omega | grind) | exact fT' (by first | omega | grind) | (exfalso; first | omega | grind)

-- spec.l00In
set_option maxRecDepth 20000 in
theorem D_spec_l00In (a lo hi : Int)  : Den Try.prog 51 [.s (.int .i64 a), .s (.int .i64 lo), .s (.int .i64 hi)] (.s (.bool (decide (lo ≤ a ∧ a ≤ hi)))) := by
  refine den_of_good Try.func51 (by decide) rfl (Nat.le_of_ble_eq_true rfl) ?_
  refine good_seq fun K1 hK1 => ?_
  refine good_region rfl ?_
  refine ev_q rfl (q_assign (by conv => lhs; whnf) ?_)
  refine ev_nil (hK1 _ ?_); clear hK1
  refine good_seq fun K2 hK2 => ?_
  refine good_region rfl ?_
  refine ev_q rfl (q_move (by conv => lhs; whnf) ?_)
  refine ev_q rfl (q_move (by conv => lhs; whnf) ?_)
  refine ev_q rfl (q_int rfl rfl ?_)
  intro b3 hb3; cases b3
  · replace hb3 := dF hb3
    refine ev_q rfl (q_move (by conv => lhs; whnf) ?_)
    refine ev_skip rfl ?_
    refine ev_skip rfl ?_
    refine ev_skip rfl ?_
    refine ev_q rfl (q_pickF rfl (by conv => lhs; whnf) ?_)
    refine ev_q rfl (q_assign (by conv => lhs; whnf) ?_)
    refine ev_nil (hK2 _ ?_); clear hK2
    refine good_ret ?_
    repeat (first | refine thenQ_ret ?_ | refine blockQ_ret ?_)
    refine ret_tmp (st := _) rfl (by conv => lhs; whnf) rfl ?_
    first | rfl | exact fT (by first | omega | grind) | exact fF (by first | omega | grind) | exact fT' (by first | omega | grind) | (exfalso; first | omega | grind)
  · replace hb3 := dT hb3
    refine ev_q rfl (q_move (by conv => lhs; whnf) ?_)
    refine ev_q rfl (q_move (by conv => lhs; whnf) ?_)
    refine ev_q rfl (q_move (by conv => lhs; whnf) ?_)
    refine ev_q rfl (q_int rfl rfl ?_)
    intro b4 hb4; cases b4
    · replace hb4 := dF hb4
      refine ev_q rfl (q_pickT rfl (by conv => lhs; whnf) ?_)
      refine ev_q rfl (q_assign (by conv => lhs; whnf) ?_)
      refine ev_nil (hK2 _ ?_); clear hK2
      refine good_ret ?_
      repeat (first | refine thenQ_ret ?_ | refine blockQ_ret ?_)
      refine ret_tmp (st := _) rfl (by conv => lhs; whnf) rfl ?_
      first | rfl | exact fT (by first | omega | grind) | exact fF (by first | omega | grind) | exact fT' (by first | omega | grind) | (exfalso; first | omega | grind)
    · replace hb4 := dT hb4
      refine ev_q rfl (q_pickT rfl (by conv => lhs; whnf) ?_)
      refine ev_q rfl (q_assign (by conv => lhs; whnf) ?_)
      refine ev_nil (hK2 _ ?_); clear hK2
      refine good_ret ?_
      repeat (first | refine thenQ_ret ?_ | refine blockQ_ret ?_)
      refine ret_tmp (st := _) rfl (by conv => lhs; whnf) rfl ?_
      first | rfl | exact fT (by first | omega | grind) | exact fF (by first | omega | grind) | exact fT' (by first | omega | grind) | (exfalso; first | omega | grind)

-- laws.toStep
set_option maxRecDepth 20000 in
theorem D_laws_toStep (a b : Int)  : Den Try.prog 62 [.agg [.s (.int .i64 a), .s (.int .i64 b)]] (.agg [.s (.int .i64 a), .s (.int .i64 b)]) := by
  refine den_of_good Try.func62 (by decide) rfl (Nat.le_of_ble_eq_true rfl) ?_
  refine good_seq fun K1 hK1 => ?_
  refine good_region rfl ?_
  refine ev_k rfl (k_box (by conv => lhs; whnf) rfl rfl rfl ?_)
  refine ev_k rfl (k_alloc zA77 rfl ?_)
  refine ev_nil (hK1 _ ?_); clear hK1
  refine good_seq fun K2 hK2 => ?_
  refine good_region rfl ?_
  refine ev_k rfl (k_alloc zA77 rfl ?_)
  refine ev_nil (hK2 _ ?_); clear hK2
  refine good_seq fun K3 hK3 => ?_
  refine good_region rfl ?_
  refine ev_q rfl (q_fieldAddrP fO79_0 rfl rfl ?_)
  refine ev_q rfl (q_load tA2 rfl ?_)
  refine ev_q rfl (q_fieldAddrP fO77_0 rfl rfl ?_)
  refine ev_k rfl (k_store sz2 rfl (by conv => lhs; whnf) rfl rfl rfl (Nat.le_of_ble_eq_true rfl) rfl ?_)
  refine ev_nil (hK3 _ ?_); clear hK3
  refine good_seq fun K4 hK4 => ?_
  refine good_region rfl ?_
  refine ev_q rfl (q_fieldAddrP fO79_1 rfl rfl ?_)
  refine ev_q rfl (q_load tA2 rfl ?_)
  refine ev_q rfl (q_fieldAddrP fO77_1 rfl rfl ?_)
  refine ev_k rfl (k_store sz2 rfl (by conv => lhs; whnf) rfl rfl rfl (Nat.le_of_ble_eq_true rfl) rfl ?_)
  refine ev_nil (hK4 _ ?_); clear hK4
  refine good_seq fun K5 hK5 => ?_
  refine good_region rfl ?_
  refine ev_q rfl (q_loadA tA77 rfl rfl rfl rfl ?_)
  refine ev_k rfl (k_store sz77 rfl (by conv => lhs; whnf) rfl rfl rfl (Nat.le_of_ble_eq_true rfl) rfl ?_)
  refine ev_nil (hK5 _ ?_); clear hK5
  refine good_ret ?_
  repeat (first | refine thenQ_ret ?_ | refine blockQ_ret ?_)
  refine ret_cell rfl tA77 rfl rfl rfl ?_
  rfl

-- laws.szStepS
set_option maxRecDepth 20000 in
theorem D_laws_szStepS (xs : List (Int × Int)) (left : Int) (hx : xs.length ≤ 140737488351232) (hl : 0 ≤ left ∧ left ≤ 1152921504606846976) : Den Try.prog 26 [.lst 2 (xs.map stp), .s (.int .i64 left)] (.s (.int .i64 (if left - xs.length < 0 then -1 else left - xs.length))) := by
  refine den_of_good Try.func26 (by decide) rfl (Nat.le_of_ble_eq_true rfl) ?_
  refine good_seq fun K1 hK1 => ?_
  refine good_region rfl ?_
  refine ev_q rfl (q_assign (by conv => lhs; whnf) ?_)
  refine ev_nil (hK1 _ ?_); clear hK1
  refine good_seq fun K2 hK2 => ?_
  refine good_region rfl ?_
  refine ev_q rfl (q_move (by conv => lhs; whnf) ?_)
  refine ev_q rfl (q_move (by conv => lhs; whnf) ?_)
  refine ev_q rfl (q_len tEs40 rfl ?_)
  intro n3 hn3
  try simp only [List.length_map] at hn3
  refine ev_q rfl (q_int rfl rfl ?_)
  intro n4 hn4
  replace hn4 := in64 hn4 (by omega) (by omega)
  refine ev_q rfl (q_assign (by conv => lhs; whnf) ?_)
  refine ev_nil (hK2 _ ?_); clear hK2
  refine good_seq fun K5 hK5 => ?_
  refine good_seq fun K6 hK6 => ?_
  refine good_region rfl ?_
  refine ev_q rfl (q_move (by conv => lhs; whnf) ?_)
  refine ev_q rfl (q_int rfl rfl ?_)
  intro b7 hb7; cases b7
  · replace hb7 := dF hb7
    refine ev_nil (hK6 _ ?_); clear hK6
    refine good_condF rfl ?_
    refine good_skip (hK5 _ ?_); clear hK5
    refine good_seq fun K8 hK8 => ?_
    refine good_region rfl ?_
    refine ev_q rfl (q_move (by conv => lhs; whnf) ?_)
    refine ev_q rfl (q_assign (by conv => lhs; whnf) ?_)
    refine ev_nil (hK8 _ ?_); clear hK8
    refine good_ret ?_
    repeat (first | refine thenQ_ret ?_ | refine blockQ_ret ?_)
    refine ret_tmp (st := _) rfl (by conv => lhs; whnf) rfl ?_
    first | rfl | exact fI (by first | omega | grind) | (exfalso; first | omega | grind)
  · replace hb7 := dT hb7
    refine ev_nil (hK6 _ ?_); clear hK6
    refine good_condT rfl ?_
    refine good_seq fun K9 hK9 => ?_
    refine good_region rfl ?_
    refine ev_q rfl (q_assign (by conv => lhs; whnf) ?_)
    refine ev_nil (hK9 _ ?_); clear hK9
    refine good_ret ?_
    repeat (first | refine thenQ_ret ?_ | refine blockQ_ret ?_)
    refine ret_tmp (st := _) rfl (by conv => lhs; whnf) rfl ?_
    clear hK5
    first | rfl | exact fI (by first | omega | grind) | (exfalso; first | omega | grind)

-- laws.toStepS
set_option maxRecDepth 20000 in
theorem D_laws_toStepS (xs : List (Int × Int)) (hx : xs.length ≤ 8796093022208) : Den Try.prog 28 [.lst 2 (xs.map stp)] (.lst 2 (xs.map stp)) := by
  refine den_of_good Try.func28 (by decide) rfl (Nat.le_of_ble_eq_true rfl) ?_
  refine good_seq fun K1 hK1 => ?_
  refine good_region rfl ?_
  refine ev_q rfl (q_assign (by conv => lhs; whnf) ?_)
  refine ev_nil (hK1 _ ?_); clear hK1
  refine good_seq fun K2 hK2 => ?_
  refine good_region rfl ?_
  refine ev_q rfl (q_move (by conv => lhs; whnf) ?_)
  refine ev_q rfl (q_len tEs40 rfl ?_)
  intro n3 hn3
  try simp only [List.length_map] at hn3
  refine ev_k rfl (k_make tE43 rfl rfl zA77 tBy77 rfl (by omega) (by omega) (by omega) rfl (by show _ = xs.length; omega) ?_)
  refine ev_q rfl (q_assign (by conv => lhs; whnf) ?_)
  refine ev_nil (hK2 _ ?_); clear hK2
  refine good_seq fun K4 hK4 => ?_
  refine good_seq fun K5 hK5 => ?_
  refine good_region rfl ?_
  refine ev_q rfl (q_assign (by conv => lhs; whnf) ?_)
  refine ev_nil (hK5 _ ?_); clear hK5
  refine good_block ?_
  refine good_loop (α := Nat) (fun i => { env := upd (upd (upd ((fun _ => .junk)) 0 (.lst 2 (xs.map stp))) 3 (.own 7 xs.length)) 4 (.s (.int .i64 i)), H := upd ((fun _ => none)) 7 (some (.row 77 2 (fillC stp zst xs i))) }) (fun i => i ≤ xs.length) (fun i => xs.length - i) 0 ?_ ?_ ?_
  · show 0 ≤ _; omega
  · refine sub_weak ?_ ?_
    · exact weakH_row (rowEq (fill0 rfl)) (weakH_none _)
    · refine weakE_upd ?e4 ?r4 (weakE_upd ?e3 ?r3 (weakE_upd ?e0 ?r0 (weakE_junk _ _)))
      case e0 => first | rfl | exact fI (by omega) | (simp_all)
      case r0 => intro h hh; cases hh
      case e3 => first | rfl | exact fI (by omega) | (simp_all)
      case r3 => intro h hh; simp [refs] at hh; subst hh; rfl
      case e4 => first | rfl | exact fI (by omega) | (simp_all)
      case r4 => intro h hh; cases hh
  · rintro i hI
    refine good_seq fun K6 hK6 => ?_
    refine good_seq fun K7 hK7 => ?_
    refine good_region rfl ?_
    refine ev_q rfl (q_move (by conv => lhs; whnf) ?_)
    refine ev_q rfl (q_move (by conv => lhs; whnf) ?_)
    refine ev_q rfl (q_len tEs40 rfl ?_)
    intro n8 hn8
    try simp only [List.length_map] at hn8
    refine ev_q rfl (q_int rfl rfl ?_)
    intro b9 hb9; cases b9
    · replace hb9 := dF hb9
      refine ev_nil (hK7 _ ?_); clear hK7
      refine good_condF rfl ?_
      refine good_exit ?_
      repeat (first | refine thenQ_exit ?_ | refine blockQ_pass rfl ?_)
      refine blockQ_exit (hK4 _ ?_); clear hK4
      refine good_seq fun K10 hK10 => ?_
      refine good_region rfl ?_
      refine ev_q rfl (q_move (by conv => lhs; whnf) ?_)
      refine ev_q rfl (q_assign (by conv => lhs; whnf) ?_)
      refine ev_nil (hK10 _ ?_); clear hK10
      refine good_ret ?_
      repeat (first | refine thenQ_ret ?_ | refine blockQ_ret ?_)
      refine ret_tmp (st := _) rfl (by conv => lhs; whnf) rfl ?_
      clear hK6
      exact lstEq (fillE (by omega) rfl)
    · replace hb9 := dT hb9
      obtain ⟨p, hp⟩ := getL (xs := xs) (n := (i : Int)) (by omega) (by omega)
      refine ev_nil (hK7 _ ?_); clear hK7
      refine good_condT rfl ?_
      refine good_skip (hK6 _ ?_); clear hK6
      refine good_seq fun K11 hK11 => ?_
      refine good_block ?_
      refine good_region rfl ?_
      refine ev_q rfl (q_move (by conv => lhs; whnf) ?_)
      refine ev_q rfl (q_move (by conv => lhs; whnf) ?_)
      refine ev_q rfl (q_move (by conv => lhs; whnf) ?_)
      refine ev_q rfl (q_move (by conv => lhs; whnf) ?_)
      refine ev_q rfl (q_idx tE40 rfl rfl (by exact Int.natCast_nonneg _) (by exact map_get hp) rfl ?_)
      refine ev_q rfl (q_loadA tA79 rfl rfl rfl rfl ?_)
      refine ev_q rfl (q_call rfl rfl rfl (D_laws_toStep ..) rfl ?_)
      refine ev_q rfl (q_idxO tE43 rfl rfl rfl (by exact Int.natCast_nonneg _) (by omega) rfl ?_)
      refine ev_k rfl (k_storeE sz77 rfl (by conv => lhs; whnf) rfl rfl rfl (Nat.le_of_ble_eq_true rfl) rfl (by exact fillG (by omega)) (Nat.le_of_ble_eq_true rfl) rfl ?_)
      refine ev_nil (hK11 _ ?_); clear hK11
      refine good_region rfl ?_
      refine ev_q rfl (q_move (by conv => lhs; whnf) ?_)
      refine ev_q rfl (q_int rfl rfl ?_)
      intro n12 hn12
      replace hn12 := in64 hn12 (by omega) (by omega)
      refine ev_q rfl (q_assign (by conv => lhs; whnf) ?_)
      refine ev_nil ?_
      clear hK4
      refine ⟨i + 1, ?_, ?_, ?_⟩
      · show _ ≤ _; omega
      · first | omega | (simp only []; omega) | (dsimp only; omega)
      · refine sub_weak ?_ ?_
        · exact weakH_row (rowEq (fillS hp rfl)) (weakH_none _)
        · refine weakE_upd ?e4 ?r4 (weakE_upd ?e3 ?r3 (weakE_upd ?e0 ?r0 (weakE_junk _ _)))
          case e0 => first | rfl | exact fI (by omega) | (simp_all)
          case r0 => intro h hh; cases hh
          case e3 => first | rfl | exact fI (by omega) | (simp_all)
          case r3 => intro h hh; simp [refs] at hh; subst hh; rfl
          case e4 => first | rfl | exact fI (by omega) | (simp_all)
          case r4 => intro h hh; cases hh

-- spec.l03Degrees
set_option maxRecDepth 20000 in
theorem D_spec_l03Degrees (a : Int)  : Den Try.prog 82 [.s (.int .i64 a)] (.s (.bool (decide (-5000 ≤ a ∧ a ≤ 20000)))) := by
  refine den_of_good Try.func82 (by decide) rfl (Nat.le_of_ble_eq_true rfl) ?_
  refine good_seq fun K1 hK1 => ?_
  refine good_region rfl ?_
  refine ev_q rfl (q_assign (by conv => lhs; whnf) ?_)
  refine ev_nil (hK1 _ ?_); clear hK1
  refine good_seq fun K2 hK2 => ?_
  refine good_region rfl ?_
  refine ev_q rfl (q_move (by conv => lhs; whnf) ?_)
  refine ev_q rfl (q_callB rfl rfl rfl (D_spec_l00In ..) ?_)
  intro b3 hb3; cases b3
  · first | replace hb3 := dF hb3 | skip
    refine ev_q rfl (q_assign (by conv => lhs; whnf) ?_)
    refine ev_nil (hK2 _ ?_); clear hK2
    refine good_ret ?_
    repeat (first | refine thenQ_ret ?_ | refine blockQ_ret ?_)
    refine ret_tmp (st := _) rfl (by conv => lhs; whnf) rfl ?_
    first | rfl | exact fT (by first | omega | grind) | exact fF (by first | omega | grind) | exact fT' (by first | omega | grind) | (exfalso; first | omega | grind)
  · first | replace hb3 := dT hb3 | skip
    refine ev_q rfl (q_assign (by conv => lhs; whnf) ?_)
    refine ev_nil (hK2 _ ?_); clear hK2
    refine good_ret ?_
    repeat (first | refine thenQ_ret ?_ | refine blockQ_ret ?_)
    refine ret_tmp (st := _) rfl (by conv => lhs; whnf) rfl ?_
    first | rfl | exact fT (by first | omega | grind) | exact fF (by first | omega | grind) | exact fT' (by first | omega | grind) | (exfalso; first | omega | grind)

-- spec.l09Time
set_option maxRecDepth 20000 in
theorem D_spec_l09Time (a : Int)  : Den Try.prog 90 [.s (.int .i64 a)] (.s (.bool (decide (0 ≤ a ∧ a ≤ 1000000)))) := by
  refine den_of_good Try.func90 (by decide) rfl (Nat.le_of_ble_eq_true rfl) ?_
  refine good_seq fun K1 hK1 => ?_
  refine good_region rfl ?_
  refine ev_q rfl (q_assign (by conv => lhs; whnf) ?_)
  refine ev_nil (hK1 _ ?_); clear hK1
  refine good_seq fun K2 hK2 => ?_
  refine good_region rfl ?_
  refine ev_q rfl (q_move (by conv => lhs; whnf) ?_)
  refine ev_q rfl (q_callB rfl rfl rfl (D_spec_l00In ..) ?_)
  intro b3 hb3; cases b3
  · first | replace hb3 := dF hb3 | skip
    refine ev_q rfl (q_assign (by conv => lhs; whnf) ?_)
    refine ev_nil (hK2 _ ?_); clear hK2
    refine good_ret ?_
    repeat (first | refine thenQ_ret ?_ | refine blockQ_ret ?_)
    refine ret_tmp (st := _) rfl (by conv => lhs; whnf) rfl ?_
    first | rfl | exact fT (by first | omega | grind) | exact fF (by first | omega | grind) | exact fT' (by first | omega | grind) | (exfalso; first | omega | grind)
  · first | replace hb3 := dT hb3 | skip
    refine ev_q rfl (q_assign (by conv => lhs; whnf) ?_)
    refine ev_nil (hK2 _ ?_); clear hK2
    refine good_ret ?_
    repeat (first | refine thenQ_ret ?_ | refine blockQ_ret ?_)
    refine ret_tmp (st := _) rfl (by conv => lhs; whnf) rfl ?_
    first | rfl | exact fT (by first | omega | grind) | exact fF (by first | omega | grind) | exact fT' (by first | omega | grind) | (exfalso; first | omega | grind)

-- impl.timeOk
set_option maxRecDepth 20000 in
theorem D_impl_timeOk (a : Int)  : Den Try.prog 66 [.s (.int .i64 a)] (.s (.bool (decide (0 ≤ a ∧ a ≤ 1000000)))) := by
  refine den_of_good Try.func66 (by decide) rfl (Nat.le_of_ble_eq_true rfl) ?_
  refine good_seq fun K1 hK1 => ?_
  refine good_region rfl ?_
  refine ev_q rfl (q_assign (by conv => lhs; whnf) ?_)
  refine ev_nil (hK1 _ ?_); clear hK1
  refine good_seq fun K2 hK2 => ?_
  refine good_region rfl ?_
  refine ev_q rfl (q_move (by conv => lhs; whnf) ?_)
  refine ev_q rfl (q_callB rfl rfl rfl (D_impl_within ..) ?_)
  intro b3 hb3; cases b3
  · first | replace hb3 := dF hb3 | skip
    refine ev_q rfl (q_assign (by conv => lhs; whnf) ?_)
    refine ev_nil (hK2 _ ?_); clear hK2
    refine good_ret ?_
    repeat (first | refine thenQ_ret ?_ | refine blockQ_ret ?_)
    refine ret_tmp (st := _) rfl (by conv => lhs; whnf) rfl ?_
    first | rfl | exact fT (by first | omega | grind) | exact fF (by first | omega | grind) | exact fT' (by first | omega | grind) | (exfalso; first | omega | grind)
  · first | replace hb3 := dT hb3 | skip
    refine ev_q rfl (q_assign (by conv => lhs; whnf) ?_)
    refine ev_nil (hK2 _ ?_); clear hK2
    refine good_ret ?_
    repeat (first | refine thenQ_ret ?_ | refine blockQ_ret ?_)
    refine ret_tmp (st := _) rfl (by conv => lhs; whnf) rfl ?_
    first | rfl | exact fT (by first | omega | grind) | exact fF (by first | omega | grind) | exact fT' (by first | omega | grind) | (exfalso; first | omega | grind)

-- impl.degreesOk
set_option maxRecDepth 20000 in
theorem D_impl_degreesOk (a : Int)  : Den Try.prog 67 [.s (.int .i64 a)] (.s (.bool (decide (-5000 ≤ a ∧ a ≤ 20000)))) := by
  refine den_of_good Try.func67 (by decide) rfl (Nat.le_of_ble_eq_true rfl) ?_
  refine good_seq fun K1 hK1 => ?_
  refine good_region rfl ?_
  refine ev_q rfl (q_assign (by conv => lhs; whnf) ?_)
  refine ev_nil (hK1 _ ?_); clear hK1
  refine good_seq fun K2 hK2 => ?_
  refine good_region rfl ?_
  refine ev_q rfl (q_move (by conv => lhs; whnf) ?_)
  refine ev_q rfl (q_callB rfl rfl rfl (D_impl_within ..) ?_)
  intro b3 hb3; cases b3
  · first | replace hb3 := dF hb3 | skip
    refine ev_q rfl (q_assign (by conv => lhs; whnf) ?_)
    refine ev_nil (hK2 _ ?_); clear hK2
    refine good_ret ?_
    repeat (first | refine thenQ_ret ?_ | refine blockQ_ret ?_)
    refine ret_tmp (st := _) rfl (by conv => lhs; whnf) rfl ?_
    first | rfl | exact fT (by first | omega | grind) | exact fF (by first | omega | grind) | exact fT' (by first | omega | grind) | (exfalso; first | omega | grind)
  · first | replace hb3 := dT hb3 | skip
    refine ev_q rfl (q_assign (by conv => lhs; whnf) ?_)
    refine ev_nil (hK2 _ ?_); clear hK2
    refine good_ret ?_
    repeat (first | refine thenQ_ret ?_ | refine blockQ_ret ?_)
    refine ret_tmp (st := _) rfl (by conv => lhs; whnf) rfl ?_
    first | rfl | exact fT (by first | omega | grind) | exact fF (by first | omega | grind) | exact fT' (by first | omega | grind) | (exfalso; first | omega | grind)

-- spec.l09Ok
set_option maxRecDepth 20000 in
theorem D_spec_l09Ok (xs : List (Int × Int)) (hx : xs.length ≤ 8796093022208) : Den Try.prog 65 [.lst 2 (xs.map stp)] (.s (.bool (decide (waveOk xs)))) := by
  refine den_of_good Try.func65 (by decide) rfl (Nat.le_of_ble_eq_true rfl) ?_
  refine good_seq fun K1 hK1 => ?_
  refine good_region rfl ?_
  refine ev_q rfl (q_assign (by conv => lhs; whnf) ?_)
  refine ev_nil (hK1 _ ?_); clear hK1
  refine good_seq fun K2 hK2 => ?_
  refine good_seq fun K3 hK3 => ?_
  refine good_region rfl ?_
  refine ev_q rfl (q_assign (by conv => lhs; whnf) ?_)
  refine ev_nil (hK3 _ ?_); clear hK3
  refine good_block ?_
  refine good_loop (α := Nat) (fun i => { env := upd (upd ((fun _ => .junk)) 0 (.lst 2 (xs.map stp))) 3 (.s (.int .i64 i)), H := fun _ => none }) (fun i => i ≤ xs.length ∧ ∀ j p, j < i → xs[j]? = some p → okAt xs j p) (fun i => xs.length - i) 0 ?_ ?_ ?_
  · exact ⟨by omega, fun j u hj => by omega⟩
  · refine sub_weak ?_ ?_
    · exact weakH_none _
    · refine weakE_upd ?e3 ?r3 (weakE_upd ?e0 ?r0 (weakE_junk _ _))
      case e0 => first | rfl | exact fI (by omega) | (simp_all)
      case r0 => intro h hh; cases hh
      case e3 => first | rfl | exact fI (by omega) | (simp_all)
      case r3 => intro h hh; cases hh
  · rintro i ⟨hI, hJ⟩
    refine good_seq fun K4 hK4 => ?_
    refine good_seq fun K5 hK5 => ?_
    refine good_region rfl ?_
    refine ev_q rfl (q_move (by conv => lhs; whnf) ?_)
    refine ev_q rfl (q_move (by conv => lhs; whnf) ?_)
    refine ev_q rfl (q_len tEs43 rfl ?_)
    intro n6 hn6
    try simp only [List.length_map] at hn6
    refine ev_q rfl (q_int rfl rfl ?_)
    intro b7 hb7; cases b7
    · replace hb7 := dF hb7
      refine ev_nil (hK5 _ ?_); clear hK5
      refine good_condF rfl ?_
      refine good_exit ?_
      repeat (first | refine thenQ_exit ?_ | refine blockQ_pass rfl ?_)
      refine blockQ_exit (hK2 _ ?_); clear hK2
      refine good_seq fun K8 hK8 => ?_
      refine good_region rfl ?_
      refine ev_q rfl (q_move (by conv => lhs; whnf) ?_)
      refine ev_q rfl (q_len tEs43 rfl ?_)
      intro n9 hn9
      try simp only [List.length_map] at hn9
      refine ev_q rfl (q_callB rfl rfl rfl (D_spec_l00In ..) ?_)
      intro b10 hb10; cases b10
      · first | replace hb10 := dF hb10 | skip
        refine ev_q rfl (q_assign (by conv => lhs; whnf) ?_)
        refine ev_nil (hK8 _ ?_); clear hK8
        refine good_ret ?_
        repeat (first | refine thenQ_ret ?_ | refine blockQ_ret ?_)
        refine ret_tmp (st := _) rfl (by conv => lhs; whnf) rfl ?_
        clear hK4
        first | exact fT ((wave_iff (all_fin hJ (by omega))).1 (by omega)) | exact fF (fun h => absurd ((wave_iff (all_fin hJ (by omega))).2 h) (by omega)) | exact fF (wave_no hp (by simp only [okAt]; grind))
      · first | replace hb10 := dT hb10 | skip
        refine ev_q rfl (q_assign (by conv => lhs; whnf) ?_)
        refine ev_nil (hK8 _ ?_); clear hK8
        refine good_ret ?_
        repeat (first | refine thenQ_ret ?_ | refine blockQ_ret ?_)
        refine ret_tmp (st := _) rfl (by conv => lhs; whnf) rfl ?_
        clear hK4
        first | exact fT ((wave_iff (all_fin hJ (by omega))).1 (by omega)) | exact fF (fun h => absurd ((wave_iff (all_fin hJ (by omega))).2 h) (by omega)) | exact fF (wave_no hp (by simp only [okAt]; grind))
    · replace hb7 := dT hb7
      obtain ⟨p, hp⟩ := getL (xs := xs) (n := (i : Int)) (by omega) (by omega)
      replace hp : xs[i]? = some p := hp
      refine ev_nil (hK5 _ ?_); clear hK5
      refine good_condT rfl ?_
      refine good_skip (hK4 _ ?_); clear hK4
      refine good_seq fun K11 hK11 => ?_
      refine good_block ?_
      refine good_seq fun K12 hK12 => ?_
      refine good_draw 46 hmix (by kernel_rfl) rfl ?_
      refine qo_q rfl (q_move (by conv => lhs; whnf) ?_)
      refine qo_q rfl (q_move (by conv => lhs; whnf) ?_)
      refine qo_q rfl (q_idx tE43 rfl rfl (by exact Int.natCast_nonneg _) (by exact map_get hp) rfl ?_)
      refine qo_q rfl (q_fieldAddr fO77_0 rfl rfl ?_)
      refine qo_q rfl (q_load tA2 rfl ?_)
      refine qo_q rfl (q_callB rfl rfl rfl (D_spec_l09Time ..) ?_)
      intro b13 hb13; cases b13
      · first | replace hb13 := dF hb13 | skip
        refine qo_q rfl (q_not rfl rfl ?_)
        refine qo_q rfl (q_move (by conv => lhs; whnf) ?_)
        refine qo_skip rfl ?_
        refine qo_skip rfl ?_
        refine qo_skip rfl ?_
        refine qo_skip rfl ?_
        refine qo_skip rfl ?_
        refine qo_skip rfl ?_
        refine qo_skip rfl ?_
        refine qo_q rfl (q_pickT rfl (by conv => lhs; whnf) ?_)
        refine qo_q rfl (q_move (by conv => lhs; whnf) ?_)
        refine qo_skip rfl ?_
        refine qo_skip rfl ?_
        refine qo_skip rfl ?_
        refine qo_skip rfl ?_
        refine qo_skip rfl ?_
        refine qo_skip rfl ?_
        refine qo_skip rfl ?_
        refine qo_skip rfl ?_
        refine qo_skip rfl ?_
        refine qo_skip rfl ?_
        refine qo_q rfl (q_pickT rfl (by conv => lhs; whnf) ?_)
        refine qo_q rfl (q_move (by conv => lhs; whnf) ?_)
        refine qo_skip rfl ?_
        refine qo_skip rfl ?_
        refine qo_skip rfl ?_
        refine qo_skip rfl ?_
        refine qo_skip rfl ?_
        refine qo_skip rfl ?_
        refine qo_skip rfl ?_
        refine qo_skip rfl ?_
        refine qo_skip rfl ?_
        refine qo_skip rfl ?_
        refine qo_skip rfl ?_
        refine qo_skip rfl ?_
        refine qo_skip rfl ?_
        refine qo_skip rfl ?_
        refine qo_skip rfl ?_
        refine qo_skip rfl ?_
        refine qo_q rfl (q_pickT rfl (by conv => lhs; whnf) ?_)
        refine qo_nil ?_
        refine ev_nil (hK12 _ ?_); clear hK12
        refine good_condT rfl ?_
        refine good_seq fun K14 hK14 => ?_
        refine good_region rfl ?_
        refine ev_q rfl (q_assign (by conv => lhs; whnf) ?_)
        refine ev_nil (hK14 _ ?_); clear hK14
        refine good_ret ?_
        repeat (first | refine thenQ_ret ?_ | refine blockQ_ret ?_)
        refine ret_tmp (st := _) rfl (by conv => lhs; whnf) rfl ?_
        clear hK2 hK11
        first | exact fT ((wave_iff (all_fin hJ (by omega))).1 (by omega)) | exact fF (fun h => absurd ((wave_iff (all_fin hJ (by omega))).2 h) (by omega)) | exact fF (wave_no hp (by simp only [okAt]; grind))
      · first | replace hb13 := dT hb13 | skip
        refine qo_q rfl (q_not rfl rfl ?_)
        refine qo_q rfl (q_move (by conv => lhs; whnf) ?_)
        refine qo_q rfl (q_move (by conv => lhs; whnf) ?_)
        refine qo_q rfl (q_move (by conv => lhs; whnf) ?_)
        refine qo_q rfl (q_idx tE43 rfl rfl (by exact Int.natCast_nonneg _) (by exact map_get hp) rfl ?_)
        refine qo_q rfl (q_fieldAddr fO77_1 rfl rfl ?_)
        refine qo_q rfl (q_load tA2 rfl ?_)
        refine qo_q rfl (q_callB rfl rfl rfl (D_spec_l03Degrees ..) ?_)
        intro b15 hb15; cases b15
        · first | replace hb15 := dF hb15 | skip
          refine qo_q rfl (q_not rfl rfl ?_)
          refine qo_q rfl (q_pickF rfl (by conv => lhs; whnf) ?_)
          refine qo_q rfl (q_move (by conv => lhs; whnf) ?_)
          refine qo_skip rfl ?_
          refine qo_skip rfl ?_
          refine qo_skip rfl ?_
          refine qo_skip rfl ?_
          refine qo_skip rfl ?_
          refine qo_skip rfl ?_
          refine qo_skip rfl ?_
          refine qo_skip rfl ?_
          refine qo_skip rfl ?_
          refine qo_skip rfl ?_
          refine qo_q rfl (q_pickT rfl (by conv => lhs; whnf) ?_)
          refine qo_q rfl (q_move (by conv => lhs; whnf) ?_)
          refine qo_skip rfl ?_
          refine qo_skip rfl ?_
          refine qo_skip rfl ?_
          refine qo_skip rfl ?_
          refine qo_skip rfl ?_
          refine qo_skip rfl ?_
          refine qo_skip rfl ?_
          refine qo_skip rfl ?_
          refine qo_skip rfl ?_
          refine qo_skip rfl ?_
          refine qo_skip rfl ?_
          refine qo_skip rfl ?_
          refine qo_skip rfl ?_
          refine qo_skip rfl ?_
          refine qo_skip rfl ?_
          refine qo_skip rfl ?_
          refine qo_q rfl (q_pickT rfl (by conv => lhs; whnf) ?_)
          refine qo_nil ?_
          refine ev_nil (hK12 _ ?_); clear hK12
          refine good_condT rfl ?_
          refine good_seq fun K16 hK16 => ?_
          refine good_region rfl ?_
          refine ev_q rfl (q_assign (by conv => lhs; whnf) ?_)
          refine ev_nil (hK16 _ ?_); clear hK16
          refine good_ret ?_
          repeat (first | refine thenQ_ret ?_ | refine blockQ_ret ?_)
          refine ret_tmp (st := _) rfl (by conv => lhs; whnf) rfl ?_
          clear hK2 hK11
          first | exact fT ((wave_iff (all_fin hJ (by omega))).1 (by omega)) | exact fF (fun h => absurd ((wave_iff (all_fin hJ (by omega))).2 h) (by omega)) | exact fF (wave_no hp (by simp only [okAt]; grind))
        · first | replace hb15 := dT hb15 | skip
          refine qo_q rfl (q_not rfl rfl ?_)
          refine qo_q rfl (q_pickF rfl (by conv => lhs; whnf) ?_)
          refine qo_q rfl (q_move (by conv => lhs; whnf) ?_)
          refine qo_q rfl (q_move (by conv => lhs; whnf) ?_)
          refine qo_q rfl (q_int rfl rfl ?_)
          intro b17 hb17; cases b17
          · replace hb17 := eqF hb17
            refine qo_q rfl (q_move (by conv => lhs; whnf) ?_)
            refine qo_skip rfl ?_
            refine qo_skip rfl ?_
            refine qo_skip rfl ?_
            refine qo_skip rfl ?_
            refine qo_skip rfl ?_
            refine qo_skip rfl ?_
            refine qo_q rfl (q_pickF rfl (by conv => lhs; whnf) ?_)
            refine qo_q rfl (q_pickF rfl (by conv => lhs; whnf) ?_)
            refine qo_q rfl (q_move (by conv => lhs; whnf) ?_)
            refine qo_q rfl (q_move (by conv => lhs; whnf) ?_)
            refine qo_q rfl (q_int rfl rfl ?_)
            intro b18 hb18; cases b18
            · replace hb18 := dF hb18
              refine qo_q rfl (q_move (by conv => lhs; whnf) ?_)
              refine qo_skip rfl ?_
              refine qo_skip rfl ?_
              refine qo_skip rfl ?_
              refine qo_skip rfl ?_
              refine qo_skip rfl ?_
              refine qo_skip rfl ?_
              refine qo_skip rfl ?_
              refine qo_skip rfl ?_
              refine qo_skip rfl ?_
              refine qo_skip rfl ?_
              refine qo_skip rfl ?_
              refine qo_skip rfl ?_
              refine qo_q rfl (q_pickF rfl (by conv => lhs; whnf) ?_)
              refine qo_q rfl (q_pickF rfl (by conv => lhs; whnf) ?_)
              refine qo_nil ?_
              refine ev_nil (hK12 _ ?_); clear hK12
              refine good_condF rfl ?_
              refine good_skip (hK11 _ ?_); clear hK11
              refine good_region rfl ?_
              refine ev_q rfl (q_move (by conv => lhs; whnf) ?_)
              refine ev_q rfl (q_int rfl rfl ?_)
              intro n19 hn19
              replace hn19 := in64 hn19 (by omega) (by omega)
              refine ev_q rfl (q_assign (by conv => lhs; whnf) ?_)
              refine ev_nil ?_
              clear hK2
              refine ⟨i + 1, ?_, ?_, ?_⟩
              · refine ⟨by omega, all_ext hJ hp ?_⟩
                refine ⟨by omega, by omega, by intro hz; grind, fun z hz0 hz => ?_⟩
                grind
              · first | omega | (simp only []; omega) | (dsimp only; omega)
              · refine sub_weak ?_ ?_
                · exact weakH_none _
                · refine weakE_upd ?e3 ?r3 (weakE_upd ?e0 ?r0 (weakE_junk _ _))
                  case e0 => first | rfl | exact fI (by omega) | (simp_all)
                  case r0 => intro h hh; cases hh
                  case e3 => first | rfl | exact fI (by omega) | (simp_all)
                  case r3 => intro h hh; cases hh
            · replace hb18 := dT hb18
              refine qo_q rfl (q_move (by conv => lhs; whnf) ?_)
              refine qo_q rfl (q_move (by conv => lhs; whnf) ?_)
              refine qo_q rfl (q_move (by conv => lhs; whnf) ?_)
              refine qo_q rfl (q_int rfl rfl ?_)
              intro n20 hn20
              replace hn20 := in64 hn20 (by omega) (by omega)
              obtain ⟨q, hq⟩ := getL (xs := xs) (n := n20) (by omega) (by omega)
              refine qo_q rfl (q_idx tE43 rfl rfl (by omega) (by exact map_get hq) rfl ?_)
              refine qo_q rfl (q_fieldAddr fO77_0 rfl rfl ?_)
              refine qo_q rfl (q_load tA2 rfl ?_)
              refine qo_q rfl (q_move (by conv => lhs; whnf) ?_)
              refine qo_q rfl (q_move (by conv => lhs; whnf) ?_)
              refine qo_q rfl (q_idx tE43 rfl rfl (by exact Int.natCast_nonneg _) (by exact map_get hp) rfl ?_)
              refine qo_q rfl (q_fieldAddr fO77_0 rfl rfl ?_)
              refine qo_q rfl (q_load tA2 rfl ?_)
              refine qo_q rfl (q_int rfl rfl ?_)
              intro b21 hb21; cases b21
              · replace hb21 := dF hb21
                refine qo_q rfl (q_pickT rfl (by conv => lhs; whnf) ?_)
                refine qo_q rfl (q_pickF rfl (by conv => lhs; whnf) ?_)
                refine qo_nil ?_
                refine ev_nil (hK12 _ ?_); clear hK12
                refine good_condF rfl ?_
                refine good_skip (hK11 _ ?_); clear hK11
                refine good_region rfl ?_
                refine ev_q rfl (q_move (by conv => lhs; whnf) ?_)
                refine ev_q rfl (q_int rfl rfl ?_)
                intro n22 hn22
                replace hn22 := in64 hn22 (by omega) (by omega)
                refine ev_q rfl (q_assign (by conv => lhs; whnf) ?_)
                refine ev_nil ?_
                clear hK2
                refine ⟨i + 1, ?_, ?_, ?_⟩
                · refine ⟨by omega, all_ext hJ hp ?_⟩
                  refine ⟨by omega, by omega, by intro hz; grind, fun z hz0 hz => ?_⟩
                  grind
                · first | omega | (simp only []; omega) | (dsimp only; omega)
                · refine sub_weak ?_ ?_
                  · exact weakH_none _
                  · refine weakE_upd ?e3 ?r3 (weakE_upd ?e0 ?r0 (weakE_junk _ _))
                    case e0 => first | rfl | exact fI (by omega) | (simp_all)
                    case r0 => intro h hh; cases hh
                    case e3 => first | rfl | exact fI (by omega) | (simp_all)
                    case r3 => intro h hh; cases hh
              · replace hb21 := dT hb21
                refine qo_q rfl (q_pickT rfl (by conv => lhs; whnf) ?_)
                refine qo_q rfl (q_pickF rfl (by conv => lhs; whnf) ?_)
                refine qo_nil ?_
                refine ev_nil (hK12 _ ?_); clear hK12
                refine good_condT rfl ?_
                refine good_seq fun K23 hK23 => ?_
                refine good_region rfl ?_
                refine ev_q rfl (q_assign (by conv => lhs; whnf) ?_)
                refine ev_nil (hK23 _ ?_); clear hK23
                refine good_ret ?_
                repeat (first | refine thenQ_ret ?_ | refine blockQ_ret ?_)
                refine ret_tmp (st := _) rfl (by conv => lhs; whnf) rfl ?_
                clear hK2 hK11
                first | exact fT ((wave_iff (all_fin hJ (by omega))).1 (by omega)) | exact fF (fun h => absurd ((wave_iff (all_fin hJ (by omega))).2 h) (by omega)) | exact fF (wave_no hp (by simp only [okAt]; grind))
          · replace hb17 := eqT hb17
            refine qo_q rfl (q_move (by conv => lhs; whnf) ?_)
            refine qo_q rfl (q_move (by conv => lhs; whnf) ?_)
            refine qo_q rfl (q_move (by conv => lhs; whnf) ?_)
            refine qo_q rfl (q_idx tE43 rfl rfl (by exact Int.natCast_nonneg _) (by exact map_get hp) rfl ?_)
            refine qo_q rfl (q_fieldAddr fO77_0 rfl rfl ?_)
            refine qo_q rfl (q_load tA2 rfl ?_)
            refine qo_q rfl (q_int rfl rfl ?_)
            intro b24 hb24; cases b24
            · replace hb24 := neF hb24
              refine qo_q rfl (q_pickT rfl (by conv => lhs; whnf) ?_)
              refine qo_q rfl (q_pickF rfl (by conv => lhs; whnf) ?_)
              refine qo_q rfl (q_move (by conv => lhs; whnf) ?_)
              refine qo_q rfl (q_move (by conv => lhs; whnf) ?_)
              refine qo_q rfl (q_int rfl rfl ?_)
              intro b25 hb25; cases b25
              · replace hb25 := dF hb25
                refine qo_q rfl (q_move (by conv => lhs; whnf) ?_)
                refine qo_skip rfl ?_
                refine qo_skip rfl ?_
                refine qo_skip rfl ?_
                refine qo_skip rfl ?_
                refine qo_skip rfl ?_
                refine qo_skip rfl ?_
                refine qo_skip rfl ?_
                refine qo_skip rfl ?_
                refine qo_skip rfl ?_
                refine qo_skip rfl ?_
                refine qo_skip rfl ?_
                refine qo_skip rfl ?_
                refine qo_q rfl (q_pickF rfl (by conv => lhs; whnf) ?_)
                refine qo_q rfl (q_pickF rfl (by conv => lhs; whnf) ?_)
                refine qo_nil ?_
                refine ev_nil (hK12 _ ?_); clear hK12
                refine good_condF rfl ?_
                refine good_skip (hK11 _ ?_); clear hK11
                refine good_region rfl ?_
                refine ev_q rfl (q_move (by conv => lhs; whnf) ?_)
                refine ev_q rfl (q_int rfl rfl ?_)
                intro n26 hn26
                replace hn26 := in64 hn26 (by omega) (by omega)
                refine ev_q rfl (q_assign (by conv => lhs; whnf) ?_)
                refine ev_nil ?_
                clear hK2
                refine ⟨i + 1, ?_, ?_, ?_⟩
                · refine ⟨by omega, all_ext hJ hp ?_⟩
                  refine ⟨by omega, by omega, by intro hz; grind, fun z hz0 hz => ?_⟩
                  grind
                · first | omega | (simp only []; omega) | (dsimp only; omega)
                · refine sub_weak ?_ ?_
                  · exact weakH_none _
                  · refine weakE_upd ?e3 ?r3 (weakE_upd ?e0 ?r0 (weakE_junk _ _))
                    case e0 => first | rfl | exact fI (by omega) | (simp_all)
                    case r0 => intro h hh; cases hh
                    case e3 => first | rfl | exact fI (by omega) | (simp_all)
                    case r3 => intro h hh; cases hh
              · replace hb25 := dT hb25
                refine qo_q rfl (q_move (by conv => lhs; whnf) ?_)
                refine qo_q rfl (q_move (by conv => lhs; whnf) ?_)
                refine qo_q rfl (q_move (by conv => lhs; whnf) ?_)
                refine qo_q rfl (q_int rfl rfl ?_)
                intro n27 hn27
                replace hn27 := in64 hn27 (by omega) (by omega)
                obtain ⟨q, hq⟩ := getL (xs := xs) (n := n27) (by omega) (by omega)
                refine qo_q rfl (q_idx tE43 rfl rfl (by omega) (by exact map_get hq) rfl ?_)
                refine qo_q rfl (q_fieldAddr fO77_0 rfl rfl ?_)
                refine qo_q rfl (q_load tA2 rfl ?_)
                refine qo_q rfl (q_move (by conv => lhs; whnf) ?_)
                refine qo_q rfl (q_move (by conv => lhs; whnf) ?_)
                refine qo_q rfl (q_idx tE43 rfl rfl (by exact Int.natCast_nonneg _) (by exact map_get hp) rfl ?_)
                refine qo_q rfl (q_fieldAddr fO77_0 rfl rfl ?_)
                refine qo_q rfl (q_load tA2 rfl ?_)
                refine qo_q rfl (q_int rfl rfl ?_)
                intro b28 hb28; cases b28
                · replace hb28 := dF hb28
                  refine qo_q rfl (q_pickT rfl (by conv => lhs; whnf) ?_)
                  refine qo_q rfl (q_pickF rfl (by conv => lhs; whnf) ?_)
                  refine qo_nil ?_
                  refine ev_nil (hK12 _ ?_); clear hK12
                  refine good_condF rfl ?_
                  refine good_skip (hK11 _ ?_); clear hK11
                  refine good_region rfl ?_
                  refine ev_q rfl (q_move (by conv => lhs; whnf) ?_)
                  refine ev_q rfl (q_int rfl rfl ?_)
                  intro n29 hn29
                  replace hn29 := in64 hn29 (by omega) (by omega)
                  refine ev_q rfl (q_assign (by conv => lhs; whnf) ?_)
                  refine ev_nil ?_
                  clear hK2
                  refine ⟨i + 1, ?_, ?_, ?_⟩
                  · refine ⟨by omega, all_ext hJ hp ?_⟩
                    refine ⟨by omega, by omega, by intro hz; grind, fun z hz0 hz => ?_⟩
                    grind
                  · first | omega | (simp only []; omega) | (dsimp only; omega)
                  · refine sub_weak ?_ ?_
                    · exact weakH_none _
                    · refine weakE_upd ?e3 ?r3 (weakE_upd ?e0 ?r0 (weakE_junk _ _))
                      case e0 => first | rfl | exact fI (by omega) | (simp_all)
                      case r0 => intro h hh; cases hh
                      case e3 => first | rfl | exact fI (by omega) | (simp_all)
                      case r3 => intro h hh; cases hh
                · replace hb28 := dT hb28
                  refine qo_q rfl (q_pickT rfl (by conv => lhs; whnf) ?_)
                  refine qo_q rfl (q_pickF rfl (by conv => lhs; whnf) ?_)
                  refine qo_nil ?_
                  refine ev_nil (hK12 _ ?_); clear hK12
                  refine good_condT rfl ?_
                  refine good_seq fun K30 hK30 => ?_
                  refine good_region rfl ?_
                  refine ev_q rfl (q_assign (by conv => lhs; whnf) ?_)
                  refine ev_nil (hK30 _ ?_); clear hK30
                  refine good_ret ?_
                  repeat (first | refine thenQ_ret ?_ | refine blockQ_ret ?_)
                  refine ret_tmp (st := _) rfl (by conv => lhs; whnf) rfl ?_
                  clear hK2 hK11
                  first | exact fT ((wave_iff (all_fin hJ (by omega))).1 (by omega)) | exact fF (fun h => absurd ((wave_iff (all_fin hJ (by omega))).2 h) (by omega)) | exact fF (wave_no hp (by simp only [okAt]; grind))
            · replace hb24 := neT hb24
              refine qo_q rfl (q_pickT rfl (by conv => lhs; whnf) ?_)
              refine qo_q rfl (q_pickF rfl (by conv => lhs; whnf) ?_)
              refine qo_q rfl (q_move (by conv => lhs; whnf) ?_)
              refine qo_skip rfl ?_
              refine qo_skip rfl ?_
              refine qo_skip rfl ?_
              refine qo_skip rfl ?_
              refine qo_skip rfl ?_
              refine qo_skip rfl ?_
              refine qo_skip rfl ?_
              refine qo_skip rfl ?_
              refine qo_skip rfl ?_
              refine qo_skip rfl ?_
              refine qo_skip rfl ?_
              refine qo_skip rfl ?_
              refine qo_skip rfl ?_
              refine qo_skip rfl ?_
              refine qo_skip rfl ?_
              refine qo_skip rfl ?_
              refine qo_q rfl (q_pickT rfl (by conv => lhs; whnf) ?_)
              refine qo_nil ?_
              refine ev_nil (hK12 _ ?_); clear hK12
              refine good_condT rfl ?_
              refine good_seq fun K31 hK31 => ?_
              refine good_region rfl ?_
              refine ev_q rfl (q_assign (by conv => lhs; whnf) ?_)
              refine ev_nil (hK31 _ ?_); clear hK31
              refine good_ret ?_
              repeat (first | refine thenQ_ret ?_ | refine blockQ_ret ?_)
              refine ret_tmp (st := _) rfl (by conv => lhs; whnf) rfl ?_
              clear hK2 hK11
              first | exact fT ((wave_iff (all_fin hJ (by omega))).1 (by omega)) | exact fF (fun h => absurd ((wave_iff (all_fin hJ (by omega))).2 h) (by omega)) | exact fF (wave_no hp (by simp only [okAt]; grind))

-- impl.ValidWave
set_option maxRecDepth 20000 in
theorem D_impl_ValidWave (xs : List (Int × Int)) (hx : xs.length ≤ 8796093022208) : Den Try.prog 32 [.lst 2 (xs.map stp)] (.s (.bool (decide (waveOk xs)))) := by
  refine den_of_good Try.func32 (by decide) rfl (Nat.le_of_ble_eq_true rfl) ?_
  refine good_seq fun K1 hK1 => ?_
  refine good_region rfl ?_
  refine ev_q rfl (q_assign (by conv => lhs; whnf) ?_)
  refine ev_nil (hK1 _ ?_); clear hK1
  refine good_seq fun K2 hK2 => ?_
  refine good_seq fun K3 hK3 => ?_
  refine good_region rfl ?_
  refine ev_q rfl (q_move (by conv => lhs; whnf) ?_)
  refine ev_q rfl (q_len tEs43 rfl ?_)
  intro n4 hn4
  try simp only [List.length_map] at hn4
  refine ev_q rfl (q_int rfl rfl ?_)
  intro b5 hb5; cases b5
  · replace hb5 := dF hb5
    refine ev_q rfl (q_move (by conv => lhs; whnf) ?_)
    refine ev_q rfl (q_move (by conv => lhs; whnf) ?_)
    refine ev_q rfl (q_len tEs43 rfl ?_)
    intro n6 hn6
    try simp only [List.length_map] at hn6
    refine ev_q rfl (q_int rfl rfl ?_)
    intro b7 hb7; cases b7
    · replace hb7 := dF hb7
      refine ev_q rfl (q_pickF rfl (by conv => lhs; whnf) ?_)
      refine ev_q rfl (q_move (by conv => lhs; whnf) ?_)
      refine ev_q rfl (q_move (by conv => lhs; whnf) ?_)
      obtain ⟨p0, hp0⟩ := getL (xs := xs) (n := 0) (by omega) (by omega)
      refine ev_q rfl (q_idx tE43 rfl rfl (by decide) (by exact map_get hp0) rfl ?_)
      refine ev_q rfl (q_fieldAddr fO77_0 rfl rfl ?_)
      refine ev_q rfl (q_load tA2 rfl ?_)
      refine ev_q rfl (q_int rfl rfl ?_)
      intro b8 hb8; cases b8
      · replace hb8 := neF hb8
        refine ev_q rfl (q_pickF rfl (by conv => lhs; whnf) ?_)
        refine ev_nil (hK3 _ ?_); clear hK3
        refine good_condF rfl ?_
        refine good_skip (hK2 _ ?_); clear hK2
        refine good_seq fun K9 hK9 => ?_
        refine good_seq fun K10 hK10 => ?_
        refine good_region rfl ?_
        refine ev_q rfl (q_move (by conv => lhs; whnf) ?_)
        refine ev_q rfl (q_len tEs43 rfl ?_)
        intro n11 hn11
        try simp only [List.length_map] at hn11
        refine ev_q rfl (q_move (by conv => lhs; whnf) ?_)
        refine ev_nil (hK10 _ ?_); clear hK10
        refine good_block ?_
        refine good_loop (α := Nat) (fun i => { env := upd (upd (upd (upd ((fun _ => .junk)) 0 (.lst 2 (xs.map stp))) 20 (.lst 2 (xs.map stp))) 21 (.s (.int .i64 ((xs.length : Int))))) 22 (.s (.int .i64 i)), H := fun _ => none }) (fun i => i ≤ xs.length ∧ ∀ j p, j < i → xs[j]? = some p → okAt xs j p) (fun i => xs.length - i) 0 ?_ ?_ ?_
        · exact ⟨by omega, fun j u hj => by omega⟩
        · refine sub_weak ?_ ?_
          · exact weakH_none _
          · refine weakE_upd ?e22 ?r22 (weakE_upd ?e21 ?r21 (weakE_upd ?e20 ?r20 (weakE_upd ?e0 ?r0 (weakE_junk _ _))))
            case e0 => first | rfl | exact fI (by omega) | (simp_all)
            case r0 => intro h hh; cases hh
            case e20 => first | rfl | exact fI (by omega) | (simp_all)
            case r20 => intro h hh; cases hh
            case e21 => first | rfl | exact fI (by omega) | (simp_all)
            case r21 => intro h hh; cases hh
            case e22 => first | rfl | exact fI (by omega) | (simp_all)
            case r22 => intro h hh; cases hh
        · rintro i ⟨hI, hJ⟩
          refine good_seq fun K12 hK12 => ?_
          refine good_region rfl ?_
          refine ev_q rfl (q_int rfl rfl ?_)
          intro b13 hb13; cases b13
          · replace hb13 := dF hb13
            refine ev_nil (hK12 _ ?_); clear hK12
            refine good_seq fun K14 hK14 => ?_
            refine good_condF rfl ?_
            refine good_exit ?_
            repeat (first | refine thenQ_exit ?_ | refine blockQ_pass rfl ?_)
            refine blockQ_exit (hK9 _ ?_); clear hK9
            refine good_seq fun K15 hK15 => ?_
            refine good_region rfl ?_
            refine ev_q rfl (q_assign (by conv => lhs; whnf) ?_)
            refine ev_nil (hK15 _ ?_); clear hK15
            refine good_ret ?_
            repeat (first | refine thenQ_ret ?_ | refine blockQ_ret ?_)
            refine ret_tmp (st := _) rfl (by conv => lhs; whnf) rfl ?_
            clear hK14
            first | exact fT ((wave_iff (all_fin hJ (by omega))).1 (by omega)) | exact fF (fun h => by have := h.1; omega) | exact fF (wave_no hp (by simp only [okAt]; grind)) | exact fF (wave_no hp0 (by simp only [okAt]; grind))
          · replace hb13 := dT hb13
            obtain ⟨p, hp⟩ := getL (xs := xs) (n := (i : Int)) (by omega) (by omega)
            replace hp : xs[i]? = some p := hp
            refine ev_nil (hK12 _ ?_); clear hK12
            refine good_seq fun K16 hK16 => ?_
            refine good_condT rfl ?_
            refine good_skip (hK16 _ ?_); clear hK16
            refine good_seq fun K17 hK17 => ?_
            refine good_block ?_
            refine good_seq fun K18 hK18 => ?_
            refine good_region rfl ?_
            refine ev_q rfl (q_move (by conv => lhs; whnf) ?_)
            refine ev_q rfl (q_idx tE43 rfl rfl (by exact Int.natCast_nonneg _) (by exact map_get hp) rfl ?_)
            refine ev_q rfl (q_loadA tA77 rfl rfl rfl rfl ?_)
            refine ev_k rfl (k_alloc zA77 rfl ?_)
            refine ev_q rfl (q_assign (by conv => lhs; whnf) ?_)
            refine ev_k rfl (k_store sz77 rfl (by conv => lhs; whnf) rfl rfl rfl (Nat.le_of_ble_eq_true rfl) rfl ?_)
            refine ev_nil (hK18 _ ?_); clear hK18
            refine good_seq fun K19 hK19 => ?_
            refine good_draw 25 hmix (by kernel_rfl) rfl ?_
            refine qo_q rfl (q_fieldAddrP fO77_0 rfl rfl ?_)
            refine qo_q rfl (q_load tA2 rfl ?_)
            refine qo_q rfl (q_callB rfl rfl rfl (D_impl_timeOk ..) ?_)
            intro b20 hb20; cases b20
            · first | replace hb20 := dF hb20 | skip
              refine qo_q rfl (q_not rfl rfl ?_)
              refine qo_q rfl (q_move (by conv => lhs; whnf) ?_)
              refine qo_skip rfl ?_
              refine qo_skip rfl ?_
              refine qo_skip rfl ?_
              refine qo_skip rfl ?_
              refine qo_q rfl (q_pickT rfl (by conv => lhs; whnf) ?_)
              refine qo_q rfl (q_move (by conv => lhs; whnf) ?_)
              refine qo_skip rfl ?_
              refine qo_skip rfl ?_
              refine qo_skip rfl ?_
              refine qo_skip rfl ?_
              refine qo_skip rfl ?_
              refine qo_skip rfl ?_
              refine qo_skip rfl ?_
              refine qo_skip rfl ?_
              refine qo_skip rfl ?_
              refine qo_skip rfl ?_
              refine qo_skip rfl ?_
              refine qo_skip rfl ?_
              refine qo_skip rfl ?_
              refine qo_q rfl (q_pickT rfl (by conv => lhs; whnf) ?_)
              refine qo_nil ?_
              refine ev_nil (hK19 _ ?_); clear hK19
              refine good_condT rfl ?_
              refine good_seq fun K21 hK21 => ?_
              refine good_region rfl ?_
              refine ev_q rfl (q_assign (by conv => lhs; whnf) ?_)
              refine ev_nil (hK21 _ ?_); clear hK21
              refine good_ret ?_
              repeat (first | refine thenQ_ret ?_ | refine blockQ_ret ?_)
              refine ret_tmp (st := _) rfl (by conv => lhs; whnf) rfl ?_
              clear hK9 hK17
              first | exact fT ((wave_iff (all_fin hJ (by omega))).1 (by omega)) | exact fF (fun h => by have := h.1; omega) | exact fF (wave_no hp (by simp only [okAt]; grind)) | exact fF (wave_no hp0 (by simp only [okAt]; grind))
            · first | replace hb20 := dT hb20 | skip
              refine qo_q rfl (q_not rfl rfl ?_)
              refine qo_q rfl (q_move (by conv => lhs; whnf) ?_)
              refine qo_q rfl (q_fieldAddrP fO77_1 rfl rfl ?_)
              refine qo_q rfl (q_load tA2 rfl ?_)
              refine qo_q rfl (q_callB rfl rfl rfl (D_impl_degreesOk ..) ?_)
              intro b22 hb22; cases b22
              · first | replace hb22 := dF hb22 | skip
                refine qo_q rfl (q_not rfl rfl ?_)
                refine qo_q rfl (q_pickF rfl (by conv => lhs; whnf) ?_)
                refine qo_q rfl (q_move (by conv => lhs; whnf) ?_)
                refine qo_skip rfl ?_
                refine qo_skip rfl ?_
                refine qo_skip rfl ?_
                refine qo_skip rfl ?_
                refine qo_skip rfl ?_
                refine qo_skip rfl ?_
                refine qo_skip rfl ?_
                refine qo_skip rfl ?_
                refine qo_skip rfl ?_
                refine qo_skip rfl ?_
                refine qo_skip rfl ?_
                refine qo_skip rfl ?_
                refine qo_skip rfl ?_
                refine qo_q rfl (q_pickT rfl (by conv => lhs; whnf) ?_)
                refine qo_nil ?_
                refine ev_nil (hK19 _ ?_); clear hK19
                refine good_condT rfl ?_
                refine good_seq fun K23 hK23 => ?_
                refine good_region rfl ?_
                refine ev_q rfl (q_assign (by conv => lhs; whnf) ?_)
                refine ev_nil (hK23 _ ?_); clear hK23
                refine good_ret ?_
                repeat (first | refine thenQ_ret ?_ | refine blockQ_ret ?_)
                refine ret_tmp (st := _) rfl (by conv => lhs; whnf) rfl ?_
                clear hK9 hK17
                first | exact fT ((wave_iff (all_fin hJ (by omega))).1 (by omega)) | exact fF (fun h => by have := h.1; omega) | exact fF (wave_no hp (by simp only [okAt]; grind)) | exact fF (wave_no hp0 (by simp only [okAt]; grind))
              · first | replace hb22 := dT hb22 | skip
                refine qo_q rfl (q_not rfl rfl ?_)
                refine qo_q rfl (q_pickF rfl (by conv => lhs; whnf) ?_)
                refine qo_q rfl (q_move (by conv => lhs; whnf) ?_)
                refine qo_q rfl (q_move (by conv => lhs; whnf) ?_)
                refine qo_q rfl (q_int rfl rfl ?_)
                intro b24 hb24; cases b24
                · replace hb24 := dF hb24
                  refine qo_q rfl (q_move (by conv => lhs; whnf) ?_)
                  refine qo_skip rfl ?_
                  refine qo_skip rfl ?_
                  refine qo_skip rfl ?_
                  refine qo_skip rfl ?_
                  refine qo_skip rfl ?_
                  refine qo_skip rfl ?_
                  refine qo_skip rfl ?_
                  refine qo_skip rfl ?_
                  refine qo_skip rfl ?_
                  refine qo_q rfl (q_pickF rfl (by conv => lhs; whnf) ?_)
                  refine qo_q rfl (q_pickF rfl (by conv => lhs; whnf) ?_)
                  refine qo_nil ?_
                  refine ev_nil (hK19 _ ?_); clear hK19
                  refine good_condF rfl ?_
                  refine good_skip (hK17 _ ?_); clear hK17
                  refine good_region rfl ?_
                  refine ev_q rfl (q_int rfl rfl ?_)
                  intro n25 hn25
                  replace hn25 := in64 hn25 (by omega) (by omega)
                  refine ev_q rfl (q_move (by conv => lhs; whnf) ?_)
                  refine ev_nil ?_
                  clear hK9
                  refine ⟨i + 1, ?_, ?_, ?_⟩
                  · refine ⟨by omega, all_ext hJ hp ?_⟩
                    refine ⟨by omega, by omega, by intro hz; subst hz; have e : some p = some p0 := hp.symm.trans hp0; cases e; omega, fun z hz0 hz => ?_⟩
                    grind
                  · first | omega | (simp only []; omega) | (dsimp only; omega)
                  · refine sub_weak ?_ ?_
                    · exact weakH_none _
                    · refine weakE_upd ?e22 ?r22 (weakE_upd ?e21 ?r21 (weakE_upd ?e20 ?r20 (weakE_upd ?e0 ?r0 (weakE_junk _ _))))
                      case e0 => first | rfl | exact fI (by omega) | (simp_all)
                      case r0 => intro h hh; cases hh
                      case e20 => first | rfl | exact fI (by omega) | (simp_all)
                      case r20 => intro h hh; cases hh
                      case e21 => first | rfl | exact fI (by omega) | (simp_all)
                      case r21 => intro h hh; cases hh
                      case e22 => first | rfl | exact fI (by omega) | (simp_all)
                      case r22 => intro h hh; cases hh
                · replace hb24 := dT hb24
                  refine qo_q rfl (q_move (by conv => lhs; whnf) ?_)
                  refine qo_q rfl (q_fieldAddrP fO77_0 rfl rfl ?_)
                  refine qo_q rfl (q_load tA2 rfl ?_)
                  refine qo_q rfl (q_move (by conv => lhs; whnf) ?_)
                  refine qo_q rfl (q_move (by conv => lhs; whnf) ?_)
                  refine qo_q rfl (q_int rfl rfl ?_)
                  intro n26 hn26
                  replace hn26 := in64 hn26 (by omega) (by omega)
                  obtain ⟨q, hq⟩ := getL (xs := xs) (n := n26) (by omega) (by omega)
                  refine qo_q rfl (q_idx tE43 rfl rfl (by omega) (by exact map_get hq) rfl ?_)
                  refine qo_q rfl (q_fieldAddr fO77_0 rfl rfl ?_)
                  refine qo_q rfl (q_load tA2 rfl ?_)
                  refine qo_q rfl (q_int rfl rfl ?_)
                  intro b27 hb27; cases b27
                  · replace hb27 := dF hb27
                    refine qo_q rfl (q_pickT rfl (by conv => lhs; whnf) ?_)
                    refine qo_q rfl (q_pickF rfl (by conv => lhs; whnf) ?_)
                    refine qo_nil ?_
                    refine ev_nil (hK19 _ ?_); clear hK19
                    refine good_condF rfl ?_
                    refine good_skip (hK17 _ ?_); clear hK17
                    refine good_region rfl ?_
                    refine ev_q rfl (q_int rfl rfl ?_)
                    intro n28 hn28
                    replace hn28 := in64 hn28 (by omega) (by omega)
                    refine ev_q rfl (q_move (by conv => lhs; whnf) ?_)
                    refine ev_nil ?_
                    clear hK9
                    refine ⟨i + 1, ?_, ?_, ?_⟩
                    · refine ⟨by omega, all_ext hJ hp ?_⟩
                      refine ⟨by omega, by omega, by intro hz; subst hz; have e : some p = some p0 := hp.symm.trans hp0; cases e; omega, fun z hz0 hz => ?_⟩
                      grind
                    · first | omega | (simp only []; omega) | (dsimp only; omega)
                    · refine sub_weak ?_ ?_
                      · exact weakH_none _
                      · refine weakE_upd ?e22 ?r22 (weakE_upd ?e21 ?r21 (weakE_upd ?e20 ?r20 (weakE_upd ?e0 ?r0 (weakE_junk _ _))))
                        case e0 => first | rfl | exact fI (by omega) | (simp_all)
                        case r0 => intro h hh; cases hh
                        case e20 => first | rfl | exact fI (by omega) | (simp_all)
                        case r20 => intro h hh; cases hh
                        case e21 => first | rfl | exact fI (by omega) | (simp_all)
                        case r21 => intro h hh; cases hh
                        case e22 => first | rfl | exact fI (by omega) | (simp_all)
                        case r22 => intro h hh; cases hh
                  · replace hb27 := dT hb27
                    refine qo_q rfl (q_pickT rfl (by conv => lhs; whnf) ?_)
                    refine qo_q rfl (q_pickF rfl (by conv => lhs; whnf) ?_)
                    refine qo_nil ?_
                    refine ev_nil (hK19 _ ?_); clear hK19
                    refine good_condT rfl ?_
                    refine good_seq fun K29 hK29 => ?_
                    refine good_region rfl ?_
                    refine ev_q rfl (q_assign (by conv => lhs; whnf) ?_)
                    refine ev_nil (hK29 _ ?_); clear hK29
                    refine good_ret ?_
                    repeat (first | refine thenQ_ret ?_ | refine blockQ_ret ?_)
                    refine ret_tmp (st := _) rfl (by conv => lhs; whnf) rfl ?_
                    clear hK9 hK17
                    first | exact fT ((wave_iff (all_fin hJ (by omega))).1 (by omega)) | exact fF (fun h => by have := h.1; omega) | exact fF (wave_no hp (by simp only [okAt]; grind)) | exact fF (wave_no hp0 (by simp only [okAt]; grind))
      · replace hb8 := neT hb8
        refine ev_q rfl (q_pickF rfl (by conv => lhs; whnf) ?_)
        refine ev_nil (hK3 _ ?_); clear hK3
        refine good_condT rfl ?_
        refine good_seq fun K30 hK30 => ?_
        refine good_region rfl ?_
        refine ev_q rfl (q_assign (by conv => lhs; whnf) ?_)
        refine ev_nil (hK30 _ ?_); clear hK30
        refine good_ret ?_
        repeat (first | refine thenQ_ret ?_ | refine blockQ_ret ?_)
        refine ret_tmp (st := _) rfl (by conv => lhs; whnf) rfl ?_
        clear hK2
        first | exact fT ((wave_iff (all_fin hJ (by omega))).1 (by omega)) | exact fF (fun h => by have := h.1; omega) | exact fF (wave_no hp (by simp only [okAt]; grind)) | exact fF (wave_no hp0 (by simp only [okAt]; grind))
    · replace hb7 := dT hb7
      refine ev_q rfl (q_pickF rfl (by conv => lhs; whnf) ?_)
      refine ev_q rfl (q_move (by conv => lhs; whnf) ?_)
      refine ev_skip rfl ?_
      refine ev_skip rfl ?_
      refine ev_skip rfl ?_
      refine ev_skip rfl ?_
      refine ev_skip rfl ?_
      refine ev_q rfl (q_pickT rfl (by conv => lhs; whnf) ?_)
      refine ev_nil (hK3 _ ?_); clear hK3
      refine good_condT rfl ?_
      refine good_seq fun K31 hK31 => ?_
      refine good_region rfl ?_
      refine ev_q rfl (q_assign (by conv => lhs; whnf) ?_)
      refine ev_nil (hK31 _ ?_); clear hK31
      refine good_ret ?_
      repeat (first | refine thenQ_ret ?_ | refine blockQ_ret ?_)
      refine ret_tmp (st := _) rfl (by conv => lhs; whnf) rfl ?_
      clear hK2
      first | exact fT ((wave_iff (all_fin hJ (by omega))).1 (by omega)) | exact fF (fun h => by have := h.1; omega) | exact fF (wave_no hp (by simp only [okAt]; grind)) | exact fF (wave_no hp0 (by simp only [okAt]; grind))
  · replace hb5 := dT hb5
    refine ev_q rfl (q_move (by conv => lhs; whnf) ?_)
    refine ev_skip rfl ?_
    refine ev_skip rfl ?_
    refine ev_skip rfl ?_
    refine ev_q rfl (q_pickT rfl (by conv => lhs; whnf) ?_)
    refine ev_q rfl (q_move (by conv => lhs; whnf) ?_)
    refine ev_skip rfl ?_
    refine ev_skip rfl ?_
    refine ev_skip rfl ?_
    refine ev_skip rfl ?_
    refine ev_skip rfl ?_
    refine ev_q rfl (q_pickT rfl (by conv => lhs; whnf) ?_)
    refine ev_nil (hK3 _ ?_); clear hK3
    refine good_condT rfl ?_
    refine good_seq fun K32 hK32 => ?_
    refine good_region rfl ?_
    refine ev_q rfl (q_assign (by conv => lhs; whnf) ?_)
    refine ev_nil (hK32 _ ?_); clear hK32
    refine good_ret ?_
    repeat (first | refine thenQ_ret ?_ | refine blockQ_ret ?_)
    refine ret_tmp (st := _) rfl (by conv => lhs; whnf) rfl ?_
    clear hK2
    first | exact fT ((wave_iff (all_fin hJ (by omega))).1 (by omega)) | exact fF (fun h => by have := h.1; omega) | exact fF (wave_no hp (by simp only [okAt]; grind)) | exact fF (wave_no hp0 (by simp only [okAt]; grind))

-- laws.eqStep
set_option maxRecDepth 20000 in
theorem D_laws_eqStep (a b c d : Int)  : Den Try.prog 64 [.agg [.s (.int .i64 a), .s (.int .i64 b)], .agg [.s (.int .i64 c), .s (.int .i64 d)]] (.s (.bool (decide (a = c ∧ b = d)))) := by
  refine den_of_good Try.func64 (by decide) rfl (Nat.le_of_ble_eq_true rfl) ?_
  refine good_seq fun K1 hK1 => ?_
  refine good_region rfl ?_
  refine ev_k rfl (k_box (by conv => lhs; whnf) rfl rfl rfl ?_)
  refine ev_k rfl (k_box (by conv => lhs; whnf) rfl rfl rfl ?_)
  refine ev_q rfl (q_assign (by conv => lhs; whnf) ?_)
  refine ev_nil (hK1 _ ?_); clear hK1
  refine good_seq fun K2 hK2 => ?_
  refine good_seq fun K3 hK3 => ?_
  refine good_region rfl ?_
  refine ev_q rfl (q_fieldAddrP fO77_0 rfl rfl ?_)
  refine ev_q rfl (q_load tA2 rfl ?_)
  refine ev_q rfl (q_fieldAddrP fO77_0 rfl rfl ?_)
  refine ev_q rfl (q_load tA2 rfl ?_)
  refine ev_q rfl (q_int rfl rfl ?_)
  intro b4 hb4; cases b4
  · replace hb4 := neF hb4
    refine ev_nil (hK3 _ ?_); clear hK3
    refine good_condF rfl ?_
    refine good_skip (hK2 _ ?_); clear hK2
    refine good_seq fun K5 hK5 => ?_
    refine good_seq fun K6 hK6 => ?_
    refine good_region rfl ?_
    refine ev_q rfl (q_fieldAddrP fO77_1 rfl rfl ?_)
    refine ev_q rfl (q_load tA2 rfl ?_)
    refine ev_q rfl (q_fieldAddrP fO77_1 rfl rfl ?_)
    refine ev_q rfl (q_load tA2 rfl ?_)
    refine ev_q rfl (q_int rfl rfl ?_)
    intro b7 hb7; cases b7
    · replace hb7 := neF hb7
      refine ev_nil (hK6 _ ?_); clear hK6
      refine good_condF rfl ?_
      refine good_skip (hK5 _ ?_); clear hK5
      refine good_seq fun K8 hK8 => ?_
      refine good_region rfl ?_
      refine ev_q rfl (q_assign (by conv => lhs; whnf) ?_)
      refine ev_nil (hK8 _ ?_); clear hK8
      refine good_ret ?_
      repeat (first | refine thenQ_ret ?_ | refine blockQ_ret ?_)
      refine ret_tmp (st := _) rfl (by conv => lhs; whnf) rfl ?_
      first | rfl | exact fT (by first | omega | grind) | exact fF (by first | omega | grind) | exact fT' (by first | omega | grind) | (exfalso; first | omega | grind)
    · replace hb7 := neT hb7
      refine ev_nil (hK6 _ ?_); clear hK6
      refine good_condT rfl ?_
      refine good_seq fun K9 hK9 => ?_
      refine good_region rfl ?_
      refine ev_q rfl (q_assign (by conv => lhs; whnf) ?_)
      refine ev_nil (hK9 _ ?_); clear hK9
      refine good_ret ?_
      repeat (first | refine thenQ_ret ?_ | refine blockQ_ret ?_)
      refine ret_tmp (st := _) rfl (by conv => lhs; whnf) rfl ?_
      clear hK5
      first | rfl | exact fT (by first | omega | grind) | exact fF (by first | omega | grind) | exact fT' (by first | omega | grind) | (exfalso; first | omega | grind)
  · replace hb4 := neT hb4
    refine ev_nil (hK3 _ ?_); clear hK3
    refine good_condT rfl ?_
    refine good_seq fun K10 hK10 => ?_
    refine good_region rfl ?_
    refine ev_q rfl (q_assign (by conv => lhs; whnf) ?_)
    refine ev_nil (hK10 _ ?_); clear hK10
    refine good_ret ?_
    repeat (first | refine thenQ_ret ?_ | refine blockQ_ret ?_)
    refine ret_tmp (st := _) rfl (by conv => lhs; whnf) rfl ?_
    clear hK2
    first | rfl | exact fT (by first | omega | grind) | exact fF (by first | omega | grind) | exact fT' (by first | omega | grind) | (exfalso; first | omega | grind)

-- laws.eqStepS
set_option maxRecDepth 20000 in
theorem D_laws_eqStepS (xs : List (Int × Int)) (hx : xs.length ≤ 8796093022208) : Den Try.prog 30 [.lst 2 (xs.map stp), .lst 2 (xs.map stp)] (.s (.bool true)) := by
  refine den_of_good Try.func30 (by decide) rfl (Nat.le_of_ble_eq_true rfl) ?_
  refine good_seq fun K1 hK1 => ?_
  refine good_region rfl ?_
  refine ev_q rfl (q_assign (by conv => lhs; whnf) ?_)
  refine ev_nil (hK1 _ ?_); clear hK1
  refine good_seq fun K2 hK2 => ?_
  refine good_seq fun K3 hK3 => ?_
  refine good_region rfl ?_
  refine ev_q rfl (q_move (by conv => lhs; whnf) ?_)
  refine ev_q rfl (q_len tEs43 rfl ?_)
  intro n4 hn4
  try simp only [List.length_map] at hn4
  refine ev_q rfl (q_move (by conv => lhs; whnf) ?_)
  refine ev_q rfl (q_len tEs43 rfl ?_)
  intro n5 hn5
  try simp only [List.length_map] at hn5
  refine ev_q rfl (q_int rfl rfl ?_)
  intro b6 hb6; cases b6
  · replace hb6 := neF hb6
    refine ev_nil (hK3 _ ?_); clear hK3
    refine good_condF rfl ?_
    refine good_skip (hK2 _ ?_); clear hK2
    refine good_seq fun K7 hK7 => ?_
    refine good_seq fun K8 hK8 => ?_
    refine good_region rfl ?_
    refine ev_q rfl (q_assign (by conv => lhs; whnf) ?_)
    refine ev_nil (hK8 _ ?_); clear hK8
    refine good_block ?_
    refine good_loop (α := Nat) (fun i => { env := upd (upd (upd ((fun _ => .junk)) 0 (.lst 2 (xs.map stp))) 1 (.lst 2 (xs.map stp))) 5 (.s (.int .i64 i)), H := fun _ => none }) (fun i => i ≤ xs.length) (fun i => xs.length - i) 0 ?_ ?_ ?_
    · show 0 ≤ _; omega
    · refine sub_weak ?_ ?_
      · exact weakH_none _
      · refine weakE_upd ?e5 ?r5 (weakE_upd ?e1 ?r1 (weakE_upd ?e0 ?r0 (weakE_junk _ _)))
        case e0 => first | rfl | exact fI (by omega) | (simp_all)
        case r0 => intro h hh; cases hh
        case e1 => first | rfl | exact fI (by omega) | (simp_all)
        case r1 => intro h hh; cases hh
        case e5 => first | rfl | exact fI (by omega) | (simp_all)
        case r5 => intro h hh; cases hh
    · rintro i hI
      refine good_seq fun K9 hK9 => ?_
      refine good_seq fun K10 hK10 => ?_
      refine good_region rfl ?_
      refine ev_q rfl (q_move (by conv => lhs; whnf) ?_)
      refine ev_q rfl (q_move (by conv => lhs; whnf) ?_)
      refine ev_q rfl (q_len tEs43 rfl ?_)
      intro n11 hn11
      try simp only [List.length_map] at hn11
      refine ev_q rfl (q_int rfl rfl ?_)
      intro b12 hb12; cases b12
      · replace hb12 := dF hb12
        refine ev_nil (hK10 _ ?_); clear hK10
        refine good_condF rfl ?_
        refine good_exit ?_
        repeat (first | refine thenQ_exit ?_ | refine blockQ_pass rfl ?_)
        refine blockQ_exit (hK7 _ ?_); clear hK7
        refine good_seq fun K13 hK13 => ?_
        refine good_region rfl ?_
        refine ev_q rfl (q_assign (by conv => lhs; whnf) ?_)
        refine ev_nil (hK13 _ ?_); clear hK13
        refine good_ret ?_
        repeat (first | refine thenQ_ret ?_ | refine blockQ_ret ?_)
        refine ret_tmp (st := _) rfl (by conv => lhs; whnf) rfl ?_
        clear hK9
        first | rfl | (exfalso; omega)
      · replace hb12 := dT hb12
        obtain ⟨p, hp⟩ := getL (xs := xs) (n := (i : Int)) (by omega) (by omega)
        replace hp : xs[i]? = some p := hp
        refine ev_nil (hK10 _ ?_); clear hK10
        refine good_condT rfl ?_
        refine good_skip (hK9 _ ?_); clear hK9
        refine good_seq fun K14 hK14 => ?_
        refine good_block ?_
        refine good_seq fun K15 hK15 => ?_
        refine good_draw 10 hmix (by kernel_rfl) rfl ?_
        refine qo_q rfl (q_move (by conv => lhs; whnf) ?_)
        refine qo_q rfl (q_move (by conv => lhs; whnf) ?_)
        refine qo_q rfl (q_idx tE43 rfl rfl (by exact Int.natCast_nonneg _) (by exact map_get hp) rfl ?_)
        refine qo_q rfl (q_loadA tA77 rfl rfl rfl rfl ?_)
        refine qo_q rfl (q_move (by conv => lhs; whnf) ?_)
        refine qo_q rfl (q_move (by conv => lhs; whnf) ?_)
        refine qo_q rfl (q_idx tE43 rfl rfl (by exact Int.natCast_nonneg _) (by exact map_get hp) rfl ?_)
        refine qo_q rfl (q_loadA tA77 rfl rfl rfl rfl ?_)
        refine qo_q rfl (q_callB rfl rfl rfl (D_laws_eqStep ..) ?_)
        intro b16 hb16; cases b16
        · first | replace hb16 := dF hb16 | skip
          refine qo_q rfl (q_not rfl rfl ?_)
          refine qo_nil ?_
          refine ev_nil (hK15 _ ?_); clear hK15
          refine good_condT rfl ?_
          refine good_seq fun K17 hK17 => ?_
          refine good_region rfl ?_
          refine ev_q rfl (q_assign (by conv => lhs; whnf) ?_)
          refine ev_nil (hK17 _ ?_); clear hK17
          refine good_ret ?_
          repeat (first | refine thenQ_ret ?_ | refine blockQ_ret ?_)
          refine ret_tmp (st := _) rfl (by conv => lhs; whnf) rfl ?_
          clear hK7 hK14
          first | rfl | (exfalso; omega)
        · first | replace hb16 := dT hb16 | skip
          refine qo_q rfl (q_not rfl rfl ?_)
          refine qo_nil ?_
          refine ev_nil (hK15 _ ?_); clear hK15
          refine good_condF rfl ?_
          refine good_skip (hK14 _ ?_); clear hK14
          refine good_region rfl ?_
          refine ev_q rfl (q_move (by conv => lhs; whnf) ?_)
          refine ev_q rfl (q_int rfl rfl ?_)
          intro n18 hn18
          replace hn18 := in64 hn18 (by omega) (by omega)
          refine ev_q rfl (q_assign (by conv => lhs; whnf) ?_)
          refine ev_nil ?_
          clear hK7
          refine ⟨i + 1, ?_, ?_, ?_⟩
          · show _ ≤ _; omega
          · first | omega | (simp only []; omega) | (dsimp only; omega)
          · refine sub_weak ?_ ?_
            · exact weakH_none _
            · refine weakE_upd ?e5 ?r5 (weakE_upd ?e1 ?r1 (weakE_upd ?e0 ?r0 (weakE_junk _ _)))
              case e0 => first | rfl | exact fI (by omega) | (simp_all)
              case r0 => intro h hh; cases hh
              case e1 => first | rfl | exact fI (by omega) | (simp_all)
              case r1 => intro h hh; cases hh
              case e5 => first | rfl | exact fI (by omega) | (simp_all)
              case r5 => intro h hh; cases hh
  · replace hb6 := neT hb6
    refine ev_nil (hK3 _ ?_); clear hK3
    refine good_condT rfl ?_
    refine good_seq fun K19 hK19 => ?_
    refine good_region rfl ?_
    refine ev_q rfl (q_assign (by conv => lhs; whnf) ?_)
    refine ev_nil (hK19 _ ?_); clear hK19
    refine good_ret ?_
    repeat (first | refine thenQ_ret ?_ | refine blockQ_ret ?_)
    refine ret_tmp (st := _) rfl (by conv => lhs; whnf) rfl ?_
    clear hK2
    first | rfl | (exfalso; omega)

-- spec.l00Min
set_option maxRecDepth 20000 in
theorem D_spec_l00Min (a b : Int)  : Den Try.prog 83 [.s (.int .i64 a), .s (.int .i64 b)] (.s (.int .i64 (if a < b then a else b))) := by
  refine den_of_good Try.func83 (by decide) rfl (Nat.le_of_ble_eq_true rfl) ?_
  refine good_seq fun K1 hK1 => ?_
  refine good_region rfl ?_
  refine ev_q rfl (q_assign (by conv => lhs; whnf) ?_)
  refine ev_nil (hK1 _ ?_); clear hK1
  refine good_seq fun K2 hK2 => ?_
  refine good_seq fun K3 hK3 => ?_
  refine good_region rfl ?_
  refine ev_q rfl (q_move (by conv => lhs; whnf) ?_)
  refine ev_q rfl (q_move (by conv => lhs; whnf) ?_)
  refine ev_q rfl (q_int rfl rfl ?_)
  intro b4 hb4; cases b4
  · replace hb4 := dF hb4
    refine ev_nil (hK3 _ ?_); clear hK3
    refine good_condF rfl ?_
    refine good_skip (hK2 _ ?_); clear hK2
    refine good_seq fun K5 hK5 => ?_
    refine good_region rfl ?_
    refine ev_q rfl (q_move (by conv => lhs; whnf) ?_)
    refine ev_q rfl (q_assign (by conv => lhs; whnf) ?_)
    refine ev_nil (hK5 _ ?_); clear hK5
    refine good_ret ?_
    repeat (first | refine thenQ_ret ?_ | refine blockQ_ret ?_)
    refine ret_tmp (st := _) rfl (by conv => lhs; whnf) rfl ?_
    first | rfl | exact fI (by first | omega | grind) | (exfalso; first | omega | grind)
  · replace hb4 := dT hb4
    refine ev_nil (hK3 _ ?_); clear hK3
    refine good_condT rfl ?_
    refine good_seq fun K6 hK6 => ?_
    refine good_region rfl ?_
    refine ev_q rfl (q_move (by conv => lhs; whnf) ?_)
    refine ev_q rfl (q_assign (by conv => lhs; whnf) ?_)
    refine ev_nil (hK6 _ ?_); clear hK6
    refine good_ret ?_
    repeat (first | refine thenQ_ret ?_ | refine blockQ_ret ?_)
    refine ret_tmp (st := _) rfl (by conv => lhs; whnf) rfl ?_
    clear hK2
    first | rfl | exact fI (by first | omega | grind) | (exfalso; first | omega | grind)

-- spec.l00Max
set_option maxRecDepth 20000 in
theorem D_spec_l00Max (a b : Int)  : Den Try.prog 84 [.s (.int .i64 a), .s (.int .i64 b)] (.s (.int .i64 (if a > b then a else b))) := by
  refine den_of_good Try.func84 (by decide) rfl (Nat.le_of_ble_eq_true rfl) ?_
  refine good_seq fun K1 hK1 => ?_
  refine good_region rfl ?_
  refine ev_q rfl (q_assign (by conv => lhs; whnf) ?_)
  refine ev_nil (hK1 _ ?_); clear hK1
  refine good_seq fun K2 hK2 => ?_
  refine good_seq fun K3 hK3 => ?_
  refine good_region rfl ?_
  refine ev_q rfl (q_move (by conv => lhs; whnf) ?_)
  refine ev_q rfl (q_move (by conv => lhs; whnf) ?_)
  refine ev_q rfl (q_int rfl rfl ?_)
  intro b4 hb4; cases b4
  · replace hb4 := dF hb4
    refine ev_nil (hK3 _ ?_); clear hK3
    refine good_condF rfl ?_
    refine good_skip (hK2 _ ?_); clear hK2
    refine good_seq fun K5 hK5 => ?_
    refine good_region rfl ?_
    refine ev_q rfl (q_move (by conv => lhs; whnf) ?_)
    refine ev_q rfl (q_assign (by conv => lhs; whnf) ?_)
    refine ev_nil (hK5 _ ?_); clear hK5
    refine good_ret ?_
    repeat (first | refine thenQ_ret ?_ | refine blockQ_ret ?_)
    refine ret_tmp (st := _) rfl (by conv => lhs; whnf) rfl ?_
    first | rfl | exact fI (by first | omega | grind) | (exfalso; first | omega | grind)
  · replace hb4 := dT hb4
    refine ev_nil (hK3 _ ?_); clear hK3
    refine good_condT rfl ?_
    refine good_seq fun K6 hK6 => ?_
    refine good_region rfl ?_
    refine ev_q rfl (q_move (by conv => lhs; whnf) ?_)
    refine ev_q rfl (q_assign (by conv => lhs; whnf) ?_)
    refine ev_nil (hK6 _ ?_); clear hK6
    refine good_ret ?_
    repeat (first | refine thenQ_ret ?_ | refine blockQ_ret ?_)
    refine ret_tmp (st := _) rfl (by conv => lhs; whnf) rfl ?_
    clear hK2
    first | rfl | exact fI (by first | omega | grind) | (exfalso; first | omega | grind)

-- spec.RangeOf
set_option maxRecDepth 20000 in
theorem D_spec_RangeOf (xs : List (Int × Int)) (hx : xs.length ≤ 8796093022208) : Den Try.prog 47 [.lst 2 (xs.map stp)] (.tup [.s (.int .i64 (if waveOk xs then loG xs (hd2 xs) xs.length else 0)), .s (.int .i64 (if waveOk xs then hiG xs (hd2 xs) xs.length else 0)), .s (.int .i64 (if waveOk xs then 0 else 1))]) := by
  refine den_of_good Try.func47 (by decide) rfl (Nat.le_of_ble_eq_true rfl) ?_
  refine good_seq fun K1 hK1 => ?_
  refine good_region rfl ?_
  refine ev_q rfl (q_assign (by conv => lhs; whnf) ?_)
  refine ev_q rfl (q_assign (by conv => lhs; whnf) ?_)
  refine ev_q rfl (q_assign (by conv => lhs; whnf) ?_)
  refine ev_nil (hK1 _ ?_); clear hK1
  refine good_seq fun K2 hK2 => ?_
  refine good_seq fun K3 hK3 => ?_
  refine good_region rfl ?_
  refine ev_q rfl (q_move (by conv => lhs; whnf) ?_)
  refine ev_q rfl (q_callB rfl rfl rfl (D_spec_l09Ok _ hx) ?_)
  intro b4 hb4; cases b4
  · first | replace hb4 := dF hb4 | skip
    refine ev_q rfl (q_not rfl rfl ?_)
    refine ev_nil (hK3 _ ?_); clear hK3
    refine good_condT rfl ?_
    refine good_seq fun K5 hK5 => ?_
    refine good_region rfl ?_
    refine ev_q rfl (q_assign (by conv => lhs; whnf) ?_)
    refine ev_q rfl (q_assign (by conv => lhs; whnf) ?_)
    refine ev_q rfl (q_assign (by conv => lhs; whnf) ?_)
    refine ev_nil (hK5 _ ?_); clear hK5
    refine good_ret ?_
    repeat (first | refine thenQ_ret ?_ | refine blockQ_ret ?_)
    refine ret_many rfl ?_
    refine res_tmp (by conv => lhs; whnf) rfl ?_
    refine res_tmp (by conv => lhs; whnf) rfl ?_
    refine res_tmp (by conv => lhs; whnf) rfl ?_
    refine res_nil ?_
    clear hK2
    first | exact fTup1 (fI (by rw [if_neg (by assumption)])) (fTup1 (fI (by rw [if_neg (by assumption)])) (fTup1 (fI (by rw [if_neg (by assumption)])) rfl)) | exact fTup1 (fI (by rw [if_pos ok, hd2_eq hz]; unfold loG; rw [take_all (by omega : xs.length ≤ i)])) (fTup1 (fI (by rw [if_pos ok, hd2_eq hz]; unfold hiG; rw [take_all (by omega : xs.length ≤ i)])) (fTup1 (fI (by rw [if_pos ok])) rfl))
  · first | replace hb4 := dT hb4 | skip
    have ok : waveOk xs := by assumption
    have hl1 := ok.1
    obtain ⟨z, hz⟩ := getL (xs := xs) (n := 0) (by omega) (by omega)
    replace hz : xs[0]? = some z := hz
    refine ev_q rfl (q_not rfl rfl ?_)
    refine ev_nil (hK3 _ ?_); clear hK3
    refine good_condF rfl ?_
    refine good_skip (hK2 _ ?_); clear hK2
    refine good_seq fun K6 hK6 => ?_
    refine good_region rfl ?_
    refine ev_q rfl (q_move (by conv => lhs; whnf) ?_)
    refine ev_q rfl (q_idx tE43 rfl rfl (by decide) (by exact map_get hz) rfl ?_)
    refine ev_q rfl (q_fieldAddr fO77_1 rfl rfl ?_)
    refine ev_q rfl (q_load tA2 rfl ?_)
    refine ev_q rfl (q_assign (by conv => lhs; whnf) ?_)
    refine ev_nil (hK6 _ ?_); clear hK6
    refine good_seq fun K7 hK7 => ?_
    refine good_region rfl ?_
    refine ev_q rfl (q_move (by conv => lhs; whnf) ?_)
    refine ev_q rfl (q_assign (by conv => lhs; whnf) ?_)
    refine ev_nil (hK7 _ ?_); clear hK7
    refine good_seq fun K8 hK8 => ?_
    refine good_seq fun K9 hK9 => ?_
    refine good_region rfl ?_
    refine ev_q rfl (q_assign (by conv => lhs; whnf) ?_)
    refine ev_nil (hK9 _ ?_); clear hK9
    refine good_block ?_
    refine good_loop (α := Nat) (fun i => { env := upd (upd (upd (upd ((fun _ => .junk)) 0 (.lst 2 (xs.map stp))) 5 (.s (.int .i64 (loG xs z.2 i)))) 6 (.s (.int .i64 (hiG xs z.2 i)))) 7 (.s (.int .i64 i)), H := fun _ => none }) (fun i => 1 ≤ i ∧ i ≤ xs.length) (fun i => xs.length - i) 1 ?_ ?_ ?_
    · exact ⟨by omega, by omega⟩
    · refine sub_weak ?_ ?_
      · exact weakH_none _
      · refine weakE_upd ?e7 ?r7 (weakE_upd ?e6 ?r6 (weakE_upd ?e5 ?r5 (weakE_upd ?e0 ?r0 (weakE_junk _ _))))
        case e0 => first | rfl | exact fI (by omega) | (simp_all)
        case r0 => intro h hh; cases hh
        case e5 => first | rfl | exact fI (by omega) | (first | exact fI (by rw [lo1 hz]) | exact fI (by omega))
        case r5 => intro h hh; cases hh
        case e6 => first | rfl | exact fI (by omega) | (first | exact fI (by rw [hi1 hz]) | exact fI (by omega))
        case r6 => intro h hh; cases hh
        case e7 => first | rfl | exact fI (by omega) | (simp_all)
        case r7 => intro h hh; cases hh
    · rintro i ⟨hI1, hI⟩
      refine good_seq fun K10 hK10 => ?_
      refine good_seq fun K11 hK11 => ?_
      refine good_region rfl ?_
      refine ev_q rfl (q_move (by conv => lhs; whnf) ?_)
      refine ev_q rfl (q_move (by conv => lhs; whnf) ?_)
      refine ev_q rfl (q_len tEs43 rfl ?_)
      intro n12 hn12
      try simp only [List.length_map] at hn12
      refine ev_q rfl (q_int rfl rfl ?_)
      intro b13 hb13; cases b13
      · replace hb13 := dF hb13
        refine ev_nil (hK11 _ ?_); clear hK11
        refine good_condF rfl ?_
        refine good_exit ?_
        repeat (first | refine thenQ_exit ?_ | refine blockQ_pass rfl ?_)
        refine blockQ_exit (hK8 _ ?_); clear hK8
        refine good_seq fun K14 hK14 => ?_
        refine good_region rfl ?_
        refine ev_q rfl (q_move (by conv => lhs; whnf) ?_)
        refine ev_q rfl (q_move (by conv => lhs; whnf) ?_)
        refine ev_q rfl (q_assign (by conv => lhs; whnf) ?_)
        refine ev_q rfl (q_assign (by conv => lhs; whnf) ?_)
        refine ev_q rfl (q_assign (by conv => lhs; whnf) ?_)
        refine ev_nil (hK14 _ ?_); clear hK14
        refine good_ret ?_
        repeat (first | refine thenQ_ret ?_ | refine blockQ_ret ?_)
        refine ret_many rfl ?_
        refine res_tmp (by conv => lhs; whnf) rfl ?_
        refine res_tmp (by conv => lhs; whnf) rfl ?_
        refine res_tmp (by conv => lhs; whnf) rfl ?_
        refine res_nil ?_
        clear hK10
        first | exact fTup1 (fI (by rw [if_neg (by assumption)])) (fTup1 (fI (by rw [if_neg (by assumption)])) (fTup1 (fI (by rw [if_neg (by assumption)])) rfl)) | exact fTup1 (fI (by rw [if_pos ok, hd2_eq hz]; unfold loG; rw [take_all (by omega : xs.length ≤ i)])) (fTup1 (fI (by rw [if_pos ok, hd2_eq hz]; unfold hiG; rw [take_all (by omega : xs.length ≤ i)])) (fTup1 (fI (by rw [if_pos ok])) rfl))
      · replace hb13 := dT hb13
        obtain ⟨p, hp⟩ := getL (xs := xs) (n := (i : Int)) (by omega) (by omega)
        replace hp : xs[i]? = some p := hp
        have hlo : loG xs z.2 (i + 1) = loF (loG xs z.2 i) p := foldG hp
        have hhi : hiG xs z.2 (i + 1) = hiF (hiG xs z.2 i) p := foldG hp
        simp only [loF, hiF] at hlo hhi
        refine ev_nil (hK11 _ ?_); clear hK11
        refine good_condT rfl ?_
        refine good_skip (hK10 _ ?_); clear hK10
        refine good_seq fun K15 hK15 => ?_
        refine good_block ?_
        refine good_seq fun K16 hK16 => ?_
        refine good_region rfl ?_
        refine ev_q rfl (q_move (by conv => lhs; whnf) ?_)
        refine ev_q rfl (q_move (by conv => lhs; whnf) ?_)
        refine ev_q rfl (q_move (by conv => lhs; whnf) ?_)
        refine ev_q rfl (q_idx tE43 rfl rfl (by exact Int.natCast_nonneg _) (by exact map_get hp) rfl ?_)
        refine ev_q rfl (q_fieldAddr fO77_1 rfl rfl ?_)
        refine ev_q rfl (q_load tA2 rfl ?_)
        refine ev_q rfl (q_callI rfl rfl rfl (D_spec_l00Min ..) ?_)
        intro n17 hn17
        refine ev_q rfl (q_assign (by conv => lhs; whnf) ?_)
        refine ev_nil (hK16 _ ?_); clear hK16
        refine good_region rfl ?_
        refine ev_q rfl (q_move (by conv => lhs; whnf) ?_)
        refine ev_q rfl (q_move (by conv => lhs; whnf) ?_)
        refine ev_q rfl (q_move (by conv => lhs; whnf) ?_)
        refine ev_q rfl (q_idx tE43 rfl rfl (by exact Int.natCast_nonneg _) (by exact map_get hp) rfl ?_)
        refine ev_q rfl (q_fieldAddr fO77_1 rfl rfl ?_)
        refine ev_q rfl (q_load tA2 rfl ?_)
        refine ev_q rfl (q_callI rfl rfl rfl (D_spec_l00Max ..) ?_)
        intro n18 hn18
        refine ev_q rfl (q_assign (by conv => lhs; whnf) ?_)
        refine ev_nil (hK15 _ ?_); clear hK15
        refine good_region rfl ?_
        refine ev_q rfl (q_move (by conv => lhs; whnf) ?_)
        refine ev_q rfl (q_int rfl rfl ?_)
        intro n19 hn19
        replace hn19 := in64 hn19 (by omega) (by omega)
        refine ev_q rfl (q_assign (by conv => lhs; whnf) ?_)
        refine ev_nil ?_
        clear hK8
        refine ⟨i + 1, ?_, ?_, ?_⟩
        · exact ⟨by omega, by omega⟩
        · first | omega | (simp only []; omega) | (dsimp only; omega)
        · refine sub_weak ?_ ?_
          · exact weakH_none _
          · refine weakE_upd ?e7 ?r7 (weakE_upd ?e6 ?r6 (weakE_upd ?e5 ?r5 (weakE_upd ?e0 ?r0 (weakE_junk _ _))))
            case e0 => first | rfl | exact fI (by omega) | (simp_all)
            case r0 => intro h hh; cases hh
            case e5 => first | rfl | exact fI (by omega) | (first | exact fI (by rw [lo1 hz]) | exact fI (by omega))
            case r5 => intro h hh; cases hh
            case e6 => first | rfl | exact fI (by omega) | (first | exact fI (by rw [hi1 hz]) | exact fI (by omega))
            case r6 => intro h hh; cases hh
            case e7 => first | rfl | exact fI (by omega) | (simp_all)
            case r7 => intro h hh; cases hh

-- impl.RangeOf
set_option maxRecDepth 20000 in
theorem D_impl_RangeOf (xs : List (Int × Int)) (hx : xs.length ≤ 8796093022208) : Den Try.prog 48 [.lst 2 (xs.map stp)] (.tup [.s (.int .i64 (if waveOk xs then loG xs (hd2 xs) xs.length else 0)), .s (.int .i64 (if waveOk xs then hiG xs (hd2 xs) xs.length else 0)), .s (.int .i64 (if waveOk xs then 0 else 1))]) := by
  refine den_of_good Try.func48 (by decide) rfl (Nat.le_of_ble_eq_true rfl) ?_
  refine good_seq fun K1 hK1 => ?_
  refine good_region rfl ?_
  refine ev_q rfl (q_assign (by conv => lhs; whnf) ?_)
  refine ev_q rfl (q_assign (by conv => lhs; whnf) ?_)
  refine ev_q rfl (q_assign (by conv => lhs; whnf) ?_)
  refine ev_nil (hK1 _ ?_); clear hK1
  refine good_seq fun K2 hK2 => ?_
  refine good_seq fun K3 hK3 => ?_
  refine good_region rfl ?_
  refine ev_q rfl (q_move (by conv => lhs; whnf) ?_)
  refine ev_q rfl (q_callB rfl rfl rfl (D_impl_ValidWave _ hx) ?_)
  intro b4 hb4; cases b4
  · first | replace hb4 := dF hb4 | skip
    refine ev_q rfl (q_not rfl rfl ?_)
    refine ev_nil (hK3 _ ?_); clear hK3
    refine good_condT rfl ?_
    refine good_seq fun K5 hK5 => ?_
    refine good_region rfl ?_
    refine ev_q rfl (q_assign (by conv => lhs; whnf) ?_)
    refine ev_q rfl (q_assign (by conv => lhs; whnf) ?_)
    refine ev_q rfl (q_assign (by conv => lhs; whnf) ?_)
    refine ev_nil (hK5 _ ?_); clear hK5
    refine good_ret ?_
    repeat (first | refine thenQ_ret ?_ | refine blockQ_ret ?_)
    refine ret_many rfl ?_
    refine res_tmp (by conv => lhs; whnf) rfl ?_
    refine res_tmp (by conv => lhs; whnf) rfl ?_
    refine res_tmp (by conv => lhs; whnf) rfl ?_
    refine res_nil ?_
    clear hK2
    first | exact fTup1 (fI (by rw [if_neg (by assumption)])) (fTup1 (fI (by rw [if_neg (by assumption)])) (fTup1 (fI (by rw [if_neg (by assumption)])) rfl)) | exact fTup1 (fI (by rw [if_pos ok, hd2_eq hz]; unfold loG; rw [take_all (by omega : xs.length ≤ i)])) (fTup1 (fI (by rw [if_pos ok, hd2_eq hz]; unfold hiG; rw [take_all (by omega : xs.length ≤ i)])) (fTup1 (fI (by rw [if_pos ok])) rfl))
  · first | replace hb4 := dT hb4 | skip
    have ok : waveOk xs := by assumption
    have hl1 := ok.1
    obtain ⟨z, hz⟩ := getL (xs := xs) (n := 0) (by omega) (by omega)
    replace hz : xs[0]? = some z := hz
    refine ev_q rfl (q_not rfl rfl ?_)
    refine ev_nil (hK3 _ ?_); clear hK3
    refine good_condF rfl ?_
    refine good_skip (hK2 _ ?_); clear hK2
    refine good_seq fun K6 hK6 => ?_
    refine good_draw 10 hmix (by kernel_rfl) rfl ?_
    refine qo_q rfl (q_move (by conv => lhs; whnf) ?_)
    refine qo_q rfl (q_idx tE43 rfl rfl (by decide) (by exact map_get hz) rfl ?_)
    refine qo_q rfl (q_fieldAddr fO77_1 rfl rfl ?_)
    refine qo_q rfl (q_load tA2 rfl ?_)
    refine qo_q rfl (q_move (by conv => lhs; whnf) ?_)
    refine qo_q rfl (q_idx tE43 rfl rfl (by decide) (by exact map_get hz) rfl ?_)
    refine qo_q rfl (q_fieldAddr fO77_1 rfl rfl ?_)
    refine qo_q rfl (q_load tA2 rfl ?_)
    refine qo_q rfl (q_assign (by conv => lhs; whnf) ?_)
    refine qo_q rfl (q_assign (by conv => lhs; whnf) ?_)
    refine qo_nil ?_
    refine ev_nil (hK6 _ ?_); clear hK6
    refine good_seq fun K7 hK7 => ?_
    refine good_seq fun K8 hK8 => ?_
    refine good_region rfl ?_
    refine ev_q rfl (q_move (by conv => lhs; whnf) ?_)
    refine ev_q rfl (q_len tEs43 rfl ?_)
    intro n9 hn9
    try simp only [List.length_map] at hn9
    refine ev_q rfl (q_move (by conv => lhs; whnf) ?_)
    refine ev_nil (hK8 _ ?_); clear hK8
    refine good_block ?_
    refine good_loop (α := Nat) (fun i => { env := upd (upd (upd (upd (upd (upd ((fun _ => .junk)) 0 (.lst 2 (xs.map stp))) 5 (.s (.int .i64 (loG xs z.2 i)))) 6 (.s (.int .i64 (hiG xs z.2 i)))) 20 (.lst 2 (xs.map stp))) 21 (.s (.int .i64 ((xs.length : Int))))) 22 (.s (.int .i64 i)), H := fun _ => none }) (fun i => i ≤ xs.length) (fun i => xs.length - i) 0 ?_ ?_ ?_
    · show 0 ≤ _; omega
    · refine sub_weak ?_ ?_
      · exact weakH_none _
      · refine weakE_upd ?e22 ?r22 (weakE_upd ?e21 ?r21 (weakE_upd ?e20 ?r20 (weakE_upd ?e6 ?r6 (weakE_upd ?e5 ?r5 (weakE_upd ?e0 ?r0 (weakE_junk _ _))))))
        case e0 => first | rfl | exact fI (by omega) | (simp_all)
        case r0 => intro h hh; cases hh
        case e5 => first | rfl | exact fI (by omega) | (first | rfl | exact fI (by omega))
        case r5 => intro h hh; cases hh
        case e6 => first | rfl | exact fI (by omega) | (first | rfl | exact fI (by omega))
        case r6 => intro h hh; cases hh
        case e20 => first | rfl | exact fI (by omega) | (simp_all)
        case r20 => intro h hh; cases hh
        case e21 => first | rfl | exact fI (by omega) | (simp_all)
        case r21 => intro h hh; cases hh
        case e22 => first | rfl | exact fI (by omega) | (simp_all)
        case r22 => intro h hh; cases hh
    · rintro i hI
      refine good_seq fun K10 hK10 => ?_
      refine good_region rfl ?_
      refine ev_q rfl (q_int rfl rfl ?_)
      intro b11 hb11; cases b11
      · replace hb11 := dF hb11
        refine ev_nil (hK10 _ ?_); clear hK10
        refine good_seq fun K12 hK12 => ?_
        refine good_condF rfl ?_
        refine good_exit ?_
        repeat (first | refine thenQ_exit ?_ | refine blockQ_pass rfl ?_)
        refine blockQ_exit (hK7 _ ?_); clear hK7
        refine good_seq fun K13 hK13 => ?_
        refine good_region rfl ?_
        refine ev_q rfl (q_move (by conv => lhs; whnf) ?_)
        refine ev_q rfl (q_move (by conv => lhs; whnf) ?_)
        refine ev_q rfl (q_assign (by conv => lhs; whnf) ?_)
        refine ev_q rfl (q_assign (by conv => lhs; whnf) ?_)
        refine ev_q rfl (q_assign (by conv => lhs; whnf) ?_)
        refine ev_nil (hK13 _ ?_); clear hK13
        refine good_ret ?_
        repeat (first | refine thenQ_ret ?_ | refine blockQ_ret ?_)
        refine ret_many rfl ?_
        refine res_tmp (by conv => lhs; whnf) rfl ?_
        refine res_tmp (by conv => lhs; whnf) rfl ?_
        refine res_tmp (by conv => lhs; whnf) rfl ?_
        refine res_nil ?_
        clear hK12
        first | exact fTup1 (fI (by rw [if_neg (by assumption)])) (fTup1 (fI (by rw [if_neg (by assumption)])) (fTup1 (fI (by rw [if_neg (by assumption)])) rfl)) | exact fTup1 (fI (by rw [if_pos ok, hd2_eq hz]; unfold loG; rw [take_all (by omega : xs.length ≤ i)])) (fTup1 (fI (by rw [if_pos ok, hd2_eq hz]; unfold hiG; rw [take_all (by omega : xs.length ≤ i)])) (fTup1 (fI (by rw [if_pos ok])) rfl))
      · replace hb11 := dT hb11
        obtain ⟨p, hp⟩ := getL (xs := xs) (n := (i : Int)) (by omega) (by omega)
        replace hp : xs[i]? = some p := hp
        have hlo : loG xs z.2 (i + 1) = loF (loG xs z.2 i) p := foldG hp
        have hhi : hiG xs z.2 (i + 1) = hiF (hiG xs z.2 i) p := foldG hp
        simp only [loF, hiF] at hlo hhi
        refine ev_nil (hK10 _ ?_); clear hK10
        refine good_seq fun K14 hK14 => ?_
        refine good_condT rfl ?_
        refine good_skip (hK14 _ ?_); clear hK14
        refine good_seq fun K15 hK15 => ?_
        refine good_block ?_
        refine good_seq fun K16 hK16 => ?_
        refine good_region rfl ?_
        refine ev_q rfl (q_idx tE43 rfl rfl (by exact Int.natCast_nonneg _) (by exact map_get hp) rfl ?_)
        refine ev_q rfl (q_loadA tA77 rfl rfl rfl rfl ?_)
        refine ev_k rfl (k_alloc zA77 rfl ?_)
        refine ev_k rfl (k_store sz77 rfl (by conv => lhs; whnf) rfl rfl rfl (Nat.le_of_ble_eq_true rfl) rfl ?_)
        refine ev_nil (hK16 _ ?_); clear hK16
        refine good_draw 10 hmix (by kernel_rfl) rfl ?_
        refine qo_q rfl (q_move (by conv => lhs; whnf) ?_)
        refine qo_q rfl (q_fieldAddrP fO77_1 rfl rfl ?_)
        refine qo_q rfl (q_load tA2 rfl ?_)
        refine qo_q rfl (q_min rfl rfl ?_)
        intro n17 hn17; simp only [mxI, mnI] at hn17
        refine qo_q rfl (q_move (by conv => lhs; whnf) ?_)
        refine qo_q rfl (q_fieldAddrP fO77_1 rfl rfl ?_)
        refine qo_q rfl (q_load tA2 rfl ?_)
        refine qo_q rfl (q_max rfl rfl ?_)
        intro n18 hn18; simp only [mxI, mnI] at hn18
        refine qo_q rfl (q_assign (by conv => lhs; whnf) ?_)
        refine qo_q rfl (q_assign (by conv => lhs; whnf) ?_)
        refine qo_nil ?_
        refine ev_nil (hK15 _ ?_); clear hK15
        refine good_region rfl ?_
        refine ev_q rfl (q_int rfl rfl ?_)
        intro n19 hn19
        replace hn19 := in64 hn19 (by omega) (by omega)
        refine ev_q rfl (q_move (by conv => lhs; whnf) ?_)
        refine ev_nil ?_
        clear hK7
        refine ⟨i + 1, ?_, ?_, ?_⟩
        · show _ ≤ _; omega
        · first | omega | (simp only []; omega) | (dsimp only; omega)
        · refine sub_weak ?_ ?_
          · exact weakH_none _
          · refine weakE_upd ?e22 ?r22 (weakE_upd ?e21 ?r21 (weakE_upd ?e20 ?r20 (weakE_upd ?e6 ?r6 (weakE_upd ?e5 ?r5 (weakE_upd ?e0 ?r0 (weakE_junk _ _))))))
            case e0 => first | rfl | exact fI (by omega) | (simp_all)
            case r0 => intro h hh; cases hh
            case e5 => first | rfl | exact fI (by omega) | (first | rfl | exact fI (by omega))
            case r5 => intro h hh; cases hh
            case e6 => first | rfl | exact fI (by omega) | (first | rfl | exact fI (by omega))
            case r6 => intro h hh; cases hh
            case e20 => first | rfl | exact fI (by omega) | (simp_all)
            case r20 => intro h hh; cases hh
            case e21 => first | rfl | exact fI (by omega) | (simp_all)
            case r21 => intro h hh; cases hh
            case e22 => first | rfl | exact fI (by omega) | (simp_all)
            case r22 => intro h hh; cases hh

-- laws.FnExactRangeOf
set_option maxRecDepth 20000 in
theorem D_laws_FnExactRangeOf (xs : List (Int × Int)) (hx : xs.length ≤ 140737488351232) : Den Try.prog 14 [.lst 2 (xs.map stp)] (.s (.bool true)) := by
  refine den_of_good Try.func14 (by decide) rfl (Nat.le_of_ble_eq_true rfl) ?_
  refine good_seq fun K1 hK1 => ?_
  refine good_region rfl ?_
  refine ev_q rfl (q_assign (by conv => lhs; whnf) ?_)
  refine ev_nil (hK1 _ ?_); clear hK1
  refine good_seq fun K2 hK2 => ?_
  refine good_region rfl ?_
  refine ev_q rfl (q_assign (by conv => lhs; whnf) ?_)
  refine ev_nil (hK2 _ ?_); clear hK2
  refine good_seq fun K3 hK3 => ?_
  refine good_region rfl ?_
  refine ev_q rfl (q_move (by conv => lhs; whnf) ?_)
  refine ev_q rfl (q_move (by conv => lhs; whnf) ?_)
  refine ev_q rfl (q_callI rfl rfl rfl (D_laws_szStepS _ _ hx (by omega)) ?_)
  intro n4 hn4
  refine ev_q rfl (q_assign (by conv => lhs; whnf) ?_)
  refine ev_nil (hK3 _ ?_); clear hK3
  refine good_seq fun K5 hK5 => ?_
  refine good_seq fun K6 hK6 => ?_
  refine good_region rfl ?_
  refine ev_q rfl (q_move (by conv => lhs; whnf) ?_)
  refine ev_q rfl (q_int rfl rfl ?_)
  intro b7 hb7; cases b7
  · replace hb7 := dF hb7
    refine ev_nil (hK6 _ ?_); clear hK6
    refine good_condF rfl ?_
    refine good_skip (hK5 _ ?_); clear hK5
    refine good_seq fun K8 hK8 => ?_
    refine good_region rfl ?_
    refine ev_q rfl (q_move (by conv => lhs; whnf) ?_)
    refine ev_q rfl (q_call rfl rfl rfl (D_laws_toStepS _ (by omega)) rfl ?_)
    refine ev_q rfl (q_call rfl rfl rfl (D_spec_RangeOf _ (by omega)) rfl ?_)
    refine ev_q rfl (q_move (by conv => lhs; whnf) ?_)
    refine ev_q rfl (q_extractI rfl rfl ?_)
    intro n9 hn9
    refine ev_q rfl (q_extractI rfl rfl ?_)
    intro n10 hn10
    refine ev_q rfl (q_extractI rfl rfl ?_)
    intro n11 hn11
    refine ev_q rfl (q_assign (by conv => lhs; whnf) ?_)
    refine ev_q rfl (q_assign (by conv => lhs; whnf) ?_)
    refine ev_q rfl (q_assign (by conv => lhs; whnf) ?_)
    refine ev_nil (hK8 _ ?_); clear hK8
    refine good_seq fun K12 hK12 => ?_
    refine good_region rfl ?_
    refine ev_q rfl (q_move (by conv => lhs; whnf) ?_)
    refine ev_q rfl (q_call rfl rfl rfl (D_laws_toStepS _ (by omega)) rfl ?_)
    refine ev_q rfl (q_assign (by conv => lhs; whnf) ?_)
    refine ev_nil (hK12 _ ?_); clear hK12
    refine good_seq fun K13 hK13 => ?_
    refine good_region rfl ?_
    refine ev_q rfl (q_move (by conv => lhs; whnf) ?_)
    refine ev_q rfl (q_call rfl rfl rfl (D_impl_RangeOf _ (by omega)) rfl ?_)
    refine ev_q rfl (q_move (by conv => lhs; whnf) ?_)
    refine ev_q rfl (q_extractI rfl rfl ?_)
    intro n14 hn14
    refine ev_q rfl (q_extractI rfl rfl ?_)
    intro n15 hn15
    refine ev_q rfl (q_extractI rfl rfl ?_)
    intro n16 hn16
    refine ev_q rfl (q_assign (by conv => lhs; whnf) ?_)
    refine ev_q rfl (q_assign (by conv => lhs; whnf) ?_)
    refine ev_q rfl (q_assign (by conv => lhs; whnf) ?_)
    refine ev_nil (hK13 _ ?_); clear hK13
    refine good_seq fun K17 hK17 => ?_
    refine good_seq fun K18 hK18 => ?_
    refine good_region rfl ?_
    refine ev_q rfl (q_move (by conv => lhs; whnf) ?_)
    refine ev_q rfl (q_move (by conv => lhs; whnf) ?_)
    refine ev_q rfl (q_int rfl rfl ?_)
    intro b19 hb19; cases b19
    · replace hb19 := neF hb19
      refine ev_q rfl (q_move (by conv => lhs; whnf) ?_)
      refine ev_q rfl (q_move (by conv => lhs; whnf) ?_)
      refine ev_q rfl (q_move (by conv => lhs; whnf) ?_)
      refine ev_q rfl (q_int rfl rfl ?_)
      intro b20 hb20; cases b20
      · replace hb20 := neF hb20
        refine ev_q rfl (q_pickF rfl (by conv => lhs; whnf) ?_)
        refine ev_q rfl (q_move (by conv => lhs; whnf) ?_)
        refine ev_q rfl (q_move (by conv => lhs; whnf) ?_)
        refine ev_q rfl (q_move (by conv => lhs; whnf) ?_)
        refine ev_q rfl (q_int rfl rfl ?_)
        intro b21 hb21; cases b21
        · replace hb21 := neF hb21
          refine ev_q rfl (q_pickF rfl (by conv => lhs; whnf) ?_)
          refine ev_nil (hK18 _ ?_); clear hK18
          refine good_condF rfl ?_
          refine good_skip (hK17 _ ?_); clear hK17
          refine good_seq fun K22 hK22 => ?_
          refine good_seq fun K23 hK23 => ?_
          refine good_region rfl ?_
          refine ev_q rfl (q_move (by conv => lhs; whnf) ?_)
          refine ev_q rfl (q_move (by conv => lhs; whnf) ?_)
          refine ev_q rfl (q_call rfl rfl rfl (D_laws_toStepS _ (by omega)) rfl ?_)
          refine ev_q rfl (q_callB rfl rfl rfl (D_laws_eqStepS _ (by omega)) ?_)
          intro b24 hb24; cases b24
          · first | replace hb24 := dF hb24 | skip
            refine ev_q rfl (q_not rfl rfl ?_)
            refine ev_nil (hK23 _ ?_); clear hK23
            refine good_condT rfl ?_
            refine good_seq fun K25 hK25 => ?_
            refine good_region rfl ?_
            refine ev_q rfl (q_assign (by conv => lhs; whnf) ?_)
            refine ev_nil (hK25 _ ?_); clear hK25
            refine good_ret ?_
            repeat (first | refine thenQ_ret ?_ | refine blockQ_ret ?_)
            refine ret_tmp (st := _) rfl (by conv => lhs; whnf) rfl ?_
            clear hK22
            first | rfl | exact fT (by first | omega | grind) | exact fF (by first | omega | grind) | exact fT' (by first | omega | grind) | (exfalso; first | omega | grind)
          · first | replace hb24 := dT hb24 | skip
            refine ev_q rfl (q_not rfl rfl ?_)
            refine ev_nil (hK23 _ ?_); clear hK23
            refine good_condF rfl ?_
            refine good_skip (hK22 _ ?_); clear hK22
            refine good_seq fun K26 hK26 => ?_
            refine good_region rfl ?_
            refine ev_q rfl (q_assign (by conv => lhs; whnf) ?_)
            refine ev_nil (hK26 _ ?_); clear hK26
            refine good_ret ?_
            repeat (first | refine thenQ_ret ?_ | refine blockQ_ret ?_)
            refine ret_tmp (st := _) rfl (by conv => lhs; whnf) rfl ?_
            first | rfl | exact fT (by first | omega | grind) | exact fF (by first | omega | grind) | exact fT' (by first | omega | grind) | (exfalso; first | omega | grind)
        · replace hb21 := neT hb21
          refine ev_q rfl (q_pickF rfl (by conv => lhs; whnf) ?_)
          refine ev_nil (hK18 _ ?_); clear hK18
          refine good_condT rfl ?_
          refine good_seq fun K27 hK27 => ?_
          refine good_region rfl ?_
          refine ev_q rfl (q_assign (by conv => lhs; whnf) ?_)
          refine ev_nil (hK27 _ ?_); clear hK27
          refine good_ret ?_
          repeat (first | refine thenQ_ret ?_ | refine blockQ_ret ?_)
          refine ret_tmp (st := _) rfl (by conv => lhs; whnf) rfl ?_
          clear hK17
          first | rfl | exact fT (by first | omega | grind) | exact fF (by first | omega | grind) | exact fT' (by first | omega | grind) | (exfalso; first | omega | grind)
      · replace hb20 := neT hb20
        refine ev_q rfl (q_pickF rfl (by conv => lhs; whnf) ?_)
        refine ev_q rfl (q_move (by conv => lhs; whnf) ?_)
        refine ev_skip rfl ?_
        refine ev_skip rfl ?_
        refine ev_skip rfl ?_
        refine ev_q rfl (q_pickT rfl (by conv => lhs; whnf) ?_)
        refine ev_nil (hK18 _ ?_); clear hK18
        refine good_condT rfl ?_
        refine good_seq fun K28 hK28 => ?_
        refine good_region rfl ?_
        refine ev_q rfl (q_assign (by conv => lhs; whnf) ?_)
        refine ev_nil (hK28 _ ?_); clear hK28
        refine good_ret ?_
        repeat (first | refine thenQ_ret ?_ | refine blockQ_ret ?_)
        refine ret_tmp (st := _) rfl (by conv => lhs; whnf) rfl ?_
        clear hK17
        first | rfl | exact fT (by first | omega | grind) | exact fF (by first | omega | grind) | exact fT' (by first | omega | grind) | (exfalso; first | omega | grind)
    · replace hb19 := neT hb19
      refine ev_q rfl (q_move (by conv => lhs; whnf) ?_)
      refine ev_skip rfl ?_
      refine ev_skip rfl ?_
      refine ev_skip rfl ?_
      refine ev_q rfl (q_pickT rfl (by conv => lhs; whnf) ?_)
      refine ev_q rfl (q_move (by conv => lhs; whnf) ?_)
      refine ev_skip rfl ?_
      refine ev_skip rfl ?_
      refine ev_skip rfl ?_
      refine ev_q rfl (q_pickT rfl (by conv => lhs; whnf) ?_)
      refine ev_nil (hK18 _ ?_); clear hK18
      refine good_condT rfl ?_
      refine good_seq fun K29 hK29 => ?_
      refine good_region rfl ?_
      refine ev_q rfl (q_assign (by conv => lhs; whnf) ?_)
      refine ev_nil (hK29 _ ?_); clear hK29
      refine good_ret ?_
      repeat (first | refine thenQ_ret ?_ | refine blockQ_ret ?_)
      refine ret_tmp (st := _) rfl (by conv => lhs; whnf) rfl ?_
      clear hK17
      first | rfl | exact fT (by first | omega | grind) | exact fF (by first | omega | grind) | exact fT' (by first | omega | grind) | (exfalso; first | omega | grind)
  · replace hb7 := dT hb7
    refine ev_nil (hK6 _ ?_); clear hK6
    refine good_condT rfl ?_
    refine good_seq fun K30 hK30 => ?_
    refine good_region rfl ?_
    refine ev_q rfl (q_assign (by conv => lhs; whnf) ?_)
    refine ev_nil (hK30 _ ?_); clear hK30
    refine good_ret ?_
    repeat (first | refine thenQ_ret ?_ | refine blockQ_ret ?_)
    refine ret_tmp (st := _) rfl (by conv => lhs; whnf) rfl ?_
    clear hK5
    first | rfl | exact fT (by first | omega | grind) | exact fF (by first | omega | grind) | exact fT' (by first | omega | grind) | (exfalso; first | omega | grind)

end Go.Proofs.Ytlmigknkcghpcaa.DFnExactRangeOf
