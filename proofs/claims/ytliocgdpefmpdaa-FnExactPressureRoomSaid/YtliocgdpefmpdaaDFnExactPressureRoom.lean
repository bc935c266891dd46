/- Walks through the functions that FnExactPressureRoom reaches: what each answers. -/
import Derived.Test.YtliocgdpefmpdaaEvO
import Derived.Test.YtliocgdpefmpdaaProg
set_option linter.unusedVariables false
set_option linter.unusedSimpArgs false
namespace Go.Proofs.Ytliocgdpefmpdaa.DFnExactPressureRoom
open Go Go.RowKit Go.Proofs Go.Proofs.Ytliocgdpefmpdaa Go.Proofs.Ytliocgdpefmpdaa.Ev
def ci (n : Int) : AV := .s (.int .i64 n)
def within (xs : List Int) (lo hi : Int) : Prop := ∀ (j : Nat) (q : Int), xs[j]? = some q → lo ≤ q ∧ q ≤ hi
noncomputable instance (xs : List Int) (lo hi : Int) : Decidable (within xs lo hi) := Classical.propDecidable _
theorem all_extI {α : Type} {xs : List α} {i : Nat} {Q : Nat → α → Prop} {p : α} (hJ : ∀ j q, j < i → xs[j]? = some q → Q j q) (hp : xs[i]? = some p) (h : Q i p) : ∀ j q, j < i + 1 → xs[j]? = some q → Q j q := by
  intro j q hj hq
  by_cases e : j = i
  · subst e; rw [hp] at hq; cases hq; exact h
  · exact hJ j q (by omega) hq
theorem all_finI {α : Type} {xs : List α} {i : Nat} {Q : Nat → α → Prop} (hJ : ∀ j q, j < i → xs[j]? = some q → Q j q) (hi : xs.length ≤ i) : ∀ j q, xs[j]? = some q → Q j q := by
  intro j q hq
  exact hJ j q (by have := (List.getElem?_eq_some_iff.1 hq).1; omega) hq
theorem fi_some {α : Type} {xs : List α} {p : α → Prop} [DecidablePred p] {i : Nat} {q : α} (hq : xs[i]? = some q) (hJ : ∀ (j : Nat) (q : α), j < i → xs[j]? = some q → ¬ p q) (h : p q) : xs.findIdx? (fun x => decide (p x)) = some i := by
  rw [List.findIdx?_eq_some_iff_getElem]
  obtain ⟨hl, he⟩ := List.getElem?_eq_some_iff.1 hq
  refine ⟨hl, by simpa [he] using h, fun j hj => ?_⟩
  simpa using hJ j _ hj (List.getElem?_eq_getElem (by omega))
theorem fi_none {α : Type} {xs : List α} {p : α → Prop} [DecidablePred p] (hJ : ∀ (j : Nat) (q : α), xs[j]? = some q → ¬ p q) : xs.findIdx? (fun x => decide (p x)) = none := by
  rw [List.findIdx?_eq_none_iff]
  intro x hx
  obtain ⟨j, hj⟩ := List.getElem?_of_mem hx
  simpa using hJ j x hj
theorem fi_any {α : Type} {xs : List α} {p : α → Prop} [DecidablePred p] : (0 : Int) ≤ (match xs.findIdx? (fun x => decide (p x)) with | some j => (j : Int) | none => -1) ↔ ∃ x ∈ xs, p x := by
  cases h : xs.findIdx? (fun x => decide (p x)) with
  | none =>
    rw [List.findIdx?_eq_none_iff] at h
    simp at h ⊢
    exact h
  | some j =>
    rw [List.findIdx?_eq_some_iff_getElem] at h
    obtain ⟨hl, h1, _⟩ := h
    simp only [Int.natCast_nonneg, true_iff]
    exact ⟨_, List.getElem_mem hl, by simpa using h1⟩
theorem within_any {xs : List Int} {lo hi : Int} : within xs lo hi ↔ ¬ ∃ x ∈ xs, ¬ (lo ≤ x ∧ x ≤ hi) := by
  constructor
  · intro h ⟨x, hx, hn⟩
    obtain ⟨j, hj⟩ := List.getElem?_of_mem hx
    exact hn (h j x hj)
  · intro h j q hq
    apply Classical.byContradiction
    intro hn
    exact h ⟨q, List.mem_of_getElem? hq, hn⟩
def mkC (k : Int) (xs : List Int) (i : Nat) : List AV := ((List.range i).map fun (j : Nat) => ci (k + j)) ++ (xs.drop i).map ci
theorem mkC0 {k : Int} {xs : List Int} : mkC k xs 0 = xs.map ci := by simp [mkC]
theorem mkC_len {k : Int} {xs : List Int} {i : Nat} (h : i ≤ xs.length) : (mkC k xs i).length = xs.length := by simp [mkC]; omega
theorem mkC_get {k : Int} {xs : List Int} {i : Nat} {p : Int} (h : xs[i]? = some p) : (mkC k xs i)[i]? = some (ci p) := by
  unfold mkC
  rw [List.getElem?_append_right (by simp)]
  simp [h]
theorem mkC_set {k : Int} {xs : List Int} {i : Nat} (h : i < xs.length) : (mkC k xs i).set i (ci (k + i)) = mkC k xs (i + 1) := by
  unfold mkC
  rw [List.set_append_right _ _ (by simp)]
  simp only [List.length_map, List.length_range, Nat.sub_self]
  rw [List.drop_eq_getElem_cons h, List.map_cons, List.set_cons_zero, List.range_succ, List.map_append]
  simp
theorem mkC_held {k : Int} {xs : List Int} {i : Nat} (h : i < xs.length) : (mkC k xs xs.length)[i]? = some (ci (k + i)) := by
  unfold mkC
  rw [List.getElem?_append_left (by simpa using h)]
  simp [h]
theorem mkC_take {k : Int} {xs : List Int} : (mkC k xs xs.length).take xs.length = mkC k xs xs.length := takeLen (by rw [mkC_len (Nat.le_refl _)]; exact Nat.le_refl _)
theorem pure_ci {xs : List Int} : (flats (xs.map ci)).all noMem = true := by
  induction xs with
  | nil => rfl
  | cons x xs ih => simp only [List.map_cons, flats, List.flatMap_cons, List.all_append, Bool.and_eq_true]; exact ⟨rfl, ih⟩
def ixs (p : Nat → Prop) [DecidablePred p] : Nat → List Int
  | 0 => []
  | n + 1 => if p n then ixs p n ++ [(n : Int)] else ixs p n
theorem ixs_T {p : Nat → Prop} [DecidablePred p] {n : Nat} (h : p n) : ixs p (n + 1) = ixs p n ++ [(n : Int)] := if_pos h
theorem ixs_F {p : Nat → Prop} [DecidablePred p] {n : Nat} (h : ¬ p n) : ixs p (n + 1) = ixs p n := if_neg h
theorem ixs_len {p : Nat → Prop} [DecidablePred p] : ∀ n : Nat, (ixs p n).length ≤ n
  | 0 => Nat.le_refl _
  | n + 1 => by
    have := ixs_len (p := p) n
    by_cases h : p n
    · rw [ixs_T h]; simp; omega
    · rw [ixs_F h]; omega
def gd (xs : List Int) (i : Nat) : Int := xs.getD i 0
theorem gd_eq {xs : List Int} {i : Nat} {p : Int} (h : xs[i]? = some p) : gd xs i = p := by simp [gd, List.getD, h]
def bl (x0 y0 x1 y1 x : Int) : Int := if x ≤ x0 ∨ x1 ≤ x0 then y0 else if x ≥ x1 then y1 else y0 + dr ((y1 - y0) * (x - x0)) (x1 - x0)
def tP : List Int := [1000, 2000, 10000, 50000, 101325, 200000, 400000, 600000, 1000000, 1200000]
def tV : List Int := [700, 1750, 4580, 8135, 9961, 12023, 14361, 15883, 17988, 18796]
def boil (x : Int) : Int := if x ≤ 2000 then bl 1000 700 2000 1750 x else if x ≤ 10000 then bl 2000 1750 10000 4580 x else if x ≤ 50000 then bl 10000 4580 50000 8135 x else if x ≤ 101325 then bl 50000 8135 101325 9961 x else if x ≤ 200000 then bl 101325 9961 200000 12023 x else if x ≤ 400000 then bl 200000 12023 400000 14361 x else if x ≤ 600000 then bl 400000 14361 600000 15883 x else if x ≤ 1000000 then bl 600000 15883 1000000 17988 x else bl 1000000 17988 1200000 18796 x
def boilC : List AV := [.s (.int .i64 1000), .s (.int .i64 700), .s (.int .i64 2000), .s (.int .i64 1750), .s (.int .i64 10000), .s (.int .i64 4580), .s (.int .i64 50000), .s (.int .i64 8135), .s (.int .i64 101325), .s (.int .i64 9961), .s (.int .i64 200000), .s (.int .i64 12023), .s (.int .i64 400000), .s (.int .i64 14361), .s (.int .i64 600000), .s (.int .i64 15883), .s (.int .i64 1000000), .s (.int .i64 17988), .s (.int .i64 1200000), .s (.int .i64 18796)]
theorem tabP {k o : Nat} {p : Int} (h : tP[k]? = some p) (ho : o = 2 * k) : boilC[o]? = some (.s (.int .i64 p)) := by
  subst ho
  have hk : k < 10 := (List.getElem?_eq_some_iff.1 h).1
  rcases (by omega : k = 0 ∨ k = 1 ∨ k = 2 ∨ k = 3 ∨ k = 4 ∨ k = 5 ∨ k = 6 ∨ k = 7 ∨ k = 8 ∨ k = 9) with rfl | rfl | rfl | rfl | rfl | rfl | rfl | rfl | rfl | rfl <;> (simp [tP] at h; subst h; rfl)
theorem tabV {k o : Nat} {p : Int} (h : tV[k]? = some p) (ho : o = 2 * k + 1) : boilC[o]? = some (.s (.int .i64 p)) := by
  subst ho
  have hk : k < 10 := (List.getElem?_eq_some_iff.1 h).1
  rcases (by omega : k = 0 ∨ k = 1 ∨ k = 2 ∨ k = 3 ∨ k = 4 ∨ k = 5 ∨ k = 6 ∨ k = 7 ∨ k = 8 ∨ k = 9) with rfl | rfl | rfl | rfl | rfl | rfl | rfl | rfl | rfl | rfl <;> (simp [tV] at h; subst h; rfl)
theorem tP_bd {k : Nat} {p : Int} (h : tP[k]? = some p) : 1000 ≤ p ∧ p ≤ 1200000 := by
  have := List.mem_of_getElem? h
  simp only [tP, List.mem_cons, List.not_mem_nil, or_false] at this
  omega
theorem tV_bd {k : Nat} {p : Int} (h : tV[k]? = some p) : 700 ≤ p ∧ p ≤ 18796 := by
  have := List.mem_of_getElem? h
  simp only [tV, List.mem_cons, List.not_mem_nil, or_false] at this
  omega
theorem boil_at {i : Nat} {a b c d x : Int} (h9 : i ≤ 8) (ha : tP[i]? = some a) (hb : tV[i]? = some b) (hc : tP[i + 1]? = some c) (hd : tV[i + 1]? = some d) (hlo : i = 0 ∨ a < x) (hhi : i = 8 ∨ x ≤ c) : bl a b c d x = boil x := by
  rcases (by omega : i = 0 ∨ i = 1 ∨ i = 2 ∨ i = 3 ∨ i = 4 ∨ i = 5 ∨ i = 6 ∨ i = 7 ∨ i = 8) with rfl | rfl | rfl | rfl | rfl | rfl | rfl | rfl | rfl <;>
    (simp [tP] at ha hc; simp [tV] at hb hd; subst ha hb hc hd; unfold boil; repeat (first | rw [if_pos (by omega)] | rw [if_neg (by omega)]))
theorem boil_at2 {i : Nat} {a b c d x : Int} (h9 : i ≤ 8) (ha : tP[i]? = some a) (hb : tV[i]? = some b) (hc : tP[i + 1]? = some c) (hd : tV[i + 1]? = some d) (hlo : i = 0 ∨ a ≤ x) (hhi : i = 8 ∨ x < c) : bl a b c d x = boil x := by
  by_cases e : i = 0 ∨ a < x
  · exact boil_at h9 ha hb hc hd e (by omega)
  · have hx : x = a := by omega
    subst hx
    rcases (by omega : i = 1 ∨ i = 2 ∨ i = 3 ∨ i = 4 ∨ i = 5 ∨ i = 6 ∨ i = 7 ∨ i = 8) with rfl | rfl | rfl | rfl | rfl | rfl | rfl | rfl <;>
      (simp [tP] at ha hc; simp [tV] at hb hd; subst ha hb hc hd; decide)
def srN (p : Int → Prop) [DecidablePred p] : Nat → Nat
  | 0 => 0
  | n + 1 => if srN p n = n then (if p n then n else n + 1) else srN p n
theorem srN_spec (p : Int → Prop) [DecidablePred p] : ∀ n : Nat, srN p n ≤ n ∧ (∀ j : Nat, j < srN p n → ¬ p j) ∧ (srN p n < n → p (srN p n))
  | 0 => ⟨Nat.le_refl _, fun j h => by simp [srN] at h, fun h => by omega⟩
  | n + 1 => by
    obtain ⟨h1, h2, h3⟩ := srN_spec p n
    unfold srN
    by_cases e : srN p n = n
    · rw [if_pos e]
      rw [e] at h2
      by_cases hp : p n
      · rw [if_pos hp]; exact ⟨by omega, h2, fun _ => hp⟩
      · rw [if_neg hp]
        refine ⟨Nat.le_refl _, fun j hj => ?_, fun h => by omega⟩
        by_cases ej : j = n
        · subst ej; exact hp
        · exact h2 j (by omega)
    · rw [if_neg e]
      exact ⟨by omega, h2, fun _ => h3 (by omega)⟩
theorem srN_uniq {p : Int → Prop} [DecidablePred p] {n k : Nat} (h1 : k ≤ n) (h2 : ∀ j : Nat, j < k → ¬ p j) (h3 : k < n → p k) : srN p n = k := by
  obtain ⟨g1, g2, g3⟩ := srN_spec p n
  rcases Nat.lt_trichotomy (srN p n) k with h | h | h
  · exact absurd (g3 (by omega)) (h2 _ h)
  · exact h
  · exact absurd (h3 (by omega)) (g2 _ h)
theorem shr1 {x n : Int} (h : n = x.fdiv (2 ^ (min (1 : Int).toNat IntKind.u64.bits))) (h0 : 0 ≤ x) : n = x / 2 := by
  rw [h, Int.fdiv_eq_ediv_of_nonneg _ (by decide)]; rfl
theorem wrapU {m n : Int} (h : n = IntKind.u64.wrap m) (h0 : 0 ≤ m) (h1 : m ≤ 9223372036854775807) : n = m := by
  have e : IntKind.u64.wrap m = m % 18446744073709551616 := by simp [IntKind.wrap, IntKind.bits, IntKind.signed]
  rw [e] at h; omega
def lst (p : Int → Prop) [DecidablePred p] (lo hi : Int) : Int := lo + srN (fun i => p (lo + i)) (hi - lo + 1).toNat
theorem lst_spec (p : Int → Prop) [DecidablePred p] {lo hi : Int} (h : lo ≤ hi + 1) : lo ≤ lst p lo hi ∧ lst p lo hi ≤ hi + 1 ∧ (∀ a, lo ≤ a → a < lst p lo hi → ¬ p a) ∧ (lst p lo hi ≤ hi → p (lst p lo hi)) := by
  obtain ⟨h1, h2, h3⟩ := srN_spec (fun i => p (lo + i)) (hi - lo + 1).toNat
  refine ⟨by unfold lst; omega, by unfold lst; omega, fun a ha hl => ?_, fun hl => h3 (by unfold lst at hl; omega)⟩
  have := h2 (a - lo).toNat (by unfold lst at hl; omega)
  rwa [show lo + ((a - lo).toNat : Int) = a by omega] at this
theorem lst_uniq {p : Int → Prop} [DecidablePred p] {lo hi k : Int} (h0 : lo ≤ k) (h1 : k ≤ hi + 1) (h2 : ∀ a, lo ≤ a → a < k → ¬ p a) (h3 : k ≤ hi → p k) : lst p lo hi = k := by
  obtain ⟨g0, g1, g2, g3⟩ := lst_spec p (lo := lo) (hi := hi) (by omega)
  by_cases e : lst p lo hi < k
  · exact absurd (g3 (by omega)) (h2 _ g0 e)
  · by_cases e2 : k < lst p lo hi
    · exact absurd (h3 (by omega)) (g2 _ h0 e2)
    · omega
theorem dr_nn {a b : Int} (hb : 0 < b) (ha : 0 ≤ a) : dr a b = (2 * a + b) / (2 * b) := by
  unfold dr drP; rw [if_neg (by omega), if_neg (by omega)]
theorem dr_mono {a a' b : Int} (hb : 0 < b) (ha : 0 ≤ a) (h : a ≤ a') : dr a b ≤ dr a' b := by
  rw [dr_nn hb ha, dr_nn hb (by omega)]
  exact Int.ediv_le_ediv (by omega) (by omega)
theorem dr_ge0 {a b : Int} (hb : 0 < b) (ha : 0 ≤ a) : 0 ≤ dr a b := by
  rw [dr_nn hb ha]
  exact Int.ediv_nonneg (by omega) (by omega)
theorem dr_le {a b k : Int} (hb : 0 < b) (ha : 0 ≤ a) (h : a ≤ k * b) : dr a b ≤ k := by
  rw [dr_nn hb ha]
  have e : 2 * (k * b) = k * (2 * b) := by rw [Int.mul_left_comm]
  have : (2 * a + b) < (k + 1) * (2 * b) := by rw [Int.add_mul, Int.one_mul, ← e]; omega
  have := Int.ediv_lt_of_lt_mul (by omega : 0 < 2 * b) this
  omega
theorem bl_bd {x0 y0 x1 y1 : Int} (x : Int) (hx : x0 < x1) (hy : y0 ≤ y1) : y0 ≤ bl x0 y0 x1 y1 x ∧ bl x0 y0 x1 y1 x ≤ y1 := by
  unfold bl
  split
  · omega
  · split
    · omega
    · have h0 := Int.mul_nonneg (show 0 ≤ y1 - y0 by omega) (show 0 ≤ x - x0 by omega)
      have h1 := Int.mul_le_mul_of_nonneg_left (show x - x0 ≤ x1 - x0 by omega) (show 0 ≤ y1 - y0 by omega)
      have h2 := dr_ge0 (b := x1 - x0) (by omega) h0
      have h3 := dr_le (b := x1 - x0) (by omega) h0 h1
      omega
theorem bl_mono {x0 y0 x1 y1 x y : Int} (hx : x0 < x1) (hy : y0 ≤ y1) (h : x ≤ y) : bl x0 y0 x1 y1 x ≤ bl x0 y0 x1 y1 y := by
  have b1 := bl_bd x hx hy
  have b2 := bl_bd y hx hy
  by_cases h1 : x ≤ x0 ∨ x1 ≤ x0
  · have : bl x0 y0 x1 y1 x = y0 := if_pos h1
    omega
  · by_cases h2 : y ≥ x1
    · have : bl x0 y0 x1 y1 y = y1 := by unfold bl; rw [if_neg (by omega), if_pos h2]
      omega
    · unfold bl
      rw [if_neg h1, if_neg (by omega), if_neg (by omega), if_neg h2]
      have h0 := Int.mul_nonneg (show 0 ≤ y1 - y0 by omega) (show 0 ≤ x - x0 by omega)
      have h3 := Int.mul_le_mul_of_nonneg_left (show x - x0 ≤ y - x0 by omega) (show 0 ≤ y1 - y0 by omega)
      have := dr_mono (b := x1 - x0) (by omega) h0 h3
      omega
set_option maxHeartbeats 4000000 in
theorem boil_mono {x y : Int} (h : x ≤ y) : boil x ≤ boil y := by
  have a1 := bl_bd (x0 := 1000) (y0 := 700) (x1 := 2000) (y1 := 1750) x (by omega) (by omega)
  have a2 := bl_bd (x0 := 2000) (y0 := 1750) (x1 := 10000) (y1 := 4580) x (by omega) (by omega)
  have a3 := bl_bd (x0 := 10000) (y0 := 4580) (x1 := 50000) (y1 := 8135) x (by omega) (by omega)
  have a4 := bl_bd (x0 := 50000) (y0 := 8135) (x1 := 101325) (y1 := 9961) x (by omega) (by omega)
  have a5 := bl_bd (x0 := 101325) (y0 := 9961) (x1 := 200000) (y1 := 12023) x (by omega) (by omega)
  have a6 := bl_bd (x0 := 200000) (y0 := 12023) (x1 := 400000) (y1 := 14361) x (by omega) (by omega)
  have a7 := bl_bd (x0 := 400000) (y0 := 14361) (x1 := 600000) (y1 := 15883) x (by omega) (by omega)
  have a8 := bl_bd (x0 := 600000) (y0 := 15883) (x1 := 1000000) (y1 := 17988) x (by omega) (by omega)
  have a9 := bl_bd (x0 := 1000000) (y0 := 17988) (x1 := 1200000) (y1 := 18796) x (by omega) (by omega)
  have b1 := bl_bd (x0 := 1000) (y0 := 700) (x1 := 2000) (y1 := 1750) y (by omega) (by omega)
  have b2 := bl_bd (x0 := 2000) (y0 := 1750) (x1 := 10000) (y1 := 4580) y (by omega) (by omega)
  have b3 := bl_bd (x0 := 10000) (y0 := 4580) (x1 := 50000) (y1 := 8135) y (by omega) (by omega)
  have b4 := bl_bd (x0 := 50000) (y0 := 8135) (x1 := 101325) (y1 := 9961) y (by omega) (by omega)
  have b5 := bl_bd (x0 := 101325) (y0 := 9961) (x1 := 200000) (y1 := 12023) y (by omega) (by omega)
  have b6 := bl_bd (x0 := 200000) (y0 := 12023) (x1 := 400000) (y1 := 14361) y (by omega) (by omega)
  have b7 := bl_bd (x0 := 400000) (y0 := 14361) (x1 := 600000) (y1 := 15883) y (by omega) (by omega)
  have b8 := bl_bd (x0 := 600000) (y0 := 15883) (x1 := 1000000) (y1 := 17988) y (by omega) (by omega)
  have b9 := bl_bd (x0 := 1000000) (y0 := 17988) (x1 := 1200000) (y1 := 18796) y (by omega) (by omega)
  have c1 := bl_mono (x0 := 1000) (y0 := 700) (x1 := 2000) (y1 := 1750) (by omega) (by omega) h
  have c2 := bl_mono (x0 := 2000) (y0 := 1750) (x1 := 10000) (y1 := 4580) (by omega) (by omega) h
  have c3 := bl_mono (x0 := 10000) (y0 := 4580) (x1 := 50000) (y1 := 8135) (by omega) (by omega) h
  have c4 := bl_mono (x0 := 50000) (y0 := 8135) (x1 := 101325) (y1 := 9961) (by omega) (by omega) h
  have c5 := bl_mono (x0 := 101325) (y0 := 9961) (x1 := 200000) (y1 := 12023) (by omega) (by omega) h
  have c6 := bl_mono (x0 := 200000) (y0 := 12023) (x1 := 400000) (y1 := 14361) (by omega) (by omega) h
  have c7 := bl_mono (x0 := 400000) (y0 := 14361) (x1 := 600000) (y1 := 15883) (by omega) (by omega) h
  have c8 := bl_mono (x0 := 600000) (y0 := 15883) (x1 := 1000000) (y1 := 17988) (by omega) (by omega) h
  have c9 := bl_mono (x0 := 1000000) (y0 := 17988) (x1 := 1200000) (y1 := 18796) (by omega) (by omega) h
  unfold boil
  split <;> (first | (rw [if_pos (by omega)]; omega) | skip) <;> (repeat' split) <;> omega
theorem boil_top : boil 1200000 = 18796 := by decide
def stm (t : Int) : Int := lst (fun n => boil n ≥ t) 1000 1200000
theorem stm_spec (t : Int) : 1000 ≤ stm t ∧ stm t ≤ 1200001 ∧ (∀ a, 1000 ≤ a → a < stm t → ¬ boil a ≥ t) ∧ (stm t ≤ 1200000 → boil (stm t) ≥ t) := by
  have := lst_spec (fun n => boil n ≥ t) (lo := 1000) (hi := 1200000) (by omega)
  exact this
theorem stm_mono {s t : Int} (h : s ≤ t) : stm s ≤ stm t := by
  obtain ⟨a1, a2, a3, a4⟩ := stm_spec s
  obtain ⟨b1, b2, b3, b4⟩ := stm_spec t
  by_cases e : stm t < stm s
  · have h1 := a3 _ b1 e
    have h2 := b4 (by omega)
    omega
  · omega
theorem stm_bd (t : Int) : 1000 ≤ stm t ∧ stm t ≤ 1200001 := ⟨(stm_spec t).1, (stm_spec t).2.1⟩
theorem stm_uniq {t h : Int} (h0 : 1000 ≤ h) (h1 : h ≤ 1200000) (h2 : ∀ a, 1000 ≤ a → a < h → ¬ boil a ≥ t) (h3 : boil h ≥ t) : stm t = h :=
  lst_uniq (p := fun n => boil n ≥ t) h0 (by omega) h2 (fun _ => h3)
def hot (p m : Int) : Int := lst (fun n => stm n + m > p) 0 18000
theorem hot_spec (p m : Int) : 0 ≤ hot p m ∧ hot p m ≤ 18001 := by
  have := lst_spec (fun n => stm n + m > p) (lo := 0) (hi := 18000) (by omega)
  exact ⟨this.1, this.2.1⟩
theorem hot_uniq {p m k : Int} (h0 : 0 ≤ k) (h1 : k ≤ 18001) (h2 : ∀ a, 0 ≤ a → a < k → ¬ stm a + m > p) (h3 : k ≤ 18000 → stm k + m > p) : hot p m = k :=
  lst_uniq (p := fun n => stm n + m > p) h0 (by omega) h2 h3
noncomputable def ln (xs ds : List Int) : Int := if within xs (-100000000) 100000000 ∧ within ds 0 18000 then (if xs.length = ds.length ∧ xs.length ≤ 16 then 0 else 7) else 2
noncomputable def bc (xs ds : List Int) (m lim : Int) : Int := if (0 ≤ m ∧ m ≤ 1000000) ∧ (0 ≤ lim ∧ lim ≤ 100000000) then ln xs ds else 2
theorem ln_ok {xs ds : List Int} (h : ln xs ds = 0) : (xs.length = ds.length ∧ xs.length ≤ 16) ∧ within xs (-100000000) 100000000 ∧ within ds 0 18000 := by
  unfold ln at h
  split at h
  · split at h
    · exact ⟨by assumption, by assumption⟩
    · omega
  · omega
theorem bc_ok {xs ds : List Int} {m lim : Int} (h : bc xs ds m lim = 0) : ((0 ≤ m ∧ m ≤ 1000000) ∧ (0 ≤ lim ∧ lim ≤ 100000000)) ∧ (xs.length = ds.length ∧ xs.length ≤ 16) ∧ within xs (-100000000) 100000000 ∧ within ds 0 18000 := by
  unfold bc at h
  split at h
  · exact ⟨by assumption, ln_ok h⟩
  · omega
theorem bc_zero {xs ds : List Int} {m lim : Int} (h1 : (0 ≤ m ∧ m ≤ 1000000) ∧ (0 ≤ lim ∧ lim ≤ 100000000)) : bc xs ds m lim = ln xs ds := if_pos h1
theorem ln2 {xs ds : List Int} (h : ¬ within xs (-100000000) 100000000 ∨ ¬ within ds 0 18000) : ln xs ds = 2 := by
  unfold ln; rw [if_neg (fun hh => by rcases h with h | h; exact h hh.1; exact h hh.2)]
theorem ln7 {xs ds : List Int} (h1 : within xs (-100000000) 100000000) (h2 : within ds 0 18000) (h : ¬ (xs.length = ds.length ∧ xs.length ≤ 16)) : ln xs ds = 7 := by
  unfold ln; rw [if_pos ⟨h1, h2⟩, if_neg h]
theorem ln0 {xs ds : List Int} (h1 : within xs (-100000000) 100000000) (h2 : within ds 0 18000) (h : xs.length = ds.length ∧ xs.length ≤ 16) : ln xs ds = 0 := by
  unfold ln; rw [if_pos ⟨h1, h2⟩, if_pos h]
theorem within_zero {n : Nat} : within (List.replicate n 0) 0 18000 := by
  intro j q hq
  have := List.mem_of_getElem? hq
  rw [(List.mem_replicate.1 this).2]; omega
noncomputable def thC (xs : List Int) (lim : Int) : Int := bc xs (List.replicate xs.length 0) 0 lim
noncomputable def thL (xs : List Int) (lim : Int) : List Int := if thC xs lim = 0 then ixs (fun i => lim < gd xs i) xs.length else []
theorem thL_no {xs : List Int} {lim : Int} (h : ¬ thC xs lim = 0) : thL xs lim = [] := if_neg h
theorem thL_ok {xs : List Int} {lim : Int} (h : thC xs lim = 0) : thL xs lim = ixs (fun i => lim < gd xs i) xs.length := if_pos h
theorem thL_len {xs : List Int} {lim : Int} : (thL xs lim).length ≤ 16 ∧ (thL xs lim).length ≤ xs.length := by
  by_cases h : thC xs lim = 0
  · rw [thL_ok h]
    have := (bc_ok h).2.1.2
    have := ixs_len (p := fun i => lim < gd xs i) xs.length
    omega
  · rw [thL_no h]; simp
theorem takeRep {n : Nat} : (List.replicate n (zelem [AV.s (.int .i64 0)])).take n = (List.replicate n (0 : Int)).map ci := by rw [takeLen (by simp), List.map_replicate]; rfl
theorem repC {n : Nat} : List.replicate n (zelem [AV.s (.int .i64 0)]) = (List.replicate n (0 : Int)).map ci := by rw [List.map_replicate]; rfl
theorem nodes_p {xs ds : List Int} {i : Nat} {p : Int} (h : within xs (-100000000) 100000000) (hp : xs[i]? = some p) : -100000000 ≤ p ∧ p ≤ 100000000 := h _ _ hp
theorem nodes_q {ds : List Int} {i : Nat} {q : Int} (h : within ds 0 18000) (hq : ds[i]? = some q) : (0 ≤ q ∧ q ≤ 18000) ∧ 1000 ≤ stm q ∧ stm q ≤ 1200001 := ⟨h _ _ hq, stm_bd q⟩
def prG (xs ds : List Int) (m : Int) (i : Nat) : Int := stm (gd ds i) + m - gd xs i
def prL (g : Nat → Int) : Nat → Int
  | 0 => -9223372036854775808
  | n + 1 => if prL g n < g n then g n else prL g n
def prH (h : Nat → Int) : Nat → Int
  | 0 => 9223372036854775807
  | n + 1 => if h n < prH h n then h n else prH h n
theorem prL1 {g : Nat → Int} (h : -9223372036854775808 < g 0) : prL g 1 = g 0 := by simp [prL, h]
theorem prH1 {g : Nat → Int} (h : g 0 < 9223372036854775807) : prH g 1 = g 0 := by simp [prH, h]
theorem prL_s {g : Nat → Int} {n : Nat} : prL g (n + 1) = if prL g n < g n then g n else prL g n := rfl
theorem prH_s {g : Nat → Int} {n : Nat} : prH g (n + 1) = if g n < prH g n then g n else prH g n := rfl
def prh (xs : List Int) (lim : Int) (i : Nat) : Int := lim - gd xs i
theorem prG_eq {xs ds : List Int} {m : Int} {i : Nat} {p q : Int} (hp : xs[i]? = some p) (hq : ds[i]? = some q) : prG xs ds m i = stm q + m - p := by unfold prG; rw [gd_eq hp, gd_eq hq]
theorem prh_eq {xs : List Int} {lim : Int} {i : Nat} {p : Int} (hp : xs[i]? = some p) : prh xs lim i = lim - p := by unfold prh; rw [gd_eq hp]
noncomputable def prC (xs ds : List Int) (m lim : Int) : Int := if bc xs ds m lim = 0 then (if xs.length = 0 then 6 else if prL (prG xs ds m) xs.length > prH (prh xs lim) xs.length then 3 else 0) else bc xs ds m lim
theorem hmix : Try.prog.follows .mixedOrders = true := by kernel_rfl
theorem pl98 : placesA Try.prog 98 = some [(0, 1), (1, 1)] := by kernel_rfl
theorem pl99 : placesA Try.prog 99 = some [(0, 2), (2, 2), (4, 2), (6, 2), (8, 2), (10, 2), (12, 2), (14, 2), (16, 2), (18, 2)] := by kernel_rfl
theorem sz2 : tSz Try.prog 2 = some 1 := by kernel_rfl
theorem sz99 : tSz Try.prog 99 = some 20 := by kernel_rfl
theorem tA2 : tAgg Try.prog 2 = some none := by kernel_rfl
theorem tA60 : tAgg Try.prog 60 = some none := by kernel_rfl
theorem tArr98 : tArr Try.prog 98 = some (2, 1) := by kernel_rfl
theorem tArr99 : tArr Try.prog 99 = some (10, 2) := by kernel_rfl
theorem tB4 : tIsBool Try.prog 4 = true := by kernel_rfl
theorem tBy2 : tBytes Try.prog 2 = some 8 := by kernel_rfl
theorem tE22 : tElem Try.prog 22 = some (2, 1) := by kernel_rfl
theorem tEn98 : tElem Try.prog 98 = none := by kernel_rfl
theorem tEn99 : tElem Try.prog 99 = none := by kernel_rfl
theorem tEs22 : (tElem Try.prog 22).isSome = true := by kernel_rfl
theorem tK3 : tKind Try.prog 3 = some .i64 := by kernel_rfl
theorem tK97 : tKind Try.prog 97 = some .u64 := by kernel_rfl
theorem zA2 : zeroA Try.prog 2 = some [.s (.int .i64 0)] := by kernel_rfl
theorem zA98 : zeroA Try.prog 98 = some [.s (.int .i64 0), .s (.int .i64 0)] := by kernel_rfl
theorem zA99 : zeroA Try.prog 99 = some [.s (.int .i64 0), .s (.int .i64 0), .s (.int .i64 0), .s (.int .i64 0), .s (.int .i64 0), .s (.int .i64 0), .s (.int .i64 0), .s (.int .i64 0), .s (.int .i64 0), .s (.int .i64 0), .s (.int .i64 0), .s (.int .i64 0), .s (.int .i64 0), .s (.int .i64 0), .s (.int .i64 0), .s (.int .i64 0), .s (.int .i64 0), .s (.int .i64 0), .s (.int .i64 0), .s (.int .i64 0)] := by kernel_rfl

-- impl.within
set_option maxRecDepth 20000 in
set_option maxHeartbeats 2000000 in
theorem D_impl_within (a lo hi : Int)  : Den Try.prog 73 [.s (.int .i64 a), .s (.int .i64 lo), .s (.int .i64 hi)] (.s (.bool (decide (lo ≤ a ∧ a ≤ hi)))) := by
  refine den_of_good Try.func73 (by decide) rfl (Nat.le_of_ble_eq_true rfl) (Nat.le_of_ble_eq_true rfl) ?_
  refine good_seq fun K1 hK1 => ?_
  refine good_region rfl ?_
  refine ev_q rfl (q_assign (by conv => lhs; whnf) ?_)
  refine ev_nil (hK1 _ ?_); clear hK1
  refine good_seq fun K2 hK2 => ?_
  refine good_region rfl ?_
  refine ev_q rfl (q_move (by conv => lhs; whnf) ?_)
  refine ev_q rfl (q_move (by conv => lhs; whnf) ?_)
  refine ev_q rfl (q_int rfl rfl ?_)
  intro b3 hb3; cases b3
  · replace hb3 := dF hb3
    refine ev_q rfl (q_move (by conv => lhs; whnf) ?_)
    refine ev_skip rfl ?_
    refine ev_skip rfl ?_
    refine ev_skip rfl ?_
    refine ev_q rfl (q_pickF rfl (by conv => lhs; whnf) ?_)
    refine ev_q rfl (q_assign (by conv => lhs; whnf) ?_)
    refine ev_nil (hK2 _ ?_); clear hK2
    refine good_ret ?_
    repeat (first | refine thenQ_ret ?_ | refine blockQ_ret ?_)
    refine ret_tmp (st := _) rfl (by conv => lhs; whnf) rfl ?_
    first | rfl | exact fT (by first | omega | grind) | exact fF (by first | omega | grind) | exact fT' (by first | omega | grind) | (exfalso; first | omega | grind)
  · replace hb3 := dT hb3
    refine ev_q rfl (q_move (by conv => lhs; whnf) ?_)
    refine ev_q rfl (q_move (by conv => lhs; whnf) ?_)
    refine ev_q rfl (q_move (by conv => lhs; whnf) ?_)
    refine ev_q rfl (q_int rfl rfl ?_)
    intro b4 hb4; cases b4
    · replace hb4 := dF hb4
      refine ev_q rfl (q_pickT rfl (by conv => lhs; whnf) ?_)
      refine ev_q rfl (q_assign (by conv => lhs; whnf) ?_)
      refine ev_nil (hK2 _ ?_); clear hK2
      refine good_ret ?_
      repeat (first | refine thenQ_ret ?_ | refine blockQ_ret ?_)
      refine ret_tmp (st := _) rfl (by conv => lhs; whnf) rfl ?_
      first | rfl | exact fT (by first | omega | grind) | exact fF (by first | omega | grind) | exact fT' (by first | omega | grind) | (exfalso; first | omega | grind)
    · replace hb4 := dT hb4
      refine ev_q rfl (q_pickT rfl (by conv => lhs; whnf) ?_)
      refine ev_q rfl (q_assign (by conv => lhs; whnf) ?_)
      refine ev_nil (hK2 _ ?_); clear hK2
      refine good_ret ?_
      repeat (first | refine thenQ_ret ?_ | refine blockQ_ret ?_)
      refine ret_tmp (st := _) rfl (by conv => lhs; whnf) rfl ?_
      first | rfl | exact fT (by first | omega | grind) | exact fF (by first | omega | grind) | exact fT' (by first | omega | grind) | (exfalso; first | omega | grind)

-- spec.l00In
set_option maxRecDepth 20000 in
set_option maxHeartbeats 2000000 in
theorem D_spec_l00In (a lo hi : Int)  : Den Try.prog 75 [.s (.int .i64 a), .s (.int .i64 lo), .s (.int .i64 hi)] (.s (.bool (decide (lo ≤ a ∧ a ≤ hi)))) := by
  refine den_of_good Try.func75 (by decide) rfl (Nat.le_of_ble_eq_true rfl) (Nat.le_of_ble_eq_true rfl) ?_
  refine good_seq fun K1 hK1 => ?_
  refine good_region rfl ?_
  refine ev_q rfl (q_assign (by conv => lhs; whnf) ?_)
  refine ev_nil (hK1 _ ?_); clear hK1
  refine good_seq fun K2 hK2 => ?_
  refine good_region rfl ?_
  refine ev_q rfl (q_move (by conv => lhs; whnf) ?_)
  refine ev_q rfl (q_move (by conv => lhs; whnf) ?_)
  refine ev_q rfl (q_int rfl rfl ?_)
  intro b3 hb3; cases b3
  · replace hb3 := dF hb3
    refine ev_q rfl (q_move (by conv => lhs; whnf) ?_)
    refine ev_skip rfl ?_
    refine ev_skip rfl ?_
    refine ev_skip rfl ?_
    refine ev_q rfl (q_pickF rfl (by conv => lhs; whnf) ?_)
    refine ev_q rfl (q_assign (by conv => lhs; whnf) ?_)
    refine ev_nil (hK2 _ ?_); clear hK2
    refine good_ret ?_
    repeat (first | refine thenQ_ret ?_ | refine blockQ_ret ?_)
    refine ret_tmp (st := _) rfl (by conv => lhs; whnf) rfl ?_
    first | rfl | exact fT (by first | omega | grind) | exact fF (by first | omega | grind) | exact fT' (by first | omega | grind) | (exfalso; first | omega | grind)
  · replace hb3 := dT hb3
    refine ev_q rfl (q_move (by conv => lhs; whnf) ?_)
    refine ev_q rfl (q_move (by conv => lhs; whnf) ?_)
    refine ev_q rfl (q_move (by conv => lhs; whnf) ?_)
    refine ev_q rfl (q_int rfl rfl ?_)
    intro b4 hb4; cases b4
    · replace hb4 := dF hb4
      refine ev_q rfl (q_pickT rfl (by conv => lhs; whnf) ?_)
      refine ev_q rfl (q_assign (by conv => lhs; whnf) ?_)
      refine ev_nil (hK2 _ ?_); clear hK2
      refine good_ret ?_
      repeat (first | refine thenQ_ret ?_ | refine blockQ_ret ?_)
      refine ret_tmp (st := _) rfl (by conv => lhs; whnf) rfl ?_
      first | rfl | exact fT (by first | omega | grind) | exact fF (by first | omega | grind) | exact fT' (by first | omega | grind) | (exfalso; first | omega | grind)
    · replace hb4 := dT hb4
      refine ev_q rfl (q_pickT rfl (by conv => lhs; whnf) ?_)
      refine ev_q rfl (q_assign (by conv => lhs; whnf) ?_)
      refine ev_nil (hK2 _ ?_); clear hK2
      refine good_ret ?_
      repeat (first | refine thenQ_ret ?_ | refine blockQ_ret ?_)
      refine ret_tmp (st := _) rfl (by conv => lhs; whnf) rfl ?_
      first | rfl | exact fT (by first | omega | grind) | exact fF (by first | omega | grind) | exact fT' (by first | omega | grind) | (exfalso; first | omega | grind)

-- laws.toInt64S
set_option maxRecDepth 20000 in
set_option maxHeartbeats 2000000 in
theorem D_laws_toInt64S_X (xs : List Int) (hx : xs.length ≤ 17592186044416) : DenX Try.prog 11 [] [.lst 1 (xs.map ci)] [(7, .row 2 1 (xs.map ci))] (.own 7 xs.length) := by
  refine denX_of_good Try.func11 (by decide) rfl (Nat.le_of_ble_eq_true rfl) (Nat.le_of_ble_eq_true rfl) rfl ?_
  refine good_seq fun K1 hK1 => ?_
  refine good_region rfl ?_
  refine ev_q rfl (q_assign (by conv => lhs; whnf) ?_)
  refine ev_nil (hK1 _ ?_); clear hK1
  refine good_seq fun K2 hK2 => ?_
  refine good_region rfl ?_
  refine ev_q rfl (q_move (by conv => lhs; whnf) ?_)
  refine ev_q rfl (q_len tEs22 rfl ?_)
  intro n3 hn3
  try simp only [List.length_map] at hn3
  refine ev_k rfl (k_make tE22 rfl rfl zA2 tBy2 rfl (by omega) (by omega) (by omega) rfl (by show _ = xs.length; omega) ?_)
  refine ev_q rfl (q_assign (by conv => lhs; whnf) ?_)
  refine ev_nil (hK2 _ ?_); clear hK2
  refine good_seq fun K4 hK4 => ?_
  refine good_seq fun K5 hK5 => ?_
  refine good_region rfl ?_
  refine ev_q rfl (q_assign (by conv => lhs; whnf) ?_)
  refine ev_nil (hK5 _ ?_); clear hK5
  refine good_block ?_
  refine good_loop (α := Nat) (fun i => { env := upd (upd (upd ((fun _ => .junk)) 0 (.lst 1 (xs.map ci))) 3 (.own 7 xs.length)) 4 (.s (.int .i64 i)), H := upd ((fun _ => none)) 7 (some (.row 2 1 (fillC ci (ci 0) xs i))) }) (fun i => i ≤ xs.length) (fun i => xs.length - i) 0 ?_ ?_ ?_
  · show 0 ≤ _; omega
  · refine sub_weak ?_ ?_
    · exact weakH_row (rowEq (fill0 rfl)) (weakH_none _)
    · refine weakE_upd ?e4 ?r4 (weakE_upd ?e3 ?r3 (weakE_upd ?e0 ?r0 (weakE_junk _ _)))
      case e0 => first | rfl | exact fI (by omega) | (simp_all)
      case r0 => intro h hh; cases hh
      case e3 => first | rfl | exact fI (by omega) | (simp_all)
      case r3 => intro h hh; simp [refs] at hh; subst hh; rfl
      case e4 => first | rfl | exact fI (by omega) | (simp_all)
      case r4 => intro h hh; cases hh
  · rintro i hI
    refine good_seq fun K6 hK6 => ?_
    refine good_seq fun K7 hK7 => ?_
    refine good_region rfl ?_
    refine ev_q rfl (q_move (by conv => lhs; whnf) ?_)
    refine ev_q rfl (q_move (by conv => lhs; whnf) ?_)
    refine ev_q rfl (q_len tEs22 rfl ?_)
    intro n8 hn8
    try simp only [List.length_map] at hn8
    refine ev_q rfl (q_int rfl rfl ?_)
    intro b9 hb9; cases b9
    · replace hb9 := dF hb9
      refine ev_nil (hK7 _ ?_); clear hK7
      refine good_condF rfl ?_
      refine good_exit ?_
      repeat (first | refine thenQ_exit ?_ | refine blockQ_pass rfl ?_)
      refine blockQ_exit (hK4 _ ?_); clear hK4
      refine good_seq fun K10 hK10 => ?_
      refine good_region rfl ?_
      refine ev_q rfl (q_move (by conv => lhs; whnf) ?_)
      refine ev_q rfl (q_assign (by conv => lhs; whnf) ?_)
      refine ev_nil (hK10 _ ?_); clear hK10
      refine good_ret ?_
      repeat (first | refine thenQ_ret ?_ | refine blockQ_ret ?_)
      refine fx_tmp rfl (by conv => lhs; whnf) ?_
      clear hK6
      exact ⟨_, conv_eq (by first | rfl | (rw [e]; done) | (rw [e]; rfl) | exact ownEq (by first | omega | simp_all)), weakH_row (rowEq (by have e := fillE (f := ci) (z := ci 0) (xs := xs) (i := i) (by omega) rfl; rw [takeLen (by simp [fillC]; omega)] at e; exact e)) (weakH_none _), refsIn_ok rfl⟩
    · replace hb9 := dT hb9
      obtain ⟨p, hp⟩ := getL (xs := xs) (n := (i : Int)) (by omega) (by omega)
      refine ev_nil (hK7 _ ?_); clear hK7
      refine good_condT rfl ?_
      refine good_skip (hK6 _ ?_); clear hK6
      refine good_seq fun K11 hK11 => ?_
      refine good_block ?_
      refine good_region rfl ?_
      refine ev_q rfl (q_move (by conv => lhs; whnf) ?_)
      refine ev_q rfl (q_move (by conv => lhs; whnf) ?_)
      refine ev_q rfl (q_move (by conv => lhs; whnf) ?_)
      refine ev_q rfl (q_move (by conv => lhs; whnf) ?_)
      refine ev_q rfl (q_idx tE22 rfl rfl (by exact Int.natCast_nonneg _) (by exact map_get hp) rfl ?_)
      refine ev_q rfl (q_load tA2 rfl ?_)
      refine ev_q rfl (q_idxO tE22 rfl rfl rfl (by exact Int.natCast_nonneg _) (by omega) rfl ?_)
      refine ev_k rfl (k_storeE sz2 rfl (by conv => lhs; whnf) rfl rfl rfl (Nat.le_of_ble_eq_true rfl) rfl (by exact fillG (by omega)) (Nat.le_of_ble_eq_true rfl) rfl ?_)
      refine ev_nil (hK11 _ ?_); clear hK11
      refine good_region rfl ?_
      refine ev_q rfl (q_move (by conv => lhs; whnf) ?_)
      refine ev_q rfl (q_int rfl rfl ?_)
      intro n12 hn12
      replace hn12 := in64 hn12 (by omega) (by omega)
      refine ev_q rfl (q_assign (by conv => lhs; whnf) ?_)
      refine ev_nil ?_
      clear hK4
      refine ⟨i + 1, ?_, ?_, ?_⟩
      · show _ ≤ _; omega
      · first | omega | (simp only []; omega) | (dsimp only; omega)
      · refine sub_weak ?_ ?_
        · exact weakH_row (rowEq (fillS hp rfl)) (weakH_none _)
        · refine weakE_upd ?e4 ?r4 (weakE_upd ?e3 ?r3 (weakE_upd ?e0 ?r0 (weakE_junk _ _)))
          case e0 => first | rfl | exact fI (by omega) | (simp_all)
          case r0 => intro h hh; cases hh
          case e3 => first | rfl | exact fI (by omega) | (simp_all)
          case r3 => intro h hh; simp [refs] at hh; subst hh; rfl
          case e4 => first | rfl | exact fI (by omega) | (simp_all)
          case r4 => intro h hh; cases hh
theorem D_laws_toInt64S (xs : List Int) (hx : xs.length ≤ 17592186044416) : Den Try.prog 11 [.lst 1 (xs.map ci)] (.lst 1 (xs.map ci)) :=
  den_of_denX (D_laws_toInt64S_X xs hx) (by change (some (.lst 1 (List.take xs.length (xs.map ci))) : Option AV) = some (.lst 1 (xs.map ci)); simp only [takeMap])

-- laws.eqInt64S
set_option maxRecDepth 20000 in
set_option maxHeartbeats 2000000 in
theorem D_laws_eqInt64S (xs : List Int) (hx : xs.length ≤ 17592186044416) : Den Try.prog 13 [.lst 1 (xs.map ci), .lst 1 (xs.map ci)] (.s (.bool true)) := by
  refine den_of_good Try.func13 (by decide) rfl (Nat.le_of_ble_eq_true rfl) (Nat.le_of_ble_eq_true rfl) ?_
  refine good_seq fun K1 hK1 => ?_
  refine good_region rfl ?_
  refine ev_q rfl (q_assign (by conv => lhs; whnf) ?_)
  refine ev_nil (hK1 _ ?_); clear hK1
  refine good_seq fun K2 hK2 => ?_
  refine good_seq fun K3 hK3 => ?_
  refine good_region rfl ?_
  refine ev_q rfl (q_move (by conv => lhs; whnf) ?_)
  refine ev_q rfl (q_len tEs22 rfl ?_)
  intro n4 hn4
  try simp only [List.length_map] at hn4
  refine ev_q rfl (q_move (by conv => lhs; whnf) ?_)
  refine ev_q rfl (q_len tEs22 rfl ?_)
  intro n5 hn5
  try simp only [List.length_map] at hn5
  refine ev_q rfl (q_int rfl rfl ?_)
  intro b6 hb6; cases b6
  · replace hb6 := neF hb6
    refine ev_nil (hK3 _ ?_); clear hK3
    refine good_condF rfl ?_
    refine good_skip (hK2 _ ?_); clear hK2
    refine good_seq fun K7 hK7 => ?_
    refine good_seq fun K8 hK8 => ?_
    refine good_region rfl ?_
    refine ev_q rfl (q_assign (by conv => lhs; whnf) ?_)
    refine ev_nil (hK8 _ ?_); clear hK8
    refine good_block ?_
    refine good_loop (α := Nat) (fun i => { env := upd (upd (upd ((fun _ => .junk)) 0 (.lst 1 (xs.map ci))) 1 (.lst 1 (xs.map ci))) 5 (.s (.int .i64 i)), H := fun _ => none }) (fun i => i ≤ xs.length) (fun i => xs.length - i) 0 ?_ ?_ ?_
    · show 0 ≤ _; omega
    · refine sub_weak ?_ ?_
      · exact weakH_none _
      · refine weakE_upd ?e5 ?r5 (weakE_upd ?e1 ?r1 (weakE_upd ?e0 ?r0 (weakE_junk _ _)))
        case e0 => first | rfl | exact fI (by omega) | (simp_all)
        case r0 => intro h hh; cases hh
        case e1 => first | rfl | exact fI (by omega) | (simp_all)
        case r1 => intro h hh; cases hh
        case e5 => first | rfl | exact fI (by omega) | (simp_all)
        case r5 => intro h hh; cases hh
    · rintro i hI
      refine good_seq fun K9 hK9 => ?_
      refine good_seq fun K10 hK10 => ?_
      refine good_region rfl ?_
      refine ev_q rfl (q_move (by conv => lhs; whnf) ?_)
      refine ev_q rfl (q_move (by conv => lhs; whnf) ?_)
      refine ev_q rfl (q_len tEs22 rfl ?_)
      intro n11 hn11
      try simp only [List.length_map] at hn11
      refine ev_q rfl (q_int rfl rfl ?_)
      intro b12 hb12; cases b12
      · replace hb12 := dF hb12
        refine ev_nil (hK10 _ ?_); clear hK10
        refine good_condF rfl ?_
        refine good_exit ?_
        repeat (first | refine thenQ_exit ?_ | refine blockQ_pass rfl ?_)
        refine blockQ_exit (hK7 _ ?_); clear hK7
        refine good_seq fun K13 hK13 => ?_
        refine good_region rfl ?_
        refine ev_q rfl (q_assign (by conv => lhs; whnf) ?_)
        refine ev_nil (hK13 _ ?_); clear hK13
        refine good_ret ?_
        repeat (first | refine thenQ_ret ?_ | refine blockQ_ret ?_)
        refine ret_tmp (st := _) rfl (by conv => lhs; whnf) rfl ?_
        clear hK9
        first | rfl | (exfalso; omega)
      · replace hb12 := dT hb12
        obtain ⟨p, hp⟩ := getL (xs := xs) (n := (i : Int)) (by omega) (by omega)
        replace hp : xs[i]? = some p := hp
        refine ev_nil (hK10 _ ?_); clear hK10
        refine good_condT rfl ?_
        refine good_skip (hK9 _ ?_); clear hK9
        refine good_seq fun K14 hK14 => ?_
        refine good_block ?_
        refine good_seq fun K15 hK15 => ?_
        refine good_draw 9 hmix (by kernel_rfl) rfl ?_
        refine qo_q rfl (q_move (by conv => lhs; whnf) ?_)
        refine qo_q rfl (q_move (by conv => lhs; whnf) ?_)
        refine qo_q rfl (q_idx tE22 rfl rfl (by exact Int.natCast_nonneg _) (by exact map_get hp) rfl ?_)
        refine qo_q rfl (q_load tA2 rfl ?_)
        refine qo_q rfl (q_move (by conv => lhs; whnf) ?_)
        refine qo_q rfl (q_move (by conv => lhs; whnf) ?_)
        refine qo_q rfl (q_idx tE22 rfl rfl (by exact Int.natCast_nonneg _) (by exact map_get hp) rfl ?_)
        refine qo_q rfl (q_load tA2 rfl ?_)
        refine qo_q rfl (q_int rfl rfl ?_)
        intro b16 hb16; cases b16
        · replace hb16 := neF hb16
          refine qo_nil ?_
          refine ev_nil (hK15 _ ?_); clear hK15
          refine good_condF rfl ?_
          refine good_skip (hK14 _ ?_); clear hK14
          refine good_region rfl ?_
          refine ev_q rfl (q_move (by conv => lhs; whnf) ?_)
          refine ev_q rfl (q_int rfl rfl ?_)
          intro n17 hn17
          replace hn17 := in64 hn17 (by omega) (by omega)
          refine ev_q rfl (q_assign (by conv => lhs; whnf) ?_)
          refine ev_nil ?_
          clear hK7
          refine ⟨i + 1, ?_, ?_, ?_⟩
          · show _ ≤ _; omega
          · first | omega | (simp only []; omega) | (dsimp only; omega)
          · refine sub_weak ?_ ?_
            · exact weakH_none _
            · refine weakE_upd ?e5 ?r5 (weakE_upd ?e1 ?r1 (weakE_upd ?e0 ?r0 (weakE_junk _ _)))
              case e0 => first | rfl | exact fI (by omega) | (simp_all)
              case r0 => intro h hh; cases hh
              case e1 => first | rfl | exact fI (by omega) | (simp_all)
              case r1 => intro h hh; cases hh
              case e5 => first | rfl | exact fI (by omega) | (simp_all)
              case r5 => intro h hh; cases hh
        · replace hb16 := neT hb16
          refine qo_nil ?_
          refine ev_nil (hK15 _ ?_); clear hK15
          refine good_condT rfl ?_
          refine good_seq fun K18 hK18 => ?_
          refine good_region rfl ?_
          refine ev_q rfl (q_assign (by conv => lhs; whnf) ?_)
          refine ev_nil (hK18 _ ?_); clear hK18
          refine good_ret ?_
          repeat (first | refine thenQ_ret ?_ | refine blockQ_ret ?_)
          refine ret_tmp (st := _) rfl (by conv => lhs; whnf) rfl ?_
          clear hK7 hK14
          first | rfl | (exfalso; omega)
  · replace hb6 := neT hb6
    refine ev_nil (hK3 _ ?_); clear hK3
    refine good_condT rfl ?_
    refine good_seq fun K19 hK19 => ?_
    refine good_region rfl ?_
    refine ev_q rfl (q_assign (by conv => lhs; whnf) ?_)
    refine ev_nil (hK19 _ ?_); clear hK19
    refine good_ret ?_
    repeat (first | refine thenQ_ret ?_ | refine blockQ_ret ?_)
    refine ret_tmp (st := _) rfl (by conv => lhs; whnf) rfl ?_
    clear hK2
    first | rfl | (exfalso; omega)

-- laws.markInt64S
set_option maxRecDepth 20000 in
set_option maxHeartbeats 2000000 in
theorem D_laws_markInt64S (xs : List Int) (k : Int) (hx : xs.length ≤ 17592186044416) (hk : 0 ≤ k ∧ k ≤ 1000000000000000) : DenX Try.prog 14 [(1000000, .row 2 1 (xs.map ci))] [.own 1000000 xs.length, .s (.int .i64 k)] [(1000000, .row 2 1 (mkC k xs xs.length))] (.s (.int .i64 (k + xs.length))) := by
  refine denX_of_good Try.func14 (by decide) rfl (Nat.le_of_ble_eq_true rfl) (Nat.le_of_ble_eq_true rfl) rfl ?_
  refine good_seq fun K1 hK1 => ?_
  refine good_region rfl ?_
  refine ev_q rfl (q_assign (by conv => lhs; whnf) ?_)
  refine ev_nil (hK1 _ ?_); clear hK1
  refine good_seq fun K2 hK2 => ?_
  refine good_seq fun K3 hK3 => ?_
  refine good_region rfl ?_
  refine ev_q rfl (q_assign (by conv => lhs; whnf) ?_)
  refine ev_nil (hK3 _ ?_); clear hK3
  refine good_block ?_
  refine good_loop (α := Nat) (fun i => { env := upd (upd (upd ((fun _ => .junk)) 0 (.own 1000000 xs.length)) 1 (.s (.int .i64 (k + i)))) 5 (.s (.int .i64 i)), H := upd ((fun _ => none)) 1000000 (some (.row 2 1 (mkC k xs i))) }) (fun i => i ≤ xs.length) (fun i => xs.length - i) 0 ?_ ?_ ?_
  · show 0 ≤ _; omega
  · refine sub_weak ?_ ?_
    · exact weakH_row (rowEq (mkC0.symm)) (weakH_none _)
    · refine weakE_upd ?e5 ?r5 (weakE_upd ?e1 ?r1 (weakE_upd ?e0 ?r0 (weakE_junk _ _)))
      case e0 => first | rfl | exact fI (by omega) | (simp_all)
      case r0 => intro h hh; simp [refs] at hh; subst hh; rfl
      case e1 => first | rfl | exact fI (by omega) | (simp_all)
      case r1 => intro h hh; cases hh
      case e5 => first | rfl | exact fI (by omega) | (simp_all)
      case r5 => intro h hh; cases hh
  · rintro i hI
    refine good_seq fun K4 hK4 => ?_
    refine good_seq fun K5 hK5 => ?_
    refine good_region rfl ?_
    refine ev_q rfl (q_move (by conv => lhs; whnf) ?_)
    refine ev_q rfl (q_move (by conv => lhs; whnf) ?_)
    refine ev_q rfl (q_len tEs22 rfl ?_)
    intro n6 hn6
    try simp only [List.length_map] at hn6
    refine ev_q rfl (q_int rfl rfl ?_)
    intro b7 hb7; cases b7
    · replace hb7 := dF hb7
      refine ev_nil (hK5 _ ?_); clear hK5
      refine good_condF rfl ?_
      refine good_exit ?_
      repeat (first | refine thenQ_exit ?_ | refine blockQ_pass rfl ?_)
      refine blockQ_exit (hK2 _ ?_); clear hK2
      refine good_seq fun K8 hK8 => ?_
      refine good_region rfl ?_
      refine ev_q rfl (q_move (by conv => lhs; whnf) ?_)
      refine ev_q rfl (q_assign (by conv => lhs; whnf) ?_)
      refine ev_nil (hK8 _ ?_); clear hK8
      refine good_ret ?_
      repeat (first | refine thenQ_ret ?_ | refine blockQ_ret ?_)
      refine fx_tmp rfl (by conv => lhs; whnf) ?_
      clear hK4
      exact ⟨_, conv_eq (by first | rfl | exact fI (by first | omega | grind) | (exfalso; first | omega | grind)), weakH_row (rowEq (by rw [show i = xs.length by omega])) (weakH_none _), refsIn_ok rfl⟩
    · replace hb7 := dT hb7
      obtain ⟨p, hp⟩ := getL (xs := xs) (n := (i : Int)) (by omega) (by omega)
      refine ev_nil (hK5 _ ?_); clear hK5
      refine good_condT rfl ?_
      refine good_skip (hK4 _ ?_); clear hK4
      refine good_seq fun K9 hK9 => ?_
      refine good_block ?_
      refine good_seq fun K10 hK10 => ?_
      refine good_region rfl ?_
      refine ev_q rfl (q_move (by conv => lhs; whnf) ?_)
      refine ev_q rfl (q_move (by conv => lhs; whnf) ?_)
      refine ev_q rfl (q_move (by conv => lhs; whnf) ?_)
      refine ev_q rfl (q_idxO tE22 rfl rfl rfl (by exact Int.natCast_nonneg _) (by omega) rfl ?_)
      refine ev_k rfl (k_storeE sz2 rfl (by conv => lhs; whnf) rfl rfl rfl (Nat.le_of_ble_eq_true rfl) rfl (by exact mkC_get hp) (Nat.le_of_ble_eq_true rfl) rfl ?_)
      refine ev_nil (hK10 _ ?_); clear hK10
      refine good_region rfl ?_
      refine ev_q rfl (q_move (by conv => lhs; whnf) ?_)
      refine ev_q rfl (q_int rfl rfl ?_)
      intro n11 hn11
      replace hn11 := in64 hn11 (by omega) (by omega)
      refine ev_q rfl (q_assign (by conv => lhs; whnf) ?_)
      refine ev_nil (hK9 _ ?_); clear hK9
      refine good_region rfl ?_
      refine ev_q rfl (q_move (by conv => lhs; whnf) ?_)
      refine ev_q rfl (q_int rfl rfl ?_)
      intro n12 hn12
      replace hn12 := in64 hn12 (by omega) (by omega)
      refine ev_q rfl (q_assign (by conv => lhs; whnf) ?_)
      refine ev_nil ?_
      clear hK2
      refine ⟨i + 1, ?_, ?_, ?_⟩
      · show _ ≤ _; omega
      · first | omega | (simp only []; omega) | (dsimp only; omega)
      · refine sub_weak ?_ ?_
        · exact weakH_row (rowEq (mkC_set (by omega))) (weakH_none _)
        · refine weakE_upd ?e5 ?r5 (weakE_upd ?e1 ?r1 (weakE_upd ?e0 ?r0 (weakE_junk _ _)))
          case e0 => first | rfl | exact fI (by omega) | (simp_all)
          case r0 => intro h hh; simp [refs] at hh; subst hh; rfl
          case e1 => first | rfl | exact fI (by omega) | (simp_all)
          case r1 => intro h hh; cases hh
          case e5 => first | rfl | exact fI (by omega) | (simp_all)
          case r5 => intro h hh; cases hh

-- laws.heldInt64S
set_option maxRecDepth 20000 in
set_option maxHeartbeats 2000000 in
theorem D_laws_heldInt64S (xs : List Int) (k : Int) (hx : xs.length ≤ 17592186044416) (hk : 0 ≤ k ∧ k ≤ 1000000000000000) : Den Try.prog 15 [.lst 1 (mkC k xs xs.length), .s (.int .i64 k)] (.s (.int .i64 (k + xs.length))) := by
  have hl := mkC_len (k := k) (xs := xs) (Nat.le_refl _)
  refine den_of_good Try.func15 (by decide) rfl (Nat.le_of_ble_eq_true rfl) (Nat.le_of_ble_eq_true rfl) ?_
  refine good_seq fun K1 hK1 => ?_
  refine good_region rfl ?_
  refine ev_q rfl (q_assign (by conv => lhs; whnf) ?_)
  refine ev_nil (hK1 _ ?_); clear hK1
  refine good_seq fun K2 hK2 => ?_
  refine good_seq fun K3 hK3 => ?_
  refine good_region rfl ?_
  refine ev_q rfl (q_assign (by conv => lhs; whnf) ?_)
  refine ev_nil (hK3 _ ?_); clear hK3
  refine good_block ?_
  refine good_loop (α := Nat) (fun i => { env := upd (upd (upd ((fun _ => .junk)) 0 (.lst 1 (mkC k xs xs.length))) 1 (.s (.int .i64 (k + i)))) 5 (.s (.int .i64 i)), H := fun _ => none }) (fun i => i ≤ xs.length) (fun i => xs.length - i) 0 ?_ ?_ ?_
  · show 0 ≤ _; omega
  · refine sub_weak ?_ ?_
    · exact weakH_none _
    · refine weakE_upd ?e5 ?r5 (weakE_upd ?e1 ?r1 (weakE_upd ?e0 ?r0 (weakE_junk _ _)))
      case e0 => first | rfl | exact fI (by omega) | (simp_all)
      case r0 => intro h hh; cases hh
      case e1 => first | rfl | exact fI (by omega) | (simp_all)
      case r1 => intro h hh; cases hh
      case e5 => first | rfl | exact fI (by omega) | (simp_all)
      case r5 => intro h hh; cases hh
  · rintro i hI
    refine good_seq fun K4 hK4 => ?_
    refine good_seq fun K5 hK5 => ?_
    refine good_region rfl ?_
    refine ev_q rfl (q_move (by conv => lhs; whnf) ?_)
    refine ev_q rfl (q_move (by conv => lhs; whnf) ?_)
    refine ev_q rfl (q_len tEs22 rfl ?_)
    intro n6 hn6
    try simp only [List.length_map] at hn6
    refine ev_q rfl (q_int rfl rfl ?_)
    intro b7 hb7; cases b7
    · replace hb7 := dF hb7
      refine ev_nil (hK5 _ ?_); clear hK5
      refine good_condF rfl ?_
      refine good_exit ?_
      repeat (first | refine thenQ_exit ?_ | refine blockQ_pass rfl ?_)
      refine blockQ_exit (hK2 _ ?_); clear hK2
      refine good_seq fun K8 hK8 => ?_
      refine good_region rfl ?_
      refine ev_q rfl (q_move (by conv => lhs; whnf) ?_)
      refine ev_q rfl (q_assign (by conv => lhs; whnf) ?_)
      refine ev_nil (hK8 _ ?_); clear hK8
      refine good_ret ?_
      repeat (first | refine thenQ_ret ?_ | refine blockQ_ret ?_)
      refine ret_tmp (st := _) rfl (by conv => lhs; whnf) rfl ?_
      clear hK4
      first | rfl | exact fI (by first | omega | grind) | (exfalso; first | omega | grind)
    · replace hb7 := dT hb7
      refine ev_nil (hK5 _ ?_); clear hK5
      refine good_condT rfl ?_
      refine good_skip (hK4 _ ?_); clear hK4
      refine good_seq fun K9 hK9 => ?_
      refine good_block ?_
      refine good_seq fun K10 hK10 => ?_
      refine good_seq fun K11 hK11 => ?_
      refine good_region rfl ?_
      refine ev_q rfl (q_move (by conv => lhs; whnf) ?_)
      refine ev_q rfl (q_move (by conv => lhs; whnf) ?_)
      refine ev_q rfl (q_idx tE22 rfl rfl (by exact Int.natCast_nonneg _) (by exact mkC_held (by omega)) rfl ?_)
      refine ev_q rfl (q_load tA2 rfl ?_)
      refine ev_q rfl (q_move (by conv => lhs; whnf) ?_)
      refine ev_q rfl (q_int rfl rfl ?_)
      intro b12 hb12; cases b12
      · replace hb12 := neF hb12
        refine ev_nil (hK11 _ ?_); clear hK11
        refine good_condF rfl ?_
        refine good_skip (hK10 _ ?_); clear hK10
        refine good_region rfl ?_
        refine ev_q rfl (q_move (by conv => lhs; whnf) ?_)
        refine ev_q rfl (q_int rfl rfl ?_)
        intro n13 hn13
        replace hn13 := in64 hn13 (by omega) (by omega)
        refine ev_q rfl (q_assign (by conv => lhs; whnf) ?_)
        refine ev_nil (hK9 _ ?_); clear hK9
        refine good_region rfl ?_
        refine ev_q rfl (q_move (by conv => lhs; whnf) ?_)
        refine ev_q rfl (q_int rfl rfl ?_)
        intro n14 hn14
        replace hn14 := in64 hn14 (by omega) (by omega)
        refine ev_q rfl (q_assign (by conv => lhs; whnf) ?_)
        refine ev_nil ?_
        clear hK2
        refine ⟨i + 1, ?_, ?_, ?_⟩
        · show _ ≤ _; omega
        · first | omega | (simp only []; omega) | (dsimp only; omega)
        · refine sub_weak ?_ ?_
          · exact weakH_none _
          · refine weakE_upd ?e5 ?r5 (weakE_upd ?e1 ?r1 (weakE_upd ?e0 ?r0 (weakE_junk _ _)))
            case e0 => first | rfl | exact fI (by omega) | (simp_all)
            case r0 => intro h hh; cases hh
            case e1 => first | rfl | exact fI (by omega) | (simp_all)
            case r1 => intro h hh; cases hh
            case e5 => first | rfl | exact fI (by omega) | (simp_all)
            case r5 => intro h hh; cases hh
      · replace hb12 := neT hb12
        refine ev_nil (hK11 _ ?_); clear hK11
        refine good_condT rfl ?_
        refine good_seq fun K15 hK15 => ?_
        refine good_region rfl ?_
        refine ev_q rfl (q_assign (by conv => lhs; whnf) ?_)
        refine ev_nil (hK15 _ ?_); clear hK15
        refine good_ret ?_
        repeat (first | refine thenQ_ret ?_ | refine blockQ_ret ?_)
        refine ret_tmp (st := _) rfl (by conv => lhs; whnf) rfl ?_
        clear hK2 hK9 hK10
        first | rfl | exact fI (by first | omega | grind) | (exfalso; first | omega | grind)

-- impl.allWithin$1
set_option maxRecDepth 20000 in
set_option maxHeartbeats 2000000 in
theorem D_impl_allWithin_1 (a lo hi : Int)  : Den Try.prog 93 [.s (.int .i64 a), .rp [.s (.int .i64 lo)], .rp [.s (.int .i64 hi)]] (.s (.bool (decide (¬ (lo ≤ a ∧ a ≤ hi))))) := by
  refine den_of_good Try.func93 (by decide) rfl (Nat.le_of_ble_eq_true rfl) (Nat.le_of_ble_eq_true rfl) ?_
  refine good_seq fun K1 hK1 => ?_
  refine good_region rfl ?_
  refine ev_q rfl (q_assign (by conv => lhs; whnf) ?_)
  refine ev_nil (hK1 _ ?_); clear hK1
  refine good_seq fun K2 hK2 => ?_
  refine good_region rfl ?_
  refine ev_q rfl (q_move (by conv => lhs; whnf) ?_)
  refine ev_q rfl (q_load tA2 rfl ?_)
  refine ev_q rfl (q_load tA2 rfl ?_)
  refine ev_q rfl (q_callB rfl rfl (rfl) (D_impl_within ..) ?_)
  intro b3 hb3; cases b3
  · first | replace hb3 := dF hb3 | skip
    refine ev_q rfl (q_not rfl rfl ?_)
    refine ev_q rfl (q_assign (by conv => lhs; whnf) ?_)
    refine ev_nil (hK2 _ ?_); clear hK2
    refine good_ret ?_
    repeat (first | refine thenQ_ret ?_ | refine blockQ_ret ?_)
    refine ret_tmp (st := _) rfl (by conv => lhs; whnf) rfl ?_
    first | rfl | exact fT (by first | omega | grind) | exact fF (by first | omega | grind) | exact fT' (by first | omega | grind) | (exfalso; first | omega | grind)
  · first | replace hb3 := dT hb3 | skip
    refine ev_q rfl (q_not rfl rfl ?_)
    refine ev_q rfl (q_assign (by conv => lhs; whnf) ?_)
    refine ev_nil (hK2 _ ?_); clear hK2
    refine good_ret ?_
    repeat (first | refine thenQ_ret ?_ | refine blockQ_ret ?_)
    refine ret_tmp (st := _) rfl (by conv => lhs; whnf) rfl ?_
    first | rfl | exact fT (by first | omega | grind) | exact fF (by first | omega | grind) | exact fT' (by first | omega | grind) | (exfalso; first | omega | grind)

-- slices.IndexFunc[[]int64,int64]
set_option maxRecDepth 20000 in
set_option maxHeartbeats 2000000 in
theorem D_slices_IndexFunc_int64_int64 (f : Nat) (caps : List AV) (p : Int → Prop) [DecidablePred p] (xs : List Int) (hx : xs.length ≤ 17592186044416) (hf : ∀ x ∈ xs, Den Try.prog f (.s (.int .i64 x) :: caps) (.s (.bool (decide (p x))))) : Den Try.prog 99 [.lst 1 (xs.map ci), .fn f caps] (.s (.int .i64 ((match xs.findIdx? (fun x => decide (p x)) with | some j => (j : Int) | none => -1)))) := by
  refine den_of_good Try.func99 (by decide) rfl (Nat.le_of_ble_eq_true rfl) (Nat.le_of_ble_eq_true rfl) ?_
  refine good_seq fun K1 hK1 => ?_
  refine good_region rfl ?_
  refine ev_q rfl (q_assign (by conv => lhs; whnf) ?_)
  refine ev_nil (hK1 _ ?_); clear hK1
  refine good_seq fun K2 hK2 => ?_
  refine good_seq fun K3 hK3 => ?_
  refine good_region rfl ?_
  refine ev_q rfl (q_move (by conv => lhs; whnf) ?_)
  refine ev_q rfl (q_len tEs22 rfl ?_)
  intro n4 hn4
  try simp only [List.length_map] at hn4
  refine ev_q rfl (q_move (by conv => lhs; whnf) ?_)
  refine ev_nil (hK3 _ ?_); clear hK3
  refine good_block ?_
  refine good_loop (α := Nat) (fun i => { env := upd (upd (upd (upd ((fun _ => .junk)) 0 (.lst 1 (xs.map ci))) 1 (.fn f caps)) 7 (.s (.int .i64 ((xs.length : Int))))) 8 (.s (.int .i64 i)), H := fun _ => none }) (fun i => i ≤ xs.length ∧ ∀ j q, j < i → xs[j]? = some q → ¬ p q) (fun i => xs.length - i) 0 ?_ ?_ ?_
  · exact ⟨by omega, fun j u hj => by omega⟩
  · refine sub_weak ?_ ?_
    · exact weakH_none _
    · refine weakE_upd ?e8 ?r8 (weakE_upd ?e7 ?r7 (weakE_upd ?e1 ?r1 (weakE_upd ?e0 ?r0 (weakE_junk _ _))))
      case e0 => first | rfl | exact fI (by omega) | (simp_all)
      case r0 => intro h hh; cases hh
      case e1 => first | rfl | exact fI (by omega) | (simp_all)
      case r1 => intro h hh; cases hh
      case e7 => first | rfl | exact fI (by omega) | (simp_all)
      case r7 => intro h hh; cases hh
      case e8 => first | rfl | exact fI (by omega) | (simp_all)
      case r8 => intro h hh; cases hh
  · rintro i ⟨hI, hJ⟩
    refine good_seq fun K5 hK5 => ?_
    refine good_region rfl ?_
    refine ev_q rfl (q_int rfl rfl ?_)
    intro b6 hb6; cases b6
    · replace hb6 := dF hb6
      refine ev_nil (hK5 _ ?_); clear hK5
      refine good_seq fun K7 hK7 => ?_
      refine good_condF rfl ?_
      refine good_exit ?_
      repeat (first | refine thenQ_exit ?_ | refine blockQ_pass rfl ?_)
      refine blockQ_exit (hK2 _ ?_); clear hK2
      refine good_seq fun K8 hK8 => ?_
      refine good_region rfl ?_
      refine ev_q rfl (q_assign (by conv => lhs; whnf) ?_)
      refine ev_nil (hK8 _ ?_); clear hK8
      refine good_ret ?_
      repeat (first | refine thenQ_ret ?_ | refine blockQ_ret ?_)
      refine ret_tmp (st := _) rfl (by conv => lhs; whnf) rfl ?_
      clear hK7
      first | exact fI (by have e := fi_some (i := i) hq hJ (by assumption); simp only [e]) | exact fI (by have e := fi_none (all_finI (Q := fun _ q => ¬ p q) hJ (by omega)); simp only [e])
    · replace hb6 := dT hb6
      obtain ⟨q, hq⟩ := getL (xs := xs) (n := (i : Int)) (by omega) (by omega)
      replace hq : xs[i]? = some q := hq
      refine ev_nil (hK5 _ ?_); clear hK5
      refine good_seq fun K9 hK9 => ?_
      refine good_condT rfl ?_
      refine good_skip (hK9 _ ?_); clear hK9
      refine good_seq fun K10 hK10 => ?_
      refine good_block ?_
      refine good_seq fun K11 hK11 => ?_
      refine good_region rfl ?_
      refine ev_q rfl (q_move (by conv => lhs; whnf) ?_)
      refine ev_q rfl (q_assign (by conv => lhs; whnf) ?_)
      refine ev_nil (hK11 _ ?_); clear hK11
      refine good_seq fun K12 hK12 => ?_
      refine good_region rfl ?_
      refine ev_q rfl (q_move (by conv => lhs; whnf) ?_)
      refine ev_q rfl (q_move (by conv => lhs; whnf) ?_)
      refine ev_q rfl (q_move (by conv => lhs; whnf) ?_)
      refine ev_q rfl (q_idx tE22 rfl rfl (by exact Int.natCast_nonneg _) (by exact map_get hq) rfl ?_)
      refine ev_q rfl (q_load tA2 rfl ?_)
      refine ev_q rfl (q_callB rfl rfl (rfl) (hf _ (List.mem_of_getElem? hq)) ?_)
      intro b13 hb13; cases b13
      · first | replace hb13 := dF hb13 | skip
        refine ev_nil (hK12 _ ?_); clear hK12
        refine good_condF rfl ?_
        refine good_skip (hK10 _ ?_); clear hK10
        refine good_region rfl ?_
        refine ev_q rfl (q_int rfl rfl ?_)
        intro n14 hn14
        replace hn14 := in64 hn14 (by omega) (by omega)
        refine ev_q rfl (q_move (by conv => lhs; whnf) ?_)
        refine ev_nil ?_
        clear hK2
        refine ⟨i + 1, ?_, ?_, ?_⟩
        · exact ⟨by omega, all_extI (Q := fun _ q => ¬ p q) hJ hq (by assumption)⟩
        · first | omega | (simp only []; omega) | (dsimp only; omega)
        · refine sub_weak ?_ ?_
          · exact weakH_none _
          · refine weakE_upd ?e8 ?r8 (weakE_upd ?e7 ?r7 (weakE_upd ?e1 ?r1 (weakE_upd ?e0 ?r0 (weakE_junk _ _))))
            case e0 => first | rfl | exact fI (by omega) | (simp_all)
            case r0 => intro h hh; cases hh
            case e1 => first | rfl | exact fI (by omega) | (simp_all)
            case r1 => intro h hh; cases hh
            case e7 => first | rfl | exact fI (by omega) | (simp_all)
            case r7 => intro h hh; cases hh
            case e8 => first | rfl | exact fI (by omega) | (simp_all)
            case r8 => intro h hh; cases hh
      · first | replace hb13 := dT hb13 | skip
        refine ev_nil (hK12 _ ?_); clear hK12
        refine good_condT rfl ?_
        refine good_seq fun K15 hK15 => ?_
        refine good_region rfl ?_
        refine ev_q rfl (q_move (by conv => lhs; whnf) ?_)
        refine ev_q rfl (q_assign (by conv => lhs; whnf) ?_)
        refine ev_nil (hK15 _ ?_); clear hK15
        refine good_ret ?_
        repeat (first | refine thenQ_ret ?_ | refine blockQ_ret ?_)
        refine ret_tmp (st := _) rfl (by conv => lhs; whnf) rfl ?_
        clear hK2 hK10
        first | exact fI (by have e := fi_some (i := i) hq hJ (by assumption); simp only [e]) | exact fI (by have e := fi_none (all_finI (Q := fun _ q => ¬ p q) hJ (by omega)); simp only [e])

-- slices.ContainsFunc[[]int64,int64]
set_option maxRecDepth 20000 in
set_option maxHeartbeats 2000000 in
theorem D_slices_ContainsFunc_int64_int64 (f : Nat) (caps : List AV) (p : Int → Prop) [DecidablePred p] (xs : List Int) [Decidable (∃ x ∈ xs, p x)] (hx : xs.length ≤ 17592186044416) (hf : ∀ x ∈ xs, Den Try.prog f (.s (.int .i64 x) :: caps) (.s (.bool (decide (p x))))) : Den Try.prog 92 [.lst 1 (xs.map ci), .fn f caps] (.s (.bool (decide (∃ x ∈ xs, p x)))) := by
  refine den_of_good Try.func92 (by decide) rfl (Nat.le_of_ble_eq_true rfl) (Nat.le_of_ble_eq_true rfl) ?_
  refine good_seq fun K1 hK1 => ?_
  refine good_region rfl ?_
  refine ev_q rfl (q_assign (by conv => lhs; whnf) ?_)
  refine ev_nil (hK1 _ ?_); clear hK1
  refine good_seq fun K2 hK2 => ?_
  refine good_region rfl ?_
  refine ev_q rfl (q_move (by conv => lhs; whnf) ?_)
  refine ev_q rfl (q_move (by conv => lhs; whnf) ?_)
  refine ev_q rfl (q_callI rfl rfl (rfl) (D_slices_IndexFunc_int64_int64 f caps p xs hx hf) ?_)
  intro n3 hn3
  refine ev_q rfl (q_int rfl rfl ?_)
  intro b4 hb4; cases b4
  · replace hb4 := dF hb4
    refine ev_q rfl (q_assign (by conv => lhs; whnf) ?_)
    refine ev_nil (hK2 _ ?_); clear hK2
    refine good_ret ?_
    repeat (first | refine thenQ_ret ?_ | refine blockQ_ret ?_)
    refine ret_tmp (st := _) rfl (by conv => lhs; whnf) rfl ?_
    first | exact fT (fi_any.1 (by omega)) | exact fF (fun h => absurd (fi_any.2 h) (by omega))
  · replace hb4 := dT hb4
    refine ev_q rfl (q_assign (by conv => lhs; whnf) ?_)
    refine ev_nil (hK2 _ ?_); clear hK2
    refine good_ret ?_
    repeat (first | refine thenQ_ret ?_ | refine blockQ_ret ?_)
    refine ret_tmp (st := _) rfl (by conv => lhs; whnf) rfl ?_
    first | exact fT (fi_any.1 (by omega)) | exact fF (fun h => absurd (fi_any.2 h) (by omega))

-- impl.allWithin
set_option maxRecDepth 20000 in
set_option maxHeartbeats 2000000 in
theorem D_impl_allWithin (xs : List Int) (lo hi : Int) (hx : xs.length ≤ 17592186044416) : Den Try.prog 70 [.lst 1 (xs.map ci), .s (.int .i64 lo), .s (.int .i64 hi)] (.s (.bool (decide (within xs lo hi)))) := by
  classical
  refine den_of_good Try.func70 (by decide) rfl (Nat.le_of_ble_eq_true rfl) (Nat.le_of_ble_eq_true rfl) ?_
  refine good_seq fun K1 hK1 => ?_
  refine good_region rfl ?_
  refine ev_k rfl (k_box (by conv => lhs; whnf) rfl rfl rfl ?_)
  refine ev_k rfl (k_box (by conv => lhs; whnf) rfl rfl rfl ?_)
  refine ev_q rfl (q_assign (by conv => lhs; whnf) ?_)
  refine ev_nil (hK1 _ ?_); clear hK1
  refine good_seq fun K2 hK2 => ?_
  refine good_region rfl ?_
  refine ev_q rfl (q_move (by conv => lhs; whnf) ?_)
  refine ev_q rfl (q_clo rfl rfl ?_)
  refine ev_q rfl (q_callB rfl rfl (rfl) (D_slices_ContainsFunc_int64_int64 _ _ (fun x => ¬ (lo ≤ x ∧ x ≤ hi)) xs hx (fun x _ => D_impl_allWithin_1 x lo hi)) ?_)
  intro b3 hb3; cases b3
  · first | replace hb3 := dF hb3 | skip
    refine ev_q rfl (q_not rfl rfl ?_)
    refine ev_q rfl (q_assign (by conv => lhs; whnf) ?_)
    refine ev_nil (hK2 _ ?_); clear hK2
    refine good_ret ?_
    repeat (first | refine thenQ_ret ?_ | refine blockQ_ret ?_)
    refine ret_tmp (st := _) rfl (by conv => lhs; whnf) rfl ?_
    first | exact fT (within_any.2 (by assumption)) | exact fF (fun h => absurd (within_any.1 h) (by simpa using ‹∃ x ∈ xs, ¬ (lo ≤ x ∧ x ≤ hi)›))
  · first | replace hb3 := dT hb3 | skip
    refine ev_q rfl (q_not rfl rfl ?_)
    refine ev_q rfl (q_assign (by conv => lhs; whnf) ?_)
    refine ev_nil (hK2 _ ?_); clear hK2
    refine good_ret ?_
    repeat (first | refine thenQ_ret ?_ | refine blockQ_ret ?_)
    refine ret_tmp (st := _) rfl (by conv => lhs; whnf) rfl ?_
    first | exact fT (within_any.2 (by assumption)) | exact fF (fun h => absurd (within_any.1 h) (by simpa using ‹∃ x ∈ xs, ¬ (lo ≤ x ∧ x ≤ hi)›))

-- impl.marginOk
set_option maxRecDepth 20000 in
set_option maxHeartbeats 2000000 in
theorem D_impl_marginOk (a : Int)  : Den Try.prog 44 [.s (.int .i64 a)] (.s (.bool (decide (0 ≤ a ∧ a ≤ 1000000)))) := by
  refine den_of_good Try.func44 (by decide) rfl (Nat.le_of_ble_eq_true rfl) (Nat.le_of_ble_eq_true rfl) ?_
  refine good_seq fun K1 hK1 => ?_
  refine good_region rfl ?_
  refine ev_q rfl (q_assign (by conv => lhs; whnf) ?_)
  refine ev_nil (hK1 _ ?_); clear hK1
  refine good_seq fun K2 hK2 => ?_
  refine good_region rfl ?_
  refine ev_q rfl (q_move (by conv => lhs; whnf) ?_)
  refine ev_q rfl (q_callB rfl rfl (rfl) (D_impl_within ..) ?_)
  intro b3 hb3; cases b3
  · first | replace hb3 := dF hb3 | skip
    refine ev_q rfl (q_assign (by conv => lhs; whnf) ?_)
    refine ev_nil (hK2 _ ?_); clear hK2
    refine good_ret ?_
    repeat (first | refine thenQ_ret ?_ | refine blockQ_ret ?_)
    refine ret_tmp (st := _) rfl (by conv => lhs; whnf) rfl ?_
    first | rfl | exact fT (by first | omega | grind) | exact fF (by first | omega | grind) | exact fT' (by first | omega | grind) | (exfalso; first | omega | grind)
  · first | replace hb3 := dT hb3 | skip
    refine ev_q rfl (q_assign (by conv => lhs; whnf) ?_)
    refine ev_nil (hK2 _ ?_); clear hK2
    refine good_ret ?_
    repeat (first | refine thenQ_ret ?_ | refine blockQ_ret ?_)
    refine ret_tmp (st := _) rfl (by conv => lhs; whnf) rfl ?_
    first | rfl | exact fT (by first | omega | grind) | exact fF (by first | omega | grind) | exact fT' (by first | omega | grind) | (exfalso; first | omega | grind)

-- impl.pressureOk
set_option maxRecDepth 20000 in
set_option maxHeartbeats 2000000 in
theorem D_impl_pressureOk (a : Int)  : Den Try.prog 45 [.s (.int .i64 a)] (.s (.bool (decide (0 ≤ a ∧ a ≤ 100000000)))) := by
  refine den_of_good Try.func45 (by decide) rfl (Nat.le_of_ble_eq_true rfl) (Nat.le_of_ble_eq_true rfl) ?_
  refine good_seq fun K1 hK1 => ?_
  refine good_region rfl ?_
  refine ev_q rfl (q_assign (by conv => lhs; whnf) ?_)
  refine ev_nil (hK1 _ ?_); clear hK1
  refine good_seq fun K2 hK2 => ?_
  refine good_region rfl ?_
  refine ev_q rfl (q_move (by conv => lhs; whnf) ?_)
  refine ev_q rfl (q_callB rfl rfl (rfl) (D_impl_within ..) ?_)
  intro b3 hb3; cases b3
  · first | replace hb3 := dF hb3 | skip
    refine ev_q rfl (q_assign (by conv => lhs; whnf) ?_)
    refine ev_nil (hK2 _ ?_); clear hK2
    refine good_ret ?_
    repeat (first | refine thenQ_ret ?_ | refine blockQ_ret ?_)
    refine ret_tmp (st := _) rfl (by conv => lhs; whnf) rfl ?_
    first | rfl | exact fT (by first | omega | grind) | exact fF (by first | omega | grind) | exact fT' (by first | omega | grind) | (exfalso; first | omega | grind)
  · first | replace hb3 := dT hb3 | skip
    refine ev_q rfl (q_assign (by conv => lhs; whnf) ?_)
    refine ev_nil (hK2 _ ?_); clear hK2
    refine good_ret ?_
    repeat (first | refine thenQ_ret ?_ | refine blockQ_ret ?_)
    refine ret_tmp (st := _) rfl (by conv => lhs; whnf) rfl ?_
    first | rfl | exact fT (by first | omega | grind) | exact fF (by first | omega | grind) | exact fT' (by first | omega | grind) | (exfalso; first | omega | grind)

-- spec.l03Press
set_option maxRecDepth 20000 in
set_option maxHeartbeats 2000000 in
theorem D_spec_l03Press (a : Int)  : Den Try.prog 40 [.s (.int .i64 a)] (.s (.bool (decide (0 ≤ a ∧ a ≤ 100000000)))) := by
  refine den_of_good Try.func40 (by decide) rfl (Nat.le_of_ble_eq_true rfl) (Nat.le_of_ble_eq_true rfl) ?_
  refine good_seq fun K1 hK1 => ?_
  refine good_region rfl ?_
  refine ev_q rfl (q_assign (by conv => lhs; whnf) ?_)
  refine ev_nil (hK1 _ ?_); clear hK1
  refine good_seq fun K2 hK2 => ?_
  refine good_region rfl ?_
  refine ev_q rfl (q_move (by conv => lhs; whnf) ?_)
  refine ev_q rfl (q_callB rfl rfl (rfl) (D_spec_l00In ..) ?_)
  intro b3 hb3; cases b3
  · first | replace hb3 := dF hb3 | skip
    refine ev_q rfl (q_assign (by conv => lhs; whnf) ?_)
    refine ev_nil (hK2 _ ?_); clear hK2
    refine good_ret ?_
    repeat (first | refine thenQ_ret ?_ | refine blockQ_ret ?_)
    refine ret_tmp (st := _) rfl (by conv => lhs; whnf) rfl ?_
    first | rfl | exact fT (by first | omega | grind) | exact fF (by first | omega | grind) | exact fT' (by first | omega | grind) | (exfalso; first | omega | grind)
  · first | replace hb3 := dT hb3 | skip
    refine ev_q rfl (q_assign (by conv => lhs; whnf) ?_)
    refine ev_nil (hK2 _ ?_); clear hK2
    refine good_ret ?_
    repeat (first | refine thenQ_ret ?_ | refine blockQ_ret ?_)
    refine ret_tmp (st := _) rfl (by conv => lhs; whnf) rfl ?_
    first | rfl | exact fT (by first | omega | grind) | exact fF (by first | omega | grind) | exact fT' (by first | omega | grind) | (exfalso; first | omega | grind)

-- spec.l02Degrees
set_option maxRecDepth 20000 in
set_option maxHeartbeats 2000000 in
theorem D_spec_l02Degrees (a : Int)  : Den Try.prog 84 [.s (.int .i64 a)] (.s (.bool (decide (0 ≤ a ∧ a ≤ 18000)))) := by
  refine den_of_good Try.func84 (by decide) rfl (Nat.le_of_ble_eq_true rfl) (Nat.le_of_ble_eq_true rfl) ?_
  refine good_seq fun K1 hK1 => ?_
  refine good_region rfl ?_
  refine ev_q rfl (q_assign (by conv => lhs; whnf) ?_)
  refine ev_nil (hK1 _ ?_); clear hK1
  refine good_seq fun K2 hK2 => ?_
  refine good_region rfl ?_
  refine ev_q rfl (q_move (by conv => lhs; whnf) ?_)
  refine ev_q rfl (q_callB rfl rfl (rfl) (D_spec_l00In ..) ?_)
  intro b3 hb3; cases b3
  · first | replace hb3 := dF hb3 | skip
    refine ev_q rfl (q_assign (by conv => lhs; whnf) ?_)
    refine ev_nil (hK2 _ ?_); clear hK2
    refine good_ret ?_
    repeat (first | refine thenQ_ret ?_ | refine blockQ_ret ?_)
    refine ret_tmp (st := _) rfl (by conv => lhs; whnf) rfl ?_
    first | rfl | exact fT (by first | omega | grind) | exact fF (by first | omega | grind) | exact fT' (by first | omega | grind) | (exfalso; first | omega | grind)
  · first | replace hb3 := dT hb3 | skip
    refine ev_q rfl (q_assign (by conv => lhs; whnf) ?_)
    refine ev_nil (hK2 _ ?_); clear hK2
    refine good_ret ?_
    repeat (first | refine thenQ_ret ?_ | refine blockQ_ret ?_)
    refine ret_tmp (st := _) rfl (by conv => lhs; whnf) rfl ?_
    first | rfl | exact fT (by first | omega | grind) | exact fF (by first | omega | grind) | exact fT' (by first | omega | grind) | (exfalso; first | omega | grind)

-- spec.l11Warm
set_option maxRecDepth 20000 in
set_option maxHeartbeats 2000000 in
theorem D_spec_l11Warm (a : Int)  : Den Try.prog 56 [.s (.int .i64 a)] (.s (.bool (decide (0 ≤ a ∧ a ≤ 18000)))) := by
  refine den_of_good Try.func56 (by decide) rfl (Nat.le_of_ble_eq_true rfl) (Nat.le_of_ble_eq_true rfl) ?_
  refine good_seq fun K1 hK1 => ?_
  refine good_region rfl ?_
  refine ev_q rfl (q_assign (by conv => lhs; whnf) ?_)
  refine ev_nil (hK1 _ ?_); clear hK1
  refine good_seq fun K2 hK2 => ?_
  refine good_region rfl ?_
  refine ev_q rfl (q_move (by conv => lhs; whnf) ?_)
  refine ev_q rfl (q_callB rfl rfl (rfl) (D_spec_l02Degrees ..) ?_)
  intro b3 hb3; cases b3
  · first | replace hb3 := dF hb3 | skip
    refine ev_q rfl (q_assign (by conv => lhs; whnf) ?_)
    refine ev_nil (hK2 _ ?_); clear hK2
    refine good_ret ?_
    repeat (first | refine thenQ_ret ?_ | refine blockQ_ret ?_)
    refine ret_tmp (st := _) rfl (by conv => lhs; whnf) rfl ?_
    first | rfl | exact fT (by first | omega | grind) | exact fF (by first | omega | grind) | exact fT' (by first | omega | grind) | (exfalso; first | omega | grind)
  · first | replace hb3 := dT hb3 | skip
    refine ev_q rfl (q_assign (by conv => lhs; whnf) ?_)
    refine ev_nil (hK2 _ ?_); clear hK2
    refine good_ret ?_
    repeat (first | refine thenQ_ret ?_ | refine blockQ_ret ?_)
    refine ret_tmp (st := _) rfl (by conv => lhs; whnf) rfl ?_
    first | rfl | exact fT (by first | omega | grind) | exact fF (by first | omega | grind) | exact fT' (by first | omega | grind) | (exfalso; first | omega | grind)

-- spec.l11Margin
set_option maxRecDepth 20000 in
set_option maxHeartbeats 2000000 in
theorem D_spec_l11Margin (a : Int)  : Den Try.prog 42 [.s (.int .i64 a)] (.s (.bool (decide (0 ≤ a ∧ a ≤ 1000000)))) := by
  refine den_of_good Try.func42 (by decide) rfl (Nat.le_of_ble_eq_true rfl) (Nat.le_of_ble_eq_true rfl) ?_
  refine good_seq fun K1 hK1 => ?_
  refine good_region rfl ?_
  refine ev_q rfl (q_assign (by conv => lhs; whnf) ?_)
  refine ev_nil (hK1 _ ?_); clear hK1
  refine good_seq fun K2 hK2 => ?_
  refine good_region rfl ?_
  refine ev_q rfl (q_move (by conv => lhs; whnf) ?_)
  refine ev_q rfl (q_callB rfl rfl (rfl) (D_spec_l00In ..) ?_)
  intro b3 hb3; cases b3
  · first | replace hb3 := dF hb3 | skip
    refine ev_q rfl (q_assign (by conv => lhs; whnf) ?_)
    refine ev_nil (hK2 _ ?_); clear hK2
    refine good_ret ?_
    repeat (first | refine thenQ_ret ?_ | refine blockQ_ret ?_)
    refine ret_tmp (st := _) rfl (by conv => lhs; whnf) rfl ?_
    first | rfl | exact fT (by first | omega | grind) | exact fF (by first | omega | grind) | exact fT' (by first | omega | grind) | (exfalso; first | omega | grind)
  · first | replace hb3 := dT hb3 | skip
    refine ev_q rfl (q_assign (by conv => lhs; whnf) ?_)
    refine ev_nil (hK2 _ ?_); clear hK2
    refine good_ret ?_
    repeat (first | refine thenQ_ret ?_ | refine blockQ_ret ?_)
    refine ret_tmp (st := _) rfl (by conv => lhs; whnf) rfl ?_
    first | rfl | exact fT (by first | omega | grind) | exact fF (by first | omega | grind) | exact fT' (by first | omega | grind) | (exfalso; first | omega | grind)

-- impl.boilingCode
set_option maxRecDepth 20000 in
set_option maxHeartbeats 2000000 in
theorem D_impl_boilingCode (xs ds : List Int) (m lim : Int) (hx : xs.length ≤ 17592186044416) (hd : ds.length ≤ 17592186044416) : Den Try.prog 41 [.lst 1 (xs.map ci), .lst 1 (ds.map ci), .s (.int .i64 m), .s (.int .i64 lim)] (.s (.int .i64 (bc xs ds m lim))) := by
  refine den_of_good Try.func41 (by decide) rfl (Nat.le_of_ble_eq_true rfl) (Nat.le_of_ble_eq_true rfl) ?_
  refine good_seq fun K1 hK1 => ?_
  refine good_region rfl ?_
  refine ev_q rfl (q_assign (by conv => lhs; whnf) ?_)
  refine ev_nil (hK1 _ ?_); clear hK1
  refine good_seq fun K2 hK2 => ?_
  refine good_block ?_
  refine good_seq fun K3 hK3 => ?_
  refine good_region rfl ?_
  refine ev_q rfl (q_move (by conv => lhs; whnf) ?_)
  refine ev_q rfl (q_callB rfl rfl (rfl) (D_impl_marginOk ..) ?_)
  intro b4 hb4; cases b4
  · first | replace hb4 := dF hb4 | skip
    refine ev_q rfl (q_not rfl rfl ?_)
    refine ev_q rfl (q_move (by conv => lhs; whnf) ?_)
    refine ev_skip rfl ?_
    refine ev_skip rfl ?_
    refine ev_skip rfl ?_
    refine ev_q rfl (q_pickT rfl (by conv => lhs; whnf) ?_)
    refine ev_q rfl (q_move (by conv => lhs; whnf) ?_)
    refine ev_skip rfl ?_
    refine ev_skip rfl ?_
    refine ev_skip rfl ?_
    refine ev_q rfl (q_pickT rfl (by conv => lhs; whnf) ?_)
    refine ev_q rfl (q_move (by conv => lhs; whnf) ?_)
    refine ev_skip rfl ?_
    refine ev_skip rfl ?_
    refine ev_skip rfl ?_
    refine ev_q rfl (q_pickT rfl (by conv => lhs; whnf) ?_)
    refine ev_q rfl (q_assign (by conv => lhs; whnf) ?_)
    refine ev_nil (hK3 _ ?_); clear hK3
    refine good_condT rfl ?_
    refine good_seq fun K5 hK5 => ?_
    refine good_region rfl ?_
    refine ev_q rfl (q_assign (by conv => lhs; whnf) ?_)
    refine ev_nil (hK5 _ ?_); clear hK5
    refine good_ret ?_
    repeat (first | refine thenQ_ret ?_ | refine blockQ_ret ?_)
    refine ret_tmp (st := _) rfl (by conv => lhs; whnf) rfl ?_
    clear hK2
    first | exact fI (by rw [bc_zero ⟨by omega, by omega⟩]; first | rw [ln0 (by assumption) (by assumption) (by omega)] | rw [ln7 (by assumption) (by assumption) (by omega)] | rw [ln2 (.inl (by assumption))] | rw [ln2 (.inr (by assumption))]) | exact fI (by unfold bc; rw [if_neg (by omega)])
  · first | replace hb4 := dT hb4 | skip
    refine ev_q rfl (q_not rfl rfl ?_)
    refine ev_q rfl (q_move (by conv => lhs; whnf) ?_)
    refine ev_q rfl (q_move (by conv => lhs; whnf) ?_)
    refine ev_q rfl (q_callB rfl rfl (rfl) (D_impl_pressureOk ..) ?_)
    intro b6 hb6; cases b6
    · first | replace hb6 := dF hb6 | skip
      refine ev_q rfl (q_not rfl rfl ?_)
      refine ev_q rfl (q_pickF rfl (by conv => lhs; whnf) ?_)
      refine ev_q rfl (q_move (by conv => lhs; whnf) ?_)
      refine ev_skip rfl ?_
      refine ev_skip rfl ?_
      refine ev_skip rfl ?_
      refine ev_q rfl (q_pickT rfl (by conv => lhs; whnf) ?_)
      refine ev_q rfl (q_move (by conv => lhs; whnf) ?_)
      refine ev_skip rfl ?_
      refine ev_skip rfl ?_
      refine ev_skip rfl ?_
      refine ev_q rfl (q_pickT rfl (by conv => lhs; whnf) ?_)
      refine ev_q rfl (q_assign (by conv => lhs; whnf) ?_)
      refine ev_nil (hK3 _ ?_); clear hK3
      refine good_condT rfl ?_
      refine good_seq fun K7 hK7 => ?_
      refine good_region rfl ?_
      refine ev_q rfl (q_assign (by conv => lhs; whnf) ?_)
      refine ev_nil (hK7 _ ?_); clear hK7
      refine good_ret ?_
      repeat (first | refine thenQ_ret ?_ | refine blockQ_ret ?_)
      refine ret_tmp (st := _) rfl (by conv => lhs; whnf) rfl ?_
      clear hK2
      first | exact fI (by rw [bc_zero ⟨by omega, by omega⟩]; first | rw [ln0 (by assumption) (by assumption) (by omega)] | rw [ln7 (by assumption) (by assumption) (by omega)] | rw [ln2 (.inl (by assumption))] | rw [ln2 (.inr (by assumption))]) | exact fI (by unfold bc; rw [if_neg (by omega)])
    · first | replace hb6 := dT hb6 | skip
      refine ev_q rfl (q_not rfl rfl ?_)
      refine ev_q rfl (q_pickF rfl (by conv => lhs; whnf) ?_)
      refine ev_q rfl (q_move (by conv => lhs; whnf) ?_)
      refine ev_q rfl (q_move (by conv => lhs; whnf) ?_)
      refine ev_q rfl (q_callB rfl rfl (rfl) (D_impl_allWithin xs _ _ hx) ?_)
      intro b8 hb8; cases b8
      · first | replace hb8 := dF hb8 | skip
        refine ev_q rfl (q_not rfl rfl ?_)
        refine ev_q rfl (q_pickF rfl (by conv => lhs; whnf) ?_)
        refine ev_q rfl (q_move (by conv => lhs; whnf) ?_)
        refine ev_skip rfl ?_
        refine ev_skip rfl ?_
        refine ev_skip rfl ?_
        refine ev_q rfl (q_pickT rfl (by conv => lhs; whnf) ?_)
        refine ev_q rfl (q_assign (by conv => lhs; whnf) ?_)
        refine ev_nil (hK3 _ ?_); clear hK3
        refine good_condT rfl ?_
        refine good_seq fun K9 hK9 => ?_
        refine good_region rfl ?_
        refine ev_q rfl (q_assign (by conv => lhs; whnf) ?_)
        refine ev_nil (hK9 _ ?_); clear hK9
        refine good_ret ?_
        repeat (first | refine thenQ_ret ?_ | refine blockQ_ret ?_)
        refine ret_tmp (st := _) rfl (by conv => lhs; whnf) rfl ?_
        clear hK2
        first | exact fI (by rw [bc_zero ⟨by omega, by omega⟩]; first | rw [ln0 (by assumption) (by assumption) (by omega)] | rw [ln7 (by assumption) (by assumption) (by omega)] | rw [ln2 (.inl (by assumption))] | rw [ln2 (.inr (by assumption))]) | exact fI (by unfold bc; rw [if_neg (by omega)])
      · first | replace hb8 := dT hb8 | skip
        refine ev_q rfl (q_not rfl rfl ?_)
        refine ev_q rfl (q_pickF rfl (by conv => lhs; whnf) ?_)
        refine ev_q rfl (q_move (by conv => lhs; whnf) ?_)
        refine ev_q rfl (q_move (by conv => lhs; whnf) ?_)
        refine ev_q rfl (q_callB rfl rfl (rfl) (D_impl_allWithin ds _ _ hd) ?_)
        intro b10 hb10; cases b10
        · first | replace hb10 := dF hb10 | skip
          refine ev_q rfl (q_not rfl rfl ?_)
          refine ev_q rfl (q_pickF rfl (by conv => lhs; whnf) ?_)
          refine ev_q rfl (q_assign (by conv => lhs; whnf) ?_)
          refine ev_nil (hK3 _ ?_); clear hK3
          refine good_condT rfl ?_
          refine good_seq fun K11 hK11 => ?_
          refine good_region rfl ?_
          refine ev_q rfl (q_assign (by conv => lhs; whnf) ?_)
          refine ev_nil (hK11 _ ?_); clear hK11
          refine good_ret ?_
          repeat (first | refine thenQ_ret ?_ | refine blockQ_ret ?_)
          refine ret_tmp (st := _) rfl (by conv => lhs; whnf) rfl ?_
          clear hK2
          first | exact fI (by rw [bc_zero ⟨by omega, by omega⟩]; first | rw [ln0 (by assumption) (by assumption) (by omega)] | rw [ln7 (by assumption) (by assumption) (by omega)] | rw [ln2 (.inl (by assumption))] | rw [ln2 (.inr (by assumption))]) | exact fI (by unfold bc; rw [if_neg (by omega)])
        · first | replace hb10 := dT hb10 | skip
          refine ev_q rfl (q_not rfl rfl ?_)
          refine ev_q rfl (q_pickF rfl (by conv => lhs; whnf) ?_)
          refine ev_q rfl (q_assign (by conv => lhs; whnf) ?_)
          refine ev_nil (hK3 _ ?_); clear hK3
          refine good_condF rfl ?_
          refine good_seq fun K12 hK12 => ?_
          refine good_region rfl ?_
          refine ev_q rfl (q_move (by conv => lhs; whnf) ?_)
          refine ev_q rfl (q_len tEs22 rfl ?_)
          intro n13 hn13
          try simp only [List.length_map] at hn13
          refine ev_q rfl (q_move (by conv => lhs; whnf) ?_)
          refine ev_q rfl (q_len tEs22 rfl ?_)
          intro n14 hn14
          try simp only [List.length_map] at hn14
          refine ev_q rfl (q_int rfl rfl ?_)
          intro b15 hb15; cases b15
          · replace hb15 := neF hb15
            refine ev_q rfl (q_move (by conv => lhs; whnf) ?_)
            refine ev_q rfl (q_move (by conv => lhs; whnf) ?_)
            refine ev_q rfl (q_len tEs22 rfl ?_)
            intro n16 hn16
            try simp only [List.length_map] at hn16
            refine ev_q rfl (q_int rfl rfl ?_)
            intro b17 hb17; cases b17
            · replace hb17 := dF hb17
              refine ev_q rfl (q_pickF rfl (by conv => lhs; whnf) ?_)
              refine ev_q rfl (q_assign (by conv => lhs; whnf) ?_)
              refine ev_nil (hK12 _ ?_); clear hK12
              refine good_condF rfl ?_
              refine good_skip (hK2 _ ?_); clear hK2
              refine good_seq fun K18 hK18 => ?_
              refine good_region rfl ?_
              refine ev_q rfl (q_assign (by conv => lhs; whnf) ?_)
              refine ev_nil (hK18 _ ?_); clear hK18
              refine good_ret ?_
              repeat (first | refine thenQ_ret ?_ | refine blockQ_ret ?_)
              refine ret_tmp (st := _) rfl (by conv => lhs; whnf) rfl ?_
              first | exact fI (by rw [bc_zero ⟨by omega, by omega⟩]; first | rw [ln0 (by assumption) (by assumption) (by omega)] | rw [ln7 (by assumption) (by assumption) (by omega)] | rw [ln2 (.inl (by assumption))] | rw [ln2 (.inr (by assumption))]) | exact fI (by unfold bc; rw [if_neg (by omega)])
            · replace hb17 := dT hb17
              refine ev_q rfl (q_pickF rfl (by conv => lhs; whnf) ?_)
              refine ev_q rfl (q_assign (by conv => lhs; whnf) ?_)
              refine ev_nil (hK12 _ ?_); clear hK12
              refine good_condT rfl ?_
              refine good_seq fun K19 hK19 => ?_
              refine good_region rfl ?_
              refine ev_q rfl (q_assign (by conv => lhs; whnf) ?_)
              refine ev_nil (hK19 _ ?_); clear hK19
              refine good_ret ?_
              repeat (first | refine thenQ_ret ?_ | refine blockQ_ret ?_)
              refine ret_tmp (st := _) rfl (by conv => lhs; whnf) rfl ?_
              clear hK2
              first | exact fI (by rw [bc_zero ⟨by omega, by omega⟩]; first | rw [ln0 (by assumption) (by assumption) (by omega)] | rw [ln7 (by assumption) (by assumption) (by omega)] | rw [ln2 (.inl (by assumption))] | rw [ln2 (.inr (by assumption))]) | exact fI (by unfold bc; rw [if_neg (by omega)])
          · replace hb15 := neT hb15
            refine ev_q rfl (q_move (by conv => lhs; whnf) ?_)
            refine ev_skip rfl ?_
            refine ev_skip rfl ?_
            refine ev_skip rfl ?_
            refine ev_q rfl (q_pickT rfl (by conv => lhs; whnf) ?_)
            refine ev_q rfl (q_assign (by conv => lhs; whnf) ?_)
            refine ev_nil (hK12 _ ?_); clear hK12
            refine good_condT rfl ?_
            refine good_seq fun K20 hK20 => ?_
            refine good_region rfl ?_
            refine ev_q rfl (q_assign (by conv => lhs; whnf) ?_)
            refine ev_nil (hK20 _ ?_); clear hK20
            refine good_ret ?_
            repeat (first | refine thenQ_ret ?_ | refine blockQ_ret ?_)
            refine ret_tmp (st := _) rfl (by conv => lhs; whnf) rfl ?_
            clear hK2
            first | exact fI (by rw [bc_zero ⟨by omega, by omega⟩]; first | rw [ln0 (by assumption) (by assumption) (by omega)] | rw [ln7 (by assumption) (by assumption) (by omega)] | rw [ln2 (.inl (by assumption))] | rw [ln2 (.inr (by assumption))]) | exact fI (by unfold bc; rw [if_neg (by omega)])

-- spec.l11Nodes
set_option maxRecDepth 20000 in
set_option maxHeartbeats 2000000 in
theorem D_spec_l11Nodes (xs ds : List Int) (hx : xs.length ≤ 17592186044416) (hd : ds.length ≤ 17592186044416) : Den Try.prog 39 [.lst 1 (xs.map ci), .lst 1 (ds.map ci)] (.s (.int .i64 (ln xs ds))) := by
  refine den_of_good Try.func39 (by decide) rfl (Nat.le_of_ble_eq_true rfl) (Nat.le_of_ble_eq_true rfl) ?_
  refine good_seq fun K1 hK1 => ?_
  refine good_region rfl ?_
  refine ev_q rfl (q_assign (by conv => lhs; whnf) ?_)
  refine ev_nil (hK1 _ ?_); clear hK1
  refine good_seq fun K2 hK2 => ?_
  refine good_seq fun K3 hK3 => ?_
  refine good_region rfl ?_
  refine ev_q rfl (q_assign (by conv => lhs; whnf) ?_)
  refine ev_nil (hK3 _ ?_); clear hK3
  refine good_block ?_
  refine good_loop (α := Nat) (fun i => { env := upd (upd (upd ((fun _ => .junk)) 0 (.lst 1 (xs.map ci))) 1 (.lst 1 (ds.map ci))) 5 (.s (.int .i64 i)), H := fun _ => none }) (fun i => i ≤ xs.length ∧ ∀ j q, j < i → xs[j]? = some q → (-100000000) ≤ q ∧ q ≤ 100000000) (fun i => xs.length - i) 0 ?_ ?_ ?_
  · exact ⟨by omega, fun j u hj => by omega⟩
  · refine sub_weak ?_ ?_
    · exact weakH_none _
    · refine weakE_upd ?e5 ?r5 (weakE_upd ?e1 ?r1 (weakE_upd ?e0 ?r0 (weakE_junk _ _)))
      case e0 => first | rfl | exact fI (by omega) | (simp_all)
      case r0 => intro h hh; cases hh
      case e1 => first | rfl | exact fI (by omega) | (simp_all)
      case r1 => intro h hh; cases hh
      case e5 => first | rfl | exact fI (by omega) | (simp_all)
      case r5 => intro h hh; cases hh
  · rintro i ⟨hIi, hJi⟩
    refine good_seq fun K4 hK4 => ?_
    refine good_seq fun K5 hK5 => ?_
    refine good_region rfl ?_
    refine ev_q rfl (q_move (by conv => lhs; whnf) ?_)
    refine ev_q rfl (q_move (by conv => lhs; whnf) ?_)
    refine ev_q rfl (q_len tEs22 rfl ?_)
    intro n6 hn6
    try simp only [List.length_map] at hn6
    refine ev_q rfl (q_int rfl rfl ?_)
    intro b7 hb7; cases b7
    · replace hb7 := dF hb7
      refine ev_nil (hK5 _ ?_); clear hK5
      refine good_condF rfl ?_
      refine good_exit ?_
      repeat (first | refine thenQ_exit ?_ | refine blockQ_pass rfl ?_)
      refine blockQ_exit (hK2 _ ?_); clear hK2
      refine good_seq fun K8 hK8 => ?_
      refine good_seq fun K9 hK9 => ?_
      refine good_region rfl ?_
      refine ev_q rfl (q_assign (by conv => lhs; whnf) ?_)
      refine ev_nil (hK9 _ ?_); clear hK9
      refine good_block ?_
      have hw : within xs (-100000000) 100000000 := all_finI (Q := fun _ q => (-100000000) ≤ q ∧ q ≤ 100000000) hJi (by omega)
      refine good_loop (α := Nat) (fun k => { env := upd (upd (upd ((fun _ => .junk)) 0 (.lst 1 (xs.map ci))) 1 (.lst 1 (ds.map ci))) 6 (.s (.int .i64 k)), H := fun _ => none }) (fun k => k ≤ ds.length ∧ ∀ j q, j < k → ds[j]? = some q → (0) ≤ q ∧ q ≤ 18000) (fun k => ds.length - k) 0 ?_ ?_ ?_
      · exact ⟨by omega, fun j u hj => by omega⟩
      · refine sub_weak ?_ ?_
        · exact weakH_none _
        · refine weakE_upd ?e6 ?r6 (weakE_upd ?e1 ?r1 (weakE_upd ?e0 ?r0 (weakE_junk _ _)))
          case e0 => first | rfl | exact fI (by omega) | (simp_all)
          case r0 => intro h hh; cases hh
          case e1 => first | rfl | exact fI (by omega) | (simp_all)
          case r1 => intro h hh; cases hh
          case e6 => first | rfl | exact fI (by omega) | (simp_all)
          case r6 => intro h hh; cases hh
      · rintro k ⟨hIk, hJk⟩
        refine good_seq fun K10 hK10 => ?_
        refine good_seq fun K11 hK11 => ?_
        refine good_region rfl ?_
        refine ev_q rfl (q_move (by conv => lhs; whnf) ?_)
        refine ev_q rfl (q_move (by conv => lhs; whnf) ?_)
        refine ev_q rfl (q_len tEs22 rfl ?_)
        intro n12 hn12
        try simp only [List.length_map] at hn12
        refine ev_q rfl (q_int rfl rfl ?_)
        intro b13 hb13; cases b13
        · replace hb13 := dF hb13
          refine ev_nil (hK11 _ ?_); clear hK11
          refine good_condF rfl ?_
          refine good_exit ?_
          repeat (first | refine thenQ_exit ?_ | refine blockQ_pass rfl ?_)
          refine blockQ_exit (hK8 _ ?_); clear hK8
          refine good_seq fun K14 hK14 => ?_
          refine good_seq fun K15 hK15 => ?_
          refine good_region rfl ?_
          refine ev_q rfl (q_move (by conv => lhs; whnf) ?_)
          refine ev_q rfl (q_len tEs22 rfl ?_)
          intro n16 hn16
          try simp only [List.length_map] at hn16
          refine ev_q rfl (q_move (by conv => lhs; whnf) ?_)
          refine ev_q rfl (q_len tEs22 rfl ?_)
          intro n17 hn17
          try simp only [List.length_map] at hn17
          refine ev_q rfl (q_int rfl rfl ?_)
          intro b18 hb18; cases b18
          · replace hb18 := neF hb18
            refine ev_q rfl (q_move (by conv => lhs; whnf) ?_)
            refine ev_q rfl (q_move (by conv => lhs; whnf) ?_)
            refine ev_q rfl (q_len tEs22 rfl ?_)
            intro n19 hn19
            try simp only [List.length_map] at hn19
            refine ev_q rfl (q_int rfl rfl ?_)
            intro b20 hb20; cases b20
            · replace hb20 := dF hb20
              refine ev_q rfl (q_pickF rfl (by conv => lhs; whnf) ?_)
              refine ev_nil (hK15 _ ?_); clear hK15
              refine good_condF rfl ?_
              refine good_skip (hK14 _ ?_); clear hK14
              refine good_seq fun K21 hK21 => ?_
              refine good_region rfl ?_
              refine ev_q rfl (q_assign (by conv => lhs; whnf) ?_)
              refine ev_nil (hK21 _ ?_); clear hK21
              refine good_ret ?_
              repeat (first | refine thenQ_ret ?_ | refine blockQ_ret ?_)
              refine ret_tmp (st := _) rfl (by conv => lhs; whnf) rfl ?_
              clear hK4 hK10
              first | exact fI (by rw [ln2 (.inl (fun h => by have := h _ _ hpi; omega))]) | exact fI (by rw [ln2 (.inr (fun h => by have := h _ _ hpk; omega))]) | (have hw2 : within ds 0 18000 := all_finI (Q := fun _ q => 0 ≤ q ∧ q ≤ 18000) hJk (by omega); exact fI (by first | rw [ln0 hw hw2 (by omega)] | rw [ln7 hw hw2 (by omega)]))
            · replace hb20 := dT hb20
              refine ev_q rfl (q_pickF rfl (by conv => lhs; whnf) ?_)
              refine ev_nil (hK15 _ ?_); clear hK15
              refine good_condT rfl ?_
              refine good_seq fun K22 hK22 => ?_
              refine good_region rfl ?_
              refine ev_q rfl (q_assign (by conv => lhs; whnf) ?_)
              refine ev_nil (hK22 _ ?_); clear hK22
              refine good_ret ?_
              repeat (first | refine thenQ_ret ?_ | refine blockQ_ret ?_)
              refine ret_tmp (st := _) rfl (by conv => lhs; whnf) rfl ?_
              clear hK4 hK10 hK14
              first | exact fI (by rw [ln2 (.inl (fun h => by have := h _ _ hpi; omega))]) | exact fI (by rw [ln2 (.inr (fun h => by have := h _ _ hpk; omega))]) | (have hw2 : within ds 0 18000 := all_finI (Q := fun _ q => 0 ≤ q ∧ q ≤ 18000) hJk (by omega); exact fI (by first | rw [ln0 hw hw2 (by omega)] | rw [ln7 hw hw2 (by omega)]))
          · replace hb18 := neT hb18
            refine ev_q rfl (q_move (by conv => lhs; whnf) ?_)
            refine ev_skip rfl ?_
            refine ev_skip rfl ?_
            refine ev_skip rfl ?_
            refine ev_q rfl (q_pickT rfl (by conv => lhs; whnf) ?_)
            refine ev_nil (hK15 _ ?_); clear hK15
            refine good_condT rfl ?_
            refine good_seq fun K23 hK23 => ?_
            refine good_region rfl ?_
            refine ev_q rfl (q_assign (by conv => lhs; whnf) ?_)
            refine ev_nil (hK23 _ ?_); clear hK23
            refine good_ret ?_
            repeat (first | refine thenQ_ret ?_ | refine blockQ_ret ?_)
            refine ret_tmp (st := _) rfl (by conv => lhs; whnf) rfl ?_
            clear hK4 hK10 hK14
            first | exact fI (by rw [ln2 (.inl (fun h => by have := h _ _ hpi; omega))]) | exact fI (by rw [ln2 (.inr (fun h => by have := h _ _ hpk; omega))]) | (have hw2 : within ds 0 18000 := all_finI (Q := fun _ q => 0 ≤ q ∧ q ≤ 18000) hJk (by omega); exact fI (by first | rw [ln0 hw hw2 (by omega)] | rw [ln7 hw hw2 (by omega)]))
        · replace hb13 := dT hb13
          obtain ⟨pk, hpk⟩ := getL (xs := ds) (n := (k : Int)) (by omega) (by omega)
          replace hpk : ds[k]? = some pk := hpk
          refine ev_nil (hK11 _ ?_); clear hK11
          refine good_condT rfl ?_
          refine good_skip (hK10 _ ?_); clear hK10
          refine good_seq fun K24 hK24 => ?_
          refine good_block ?_
          refine good_seq fun K25 hK25 => ?_
          refine good_region rfl ?_
          refine ev_q rfl (q_move (by conv => lhs; whnf) ?_)
          refine ev_q rfl (q_move (by conv => lhs; whnf) ?_)
          refine ev_q rfl (q_idx tE22 rfl rfl (by exact Int.natCast_nonneg _) (by exact map_get hpk) rfl ?_)
          refine ev_q rfl (q_load tA2 rfl ?_)
          refine ev_q rfl (q_callB rfl rfl (rfl) (D_spec_l11Warm ..) ?_)
          intro b26 hb26; cases b26
          · first | replace hb26 := dF hb26 | skip
            refine ev_q rfl (q_not rfl rfl ?_)
            refine ev_nil (hK25 _ ?_); clear hK25
            refine good_condT rfl ?_
            refine good_seq fun K27 hK27 => ?_
            refine good_region rfl ?_
            refine ev_q rfl (q_assign (by conv => lhs; whnf) ?_)
            refine ev_nil (hK27 _ ?_); clear hK27
            refine good_ret ?_
            repeat (first | refine thenQ_ret ?_ | refine blockQ_ret ?_)
            refine ret_tmp (st := _) rfl (by conv => lhs; whnf) rfl ?_
            clear hK4 hK8 hK24
            first | exact fI (by rw [ln2 (.inl (fun h => by have := h _ _ hpi; omega))]) | exact fI (by rw [ln2 (.inr (fun h => by have := h _ _ hpk; omega))]) | (have hw2 : within ds 0 18000 := all_finI (Q := fun _ q => 0 ≤ q ∧ q ≤ 18000) hJk (by omega); exact fI (by first | rw [ln0 hw hw2 (by omega)] | rw [ln7 hw hw2 (by omega)]))
          · first | replace hb26 := dT hb26 | skip
            refine ev_q rfl (q_not rfl rfl ?_)
            refine ev_nil (hK25 _ ?_); clear hK25
            refine good_condF rfl ?_
            refine good_skip (hK24 _ ?_); clear hK24
            refine good_region rfl ?_
            refine ev_q rfl (q_move (by conv => lhs; whnf) ?_)
            refine ev_q rfl (q_int rfl rfl ?_)
            intro n28 hn28
            replace hn28 := in64 hn28 (by omega) (by omega)
            refine ev_q rfl (q_assign (by conv => lhs; whnf) ?_)
            refine ev_nil ?_
            clear hK4 hK8
            refine ⟨k + 1, ?_, ?_, ?_⟩
            · exact ⟨by omega, all_extI (Q := fun _ q => (0) ≤ q ∧ q ≤ 18000) hJk hpk (by omega)⟩
            · first | omega | (simp only []; omega) | (dsimp only; omega)
            · refine sub_weak ?_ ?_
              · exact weakH_none _
              · refine weakE_upd ?e6 ?r6 (weakE_upd ?e1 ?r1 (weakE_upd ?e0 ?r0 (weakE_junk _ _)))
                case e0 => first | rfl | exact fI (by omega) | (simp_all)
                case r0 => intro h hh; cases hh
                case e1 => first | rfl | exact fI (by omega) | (simp_all)
                case r1 => intro h hh; cases hh
                case e6 => first | rfl | exact fI (by omega) | (simp_all)
                case r6 => intro h hh; cases hh
    · replace hb7 := dT hb7
      obtain ⟨pi, hpi⟩ := getL (xs := xs) (n := (i : Int)) (by omega) (by omega)
      replace hpi : xs[i]? = some pi := hpi
      refine ev_nil (hK5 _ ?_); clear hK5
      refine good_condT rfl ?_
      refine good_skip (hK4 _ ?_); clear hK4
      refine good_seq fun K29 hK29 => ?_
      refine good_block ?_
      refine good_seq fun K30 hK30 => ?_
      refine good_region rfl ?_
      refine ev_q rfl (q_move (by conv => lhs; whnf) ?_)
      refine ev_q rfl (q_move (by conv => lhs; whnf) ?_)
      refine ev_q rfl (q_idx tE22 rfl rfl (by exact Int.natCast_nonneg _) (by exact map_get hpi) rfl ?_)
      refine ev_q rfl (q_load tA2 rfl ?_)
      refine ev_q rfl (q_callB rfl rfl (rfl) (D_spec_l00In ..) ?_)
      intro b31 hb31; cases b31
      · first | replace hb31 := dF hb31 | skip
        refine ev_q rfl (q_not rfl rfl ?_)
        refine ev_nil (hK30 _ ?_); clear hK30
        refine good_condT rfl ?_
        refine good_seq fun K32 hK32 => ?_
        refine good_region rfl ?_
        refine ev_q rfl (q_assign (by conv => lhs; whnf) ?_)
        refine ev_nil (hK32 _ ?_); clear hK32
        refine good_ret ?_
        repeat (first | refine thenQ_ret ?_ | refine blockQ_ret ?_)
        refine ret_tmp (st := _) rfl (by conv => lhs; whnf) rfl ?_
        clear hK2 hK29
        first | exact fI (by rw [ln2 (.inl (fun h => by have := h _ _ hpi; omega))]) | exact fI (by rw [ln2 (.inr (fun h => by have := h _ _ hpk; omega))]) | (have hw2 : within ds 0 18000 := all_finI (Q := fun _ q => 0 ≤ q ∧ q ≤ 18000) hJk (by omega); exact fI (by first | rw [ln0 hw hw2 (by omega)] | rw [ln7 hw hw2 (by omega)]))
      · first | replace hb31 := dT hb31 | skip
        refine ev_q rfl (q_not rfl rfl ?_)
        refine ev_nil (hK30 _ ?_); clear hK30
        refine good_condF rfl ?_
        refine good_skip (hK29 _ ?_); clear hK29
        refine good_region rfl ?_
        refine ev_q rfl (q_move (by conv => lhs; whnf) ?_)
        refine ev_q rfl (q_int rfl rfl ?_)
        intro n33 hn33
        replace hn33 := in64 hn33 (by omega) (by omega)
        refine ev_q rfl (q_assign (by conv => lhs; whnf) ?_)
        refine ev_nil ?_
        clear hK2
        refine ⟨i + 1, ?_, ?_, ?_⟩
        · exact ⟨by omega, all_extI (Q := fun _ q => (-100000000) ≤ q ∧ q ≤ 100000000) hJi hpi (by omega)⟩
        · first | omega | (simp only []; omega) | (dsimp only; omega)
        · refine sub_weak ?_ ?_
          · exact weakH_none _
          · refine weakE_upd ?e5 ?r5 (weakE_upd ?e1 ?r1 (weakE_upd ?e0 ?r0 (weakE_junk _ _)))
            case e0 => first | rfl | exact fI (by omega) | (simp_all)
            case r0 => intro h hh; cases hh
            case e1 => first | rfl | exact fI (by omega) | (simp_all)
            case r1 => intro h hh; cases hh
            case e5 => first | rfl | exact fI (by omega) | (simp_all)
            case r5 => intro h hh; cases hh

-- spec.l01Div
set_option maxRecDepth 20000 in
set_option maxHeartbeats 2000000 in
theorem D_spec_l01Div (a b : Int) (ha : -4000000000000000000 ≤ a ∧ a ≤ 4000000000000000000) (hb : b ≠ 0 ∧ -1000000000000000000 ≤ b ∧ b ≤ 1000000000000000000) : Den Try.prog 85 [.s (.int .i64 a), .s (.int .i64 b)] (.s (.int .i64 (dr a b))) := by
  refine den_of_good Try.func85 (by decide) rfl (Nat.le_of_ble_eq_true rfl) (Nat.le_of_ble_eq_true rfl) ?_
  refine good_seq fun K1 hK1 => ?_
  refine good_region rfl ?_
  refine ev_q rfl (q_assign (by conv => lhs; whnf) ?_)
  refine ev_nil (hK1 _ ?_); clear hK1
  refine good_seq fun K2 hK2 => ?_
  refine good_seq fun K3 hK3 => ?_
  refine good_region rfl ?_
  refine ev_q rfl (q_move (by conv => lhs; whnf) ?_)
  refine ev_q rfl (q_int rfl rfl ?_)
  intro b4 hb4; cases b4
  · replace hb4 := dF hb4
    refine ev_nil (hK3 _ ?_); clear hK3
    refine good_condF rfl ?_
    refine good_skip (hK2 _ ?_); clear hK2
    refine good_seq fun K5 hK5 => ?_
    refine good_seq fun K6 hK6 => ?_
    refine good_region rfl ?_
    refine ev_q rfl (q_move (by conv => lhs; whnf) ?_)
    refine ev_q rfl (q_int rfl rfl ?_)
    intro b7 hb7; cases b7
    · replace hb7 := dF hb7
      refine ev_nil (hK6 _ ?_); clear hK6
      refine good_condF rfl ?_
      refine good_skip (hK5 _ ?_); clear hK5
      refine good_seq fun K8 hK8 => ?_
      refine good_region rfl ?_
      refine ev_q rfl (q_move (by conv => lhs; whnf) ?_)
      refine ev_q rfl (q_int rfl rfl ?_)
      intro n9 hn9
      replace hn9 := in64 hn9 (by omega) (by omega)
      refine ev_q rfl (q_move (by conv => lhs; whnf) ?_)
      refine ev_q rfl (q_int rfl rfl ?_)
      intro n10 hn10
      replace hn10 := in64 hn10 (by omega) (by omega)
      refine ev_q rfl (q_move (by conv => lhs; whnf) ?_)
      refine ev_q rfl (q_int rfl rfl ?_)
      intro n11 hn11
      replace hn11 := in64 hn11 (by omega) (by omega)
      refine ev_q rfl (q_int rfl rfl ⟨by omega, ?_⟩)
      intro n12 hn12
      first | replace hn12 := quoE hn12 (by omega) (by omega) | replace hn12 := quoT hn12 (by omega) (by omega)
      refine ev_q rfl (q_assign (by conv => lhs; whnf) ?_)
      refine ev_nil (hK8 _ ?_); clear hK8
      refine good_ret ?_
      repeat (first | refine thenQ_ret ?_ | refine blockQ_ret ?_)
      refine ret_tmp (st := _) rfl (by conv => lhs; whnf) rfl ?_
      exact fI (by simp only [dr, drP]; subst_vars; first | rw [if_pos (by omega), if_pos (by omega)] | rw [if_pos (by omega), if_neg (by omega)] | rw [if_neg (by omega), if_pos (by omega)] | rw [if_neg (by omega), if_neg (by omega)])
    · replace hb7 := dT hb7
      refine ev_nil (hK6 _ ?_); clear hK6
      refine good_condT rfl ?_
      refine good_seq fun K13 hK13 => ?_
      refine good_region rfl ?_
      refine ev_q rfl (q_move (by conv => lhs; whnf) ?_)
      refine ev_q rfl (q_move (by conv => lhs; whnf) ?_)
      refine ev_q rfl (q_int rfl rfl ?_)
      intro n14 hn14
      replace hn14 := in64 hn14 (by omega) (by omega)
      refine ev_q rfl (q_int rfl rfl ?_)
      intro n15 hn15
      replace hn15 := in64 hn15 (by omega) (by omega)
      refine ev_q rfl (q_move (by conv => lhs; whnf) ?_)
      refine ev_q rfl (q_int rfl rfl ?_)
      intro n16 hn16
      replace hn16 := in64 hn16 (by omega) (by omega)
      refine ev_q rfl (q_int rfl rfl ⟨by omega, ?_⟩)
      intro n17 hn17
      first | replace hn17 := quoE hn17 (by omega) (by omega) | replace hn17 := quoT hn17 (by omega) (by omega)
      refine ev_q rfl (q_neg rfl ?_)
      intro n18 hn18
      have hd := divB (x := n15) (y := n16) (by omega) (by omega)
      rw [← hn17] at hd
      replace hn18 := neg64 hn18 (by omega) (by omega)
      refine ev_q rfl (q_assign (by conv => lhs; whnf) ?_)
      refine ev_nil (hK13 _ ?_); clear hK13
      refine good_ret ?_
      repeat (first | refine thenQ_ret ?_ | refine blockQ_ret ?_)
      refine ret_tmp (st := _) rfl (by conv => lhs; whnf) rfl ?_
      clear hK5
      exact fI (by simp only [dr, drP]; subst_vars; first | rw [if_pos (by omega), if_pos (by omega)] | rw [if_pos (by omega), if_neg (by omega)] | rw [if_neg (by omega), if_pos (by omega)] | rw [if_neg (by omega), if_neg (by omega)])
  · replace hb4 := dT hb4
    refine ev_nil (hK3 _ ?_); clear hK3
    refine good_condT rfl ?_
    refine good_seq fun K19 hK19 => ?_
    refine good_region rfl ?_
    refine ev_q rfl (q_move (by conv => lhs; whnf) ?_)
    refine ev_q rfl (q_neg rfl ?_)
    intro n20 hn20
    replace hn20 := neg64 hn20 (by omega) (by omega)
    refine ev_q rfl (q_assign (by conv => lhs; whnf) ?_)
    refine ev_nil (hK19 _ ?_); clear hK19
    refine good_region rfl ?_
    refine ev_q rfl (q_move (by conv => lhs; whnf) ?_)
    refine ev_q rfl (q_neg rfl ?_)
    intro n21 hn21
    replace hn21 := neg64 hn21 (by omega) (by omega)
    refine ev_q rfl (q_assign (by conv => lhs; whnf) ?_)
    refine ev_nil (hK2 _ ?_); clear hK2
    refine good_seq fun K22 hK22 => ?_
    refine good_seq fun K23 hK23 => ?_
    refine good_region rfl ?_
    refine ev_q rfl (q_move (by conv => lhs; whnf) ?_)
    refine ev_q rfl (q_int rfl rfl ?_)
    intro b24 hb24; cases b24
    · replace hb24 := dF hb24
      refine ev_nil (hK23 _ ?_); clear hK23
      refine good_condF rfl ?_
      refine good_skip (hK22 _ ?_); clear hK22
      refine good_seq fun K25 hK25 => ?_
      refine good_region rfl ?_
      refine ev_q rfl (q_move (by conv => lhs; whnf) ?_)
      refine ev_q rfl (q_int rfl rfl ?_)
      intro n26 hn26
      replace hn26 := in64 hn26 (by omega) (by omega)
      refine ev_q rfl (q_move (by conv => lhs; whnf) ?_)
      refine ev_q rfl (q_int rfl rfl ?_)
      intro n27 hn27
      replace hn27 := in64 hn27 (by omega) (by omega)
      refine ev_q rfl (q_move (by conv => lhs; whnf) ?_)
      refine ev_q rfl (q_int rfl rfl ?_)
      intro n28 hn28
      replace hn28 := in64 hn28 (by omega) (by omega)
      refine ev_q rfl (q_int rfl rfl ⟨by omega, ?_⟩)
      intro n29 hn29
      first | replace hn29 := quoE hn29 (by omega) (by omega) | replace hn29 := quoT hn29 (by omega) (by omega)
      refine ev_q rfl (q_assign (by conv => lhs; whnf) ?_)
      refine ev_nil (hK25 _ ?_); clear hK25
      refine good_ret ?_
      repeat (first | refine thenQ_ret ?_ | refine blockQ_ret ?_)
      refine ret_tmp (st := _) rfl (by conv => lhs; whnf) rfl ?_
      exact fI (by simp only [dr, drP]; subst_vars; first | rw [if_pos (by omega), if_pos (by omega)] | rw [if_pos (by omega), if_neg (by omega)] | rw [if_neg (by omega), if_pos (by omega)] | rw [if_neg (by omega), if_neg (by omega)])
    · replace hb24 := dT hb24
      refine ev_nil (hK23 _ ?_); clear hK23
      refine good_condT rfl ?_
      refine good_seq fun K30 hK30 => ?_
      refine good_region rfl ?_
      refine ev_q rfl (q_move (by conv => lhs; whnf) ?_)
      refine ev_q rfl (q_move (by conv => lhs; whnf) ?_)
      refine ev_q rfl (q_int rfl rfl ?_)
      intro n31 hn31
      replace hn31 := in64 hn31 (by omega) (by omega)
      refine ev_q rfl (q_int rfl rfl ?_)
      intro n32 hn32
      replace hn32 := in64 hn32 (by omega) (by omega)
      refine ev_q rfl (q_move (by conv => lhs; whnf) ?_)
      refine ev_q rfl (q_int rfl rfl ?_)
      intro n33 hn33
      replace hn33 := in64 hn33 (by omega) (by omega)
      refine ev_q rfl (q_int rfl rfl ⟨by omega, ?_⟩)
      intro n34 hn34
      first | replace hn34 := quoE hn34 (by omega) (by omega) | replace hn34 := quoT hn34 (by omega) (by omega)
      refine ev_q rfl (q_neg rfl ?_)
      intro n35 hn35
      have hd := divB (x := n32) (y := n33) (by omega) (by omega)
      rw [← hn34] at hd
      replace hn35 := neg64 hn35 (by omega) (by omega)
      refine ev_q rfl (q_assign (by conv => lhs; whnf) ?_)
      refine ev_nil (hK30 _ ?_); clear hK30
      refine good_ret ?_
      repeat (first | refine thenQ_ret ?_ | refine blockQ_ret ?_)
      refine ret_tmp (st := _) rfl (by conv => lhs; whnf) rfl ?_
      clear hK22
      exact fI (by simp only [dr, drP]; subst_vars; first | rw [if_pos (by omega), if_pos (by omega)] | rw [if_pos (by omega), if_neg (by omega)] | rw [if_neg (by omega), if_pos (by omega)] | rw [if_neg (by omega), if_neg (by omega)])

-- impl.abs
set_option maxRecDepth 20000 in
set_option maxHeartbeats 2000000 in
theorem D_impl_abs (a : Int) (h : -9223372036854775807 ≤ a ∧ a ≤ 9223372036854775807) : Den Try.prog 89 [.s (.int .i64 a)] (.s (.int .i64 ((a.natAbs : Int)))) := by
  refine den_of_good Try.func89 (by decide) rfl (Nat.le_of_ble_eq_true rfl) (Nat.le_of_ble_eq_true rfl) ?_
  refine good_seq fun K1 hK1 => ?_
  refine good_region rfl ?_
  refine ev_q rfl (q_assign (by conv => lhs; whnf) ?_)
  refine ev_nil (hK1 _ ?_); clear hK1
  refine good_seq fun K2 hK2 => ?_
  refine good_region rfl ?_
  refine ev_q rfl (q_move (by conv => lhs; whnf) ?_)
  refine ev_q rfl (q_move (by conv => lhs; whnf) ?_)
  refine ev_q rfl (q_neg rfl ?_)
  intro n3 hn3
  replace hn3 := neg64 hn3 (by omega) (by omega)
  refine ev_q rfl (q_max rfl rfl ?_)
  intro n4 hn4; simp only [mxI, mnI] at hn4
  refine ev_q rfl (q_assign (by conv => lhs; whnf) ?_)
  refine ev_nil (hK2 _ ?_); clear hK2
  refine good_ret ?_
  repeat (first | refine thenQ_ret ?_ | refine blockQ_ret ?_)
  refine ret_tmp (st := _) rfl (by conv => lhs; whnf) rfl ?_
  first | rfl | exact fI (by first | omega | grind) | (exfalso; first | omega | grind)

-- impl.divRound
set_option maxRecDepth 20000 in
set_option maxHeartbeats 2000000 in
theorem D_impl_divRound (a b : Int) (ha : -4000000000000000000 ≤ a ∧ a ≤ 4000000000000000000) (hb : b ≠ 0 ∧ -1000000000000000000 ≤ b ∧ b ≤ 1000000000000000000) : Den Try.prog 63 [.s (.int .i64 a), .s (.int .i64 b)] (.s (.int .i64 (dr a b))) := by
  refine den_of_good Try.func63 (by decide) rfl (Nat.le_of_ble_eq_true rfl) (Nat.le_of_ble_eq_true rfl) ?_
  refine good_seq fun K1 hK1 => ?_
  refine good_region rfl ?_
  refine ev_q rfl (q_assign (by conv => lhs; whnf) ?_)
  refine ev_nil (hK1 _ ?_); clear hK1
  refine good_seq fun K2 hK2 => ?_
  refine good_draw 9 hmix (by kernel_rfl) rfl ?_
  refine qo_q rfl (q_move (by conv => lhs; whnf) ?_)
  refine qo_q rfl (q_move (by conv => lhs; whnf) ?_)
  refine qo_q rfl (q_int rfl rfl ⟨by omega, ?_⟩)
  intro n3 hn3
  replace hn3 := quoT hn3 (by omega) (by omega)
  have ht := tdiv_le (a := a) (b := b)
  rw [← hn3] at ht
  refine qo_q rfl (q_move (by conv => lhs; whnf) ?_)
  refine qo_q rfl (q_move (by conv => lhs; whnf) ?_)
  refine qo_q rfl (q_int rfl rfl ⟨by omega, ?_⟩)
  intro n4 hn4
  have hm := tmod_lt' (a := a) (b := b) (by omega)
  rw [← hn4] at hm
  refine qo_q rfl (q_callI rfl rfl (rfl) (D_impl_abs _ (by omega)) ?_)
  intro n5 hn5
  refine qo_q rfl (q_assign (by conv => lhs; whnf) ?_)
  refine qo_q rfl (q_assign (by conv => lhs; whnf) ?_)
  refine qo_nil ?_
  refine ev_nil (hK2 _ ?_); clear hK2
  refine good_seq fun K6 hK6 => ?_
  refine good_seq fun K7 hK7 => ?_
  refine good_region rfl ?_
  refine ev_q rfl (q_move (by conv => lhs; whnf) ?_)
  refine ev_q rfl (q_move (by conv => lhs; whnf) ?_)
  refine ev_q rfl (q_callI rfl rfl (rfl) (D_impl_abs _ (by omega)) ?_)
  intro n8 hn8
  refine ev_q rfl (q_move (by conv => lhs; whnf) ?_)
  refine ev_q rfl (q_int rfl rfl ?_)
  intro n9 hn9
  replace hn9 := in64 hn9 (by omega) (by omega)
  refine ev_q rfl (q_int rfl rfl ?_)
  intro b10 hb10; cases b10
  · replace hb10 := dF hb10
    refine ev_nil (hK7 _ ?_); clear hK7
    refine good_condF rfl ?_
    refine good_skip (hK6 _ ?_); clear hK6
    refine good_seq fun K11 hK11 => ?_
    refine good_region rfl ?_
    refine ev_q rfl (q_move (by conv => lhs; whnf) ?_)
    refine ev_q rfl (q_assign (by conv => lhs; whnf) ?_)
    refine ev_nil (hK11 _ ?_); clear hK11
    refine good_ret ?_
    repeat (first | refine thenQ_ret ?_ | refine blockQ_ret ?_)
    refine ret_tmp (st := _) rfl (by conv => lhs; whnf) rfl ?_
    exact fI (by rw [dr_eq (q := n3) (r := n5) (by omega) hn3 (by rw [hn5, hn4])]; first | (rw [if_neg (by omega)]) | (rw [if_pos (by omega)]; first | (rw [if_pos (decide_eq_decide.2 (by omega))]; omega) | (rw [if_neg (fun h => by have := decide_eq_decide.1 h; omega)]; omega)))
  · replace hb10 := dT hb10
    refine ev_nil (hK7 _ ?_); clear hK7
    refine good_condT rfl ?_
    refine good_seq fun K12 hK12 => ?_
    refine good_seq fun K13 hK13 => ?_
    refine good_region rfl ?_
    refine ev_q rfl (q_move (by conv => lhs; whnf) ?_)
    refine ev_q rfl (q_int rfl rfl ?_)
    intro b14 hb14; cases b14
    · replace hb14 := dF hb14
      refine ev_q rfl (q_move (by conv => lhs; whnf) ?_)
      refine ev_q rfl (q_int rfl rfl ?_)
      intro b15 hb15; cases b15
      · replace hb15 := dF hb15
        refine ev_q rfl (q_beq tB4 rfl rfl ?_)
        intro b16 hb16; replace hb16 : b16 = true := hb16; subst hb16
        refine ev_nil (hK13 _ ?_); clear hK13
        refine good_condT rfl ?_
        refine good_seq fun K17 hK17 => ?_
        refine good_region rfl ?_
        refine ev_q rfl (q_move (by conv => lhs; whnf) ?_)
        refine ev_q rfl (q_int rfl rfl ?_)
        intro n18 hn18
        replace hn18 := in64 hn18 (by omega) (by omega)
        refine ev_q rfl (q_assign (by conv => lhs; whnf) ?_)
        refine ev_nil (hK17 _ ?_); clear hK17
        refine good_ret ?_
        repeat (first | refine thenQ_ret ?_ | refine blockQ_ret ?_)
        refine ret_tmp (st := _) rfl (by conv => lhs; whnf) rfl ?_
        clear hK6 hK12
        exact fI (by rw [dr_eq (q := n3) (r := n5) (by omega) hn3 (by rw [hn5, hn4])]; first | (rw [if_neg (by omega)]) | (rw [if_pos (by omega)]; first | (rw [if_pos (decide_eq_decide.2 (by omega))]; omega) | (rw [if_neg (fun h => by have := decide_eq_decide.1 h; omega)]; omega)))
      · replace hb15 := dT hb15
        refine ev_q rfl (q_beq tB4 rfl rfl ?_)
        intro b19 hb19; replace hb19 : b19 = false := hb19; subst hb19
        refine ev_nil (hK13 _ ?_); clear hK13
        refine good_condF rfl ?_
        refine good_skip (hK12 _ ?_); clear hK12
        refine good_seq fun K20 hK20 => ?_
        refine good_region rfl ?_
        refine ev_q rfl (q_move (by conv => lhs; whnf) ?_)
        refine ev_q rfl (q_int rfl rfl ?_)
        intro n21 hn21
        replace hn21 := in64 hn21 (by omega) (by omega)
        refine ev_q rfl (q_assign (by conv => lhs; whnf) ?_)
        refine ev_nil (hK20 _ ?_); clear hK20
        refine good_ret ?_
        repeat (first | refine thenQ_ret ?_ | refine blockQ_ret ?_)
        refine ret_tmp (st := _) rfl (by conv => lhs; whnf) rfl ?_
        clear hK6
        exact fI (by rw [dr_eq (q := n3) (r := n5) (by omega) hn3 (by rw [hn5, hn4])]; first | (rw [if_neg (by omega)]) | (rw [if_pos (by omega)]; first | (rw [if_pos (decide_eq_decide.2 (by omega))]; omega) | (rw [if_neg (fun h => by have := decide_eq_decide.1 h; omega)]; omega)))
    · replace hb14 := dT hb14
      refine ev_q rfl (q_move (by conv => lhs; whnf) ?_)
      refine ev_q rfl (q_int rfl rfl ?_)
      intro b22 hb22; cases b22
      · replace hb22 := dF hb22
        refine ev_q rfl (q_beq tB4 rfl rfl ?_)
        intro b23 hb23; replace hb23 : b23 = false := hb23; subst hb23
        refine ev_nil (hK13 _ ?_); clear hK13
        refine good_condF rfl ?_
        refine good_skip (hK12 _ ?_); clear hK12
        refine good_seq fun K24 hK24 => ?_
        refine good_region rfl ?_
        refine ev_q rfl (q_move (by conv => lhs; whnf) ?_)
        refine ev_q rfl (q_int rfl rfl ?_)
        intro n25 hn25
        replace hn25 := in64 hn25 (by omega) (by omega)
        refine ev_q rfl (q_assign (by conv => lhs; whnf) ?_)
        refine ev_nil (hK24 _ ?_); clear hK24
        refine good_ret ?_
        repeat (first | refine thenQ_ret ?_ | refine blockQ_ret ?_)
        refine ret_tmp (st := _) rfl (by conv => lhs; whnf) rfl ?_
        clear hK6
        exact fI (by rw [dr_eq (q := n3) (r := n5) (by omega) hn3 (by rw [hn5, hn4])]; first | (rw [if_neg (by omega)]) | (rw [if_pos (by omega)]; first | (rw [if_pos (decide_eq_decide.2 (by omega))]; omega) | (rw [if_neg (fun h => by have := decide_eq_decide.1 h; omega)]; omega)))
      · replace hb22 := dT hb22
        refine ev_q rfl (q_beq tB4 rfl rfl ?_)
        intro b26 hb26; replace hb26 : b26 = true := hb26; subst hb26
        refine ev_nil (hK13 _ ?_); clear hK13
        refine good_condT rfl ?_
        refine good_seq fun K27 hK27 => ?_
        refine good_region rfl ?_
        refine ev_q rfl (q_move (by conv => lhs; whnf) ?_)
        refine ev_q rfl (q_int rfl rfl ?_)
        intro n28 hn28
        replace hn28 := in64 hn28 (by omega) (by omega)
        refine ev_q rfl (q_assign (by conv => lhs; whnf) ?_)
        refine ev_nil (hK27 _ ?_); clear hK27
        refine good_ret ?_
        repeat (first | refine thenQ_ret ?_ | refine blockQ_ret ?_)
        refine ret_tmp (st := _) rfl (by conv => lhs; whnf) rfl ?_
        clear hK6 hK12
        exact fI (by rw [dr_eq (q := n3) (r := n5) (by omega) hn3 (by rw [hn5, hn4])]; first | (rw [if_neg (by omega)]) | (rw [if_pos (by omega)]; first | (rw [if_pos (decide_eq_decide.2 (by omega))]; omega) | (rw [if_neg (fun h => by have := decide_eq_decide.1 h; omega)]; omega)))

theorem blB {x0 y0 x1 y1 x : Int} (h0 : -10000000 ≤ x0 ∧ x0 ≤ 10000000) (h1 : -10000000 ≤ y0 ∧ y0 ≤ 10000000) (h2 : -10000000 ≤ x1 ∧ x1 ≤ 10000000) (h3 : -10000000 ≤ y1 ∧ y1 ≤ 10000000) (h4 : x0 < x) (h5 : x < x1) : (-400000000000000 ≤ (y1 - y0) * (x - x0) ∧ (y1 - y0) * (x - x0) ≤ 400000000000000) ∧ (-400000000000001 ≤ dr ((y1 - y0) * (x - x0)) (x1 - x0) ∧ dr ((y1 - y0) * (x - x0)) (x1 - x0) ≤ 400000000000001) := by
  have a1 := mulS (a := y1 - y0) (b := x - x0) (A := 20000000) (B := 20000000) (by omega) (by omega) (by omega) (by omega)
  have a2 := dr_bound (a := (y1 - y0) * (x - x0)) (b := x1 - x0) (by omega)
  exact ⟨by omega, by omega⟩

-- spec.l01Line
set_option maxRecDepth 20000 in
set_option maxHeartbeats 2000000 in
theorem D_spec_l01Line (x0 y0 x1 y1 x : Int) (h0 : -10000000 ≤ x0 ∧ x0 ≤ 10000000) (h1 : -10000000 ≤ y0 ∧ y0 ≤ 10000000) (h2 : -10000000 ≤ x1 ∧ x1 ≤ 10000000) (h3 : -10000000 ≤ y1 ∧ y1 ≤ 10000000) : Den Try.prog 103 [.s (.int .i64 x0), .s (.int .i64 y0), .s (.int .i64 x1), .s (.int .i64 y1), .s (.int .i64 x)] (.s (.int .i64 (bl x0 y0 x1 y1 x))) := by
  refine den_of_good Try.func103 (by decide) rfl (Nat.le_of_ble_eq_true rfl) (Nat.le_of_ble_eq_true rfl) ?_
  refine good_seq fun K1 hK1 => ?_
  refine good_region rfl ?_
  refine ev_q rfl (q_assign (by conv => lhs; whnf) ?_)
  refine ev_nil (hK1 _ ?_); clear hK1
  refine good_seq fun K2 hK2 => ?_
  refine good_seq fun K3 hK3 => ?_
  refine good_region rfl ?_
  refine ev_q rfl (q_move (by conv => lhs; whnf) ?_)
  refine ev_q rfl (q_move (by conv => lhs; whnf) ?_)
  refine ev_q rfl (q_int rfl rfl ?_)
  intro b4 hb4; cases b4
  · replace hb4 := dF hb4
    refine ev_q rfl (q_move (by conv => lhs; whnf) ?_)
    refine ev_q rfl (q_move (by conv => lhs; whnf) ?_)
    refine ev_q rfl (q_move (by conv => lhs; whnf) ?_)
    refine ev_q rfl (q_int rfl rfl ?_)
    intro b5 hb5; cases b5
    · replace hb5 := dF hb5
      refine ev_q rfl (q_pickF rfl (by conv => lhs; whnf) ?_)
      refine ev_nil (hK3 _ ?_); clear hK3
      refine good_condF rfl ?_
      refine good_skip (hK2 _ ?_); clear hK2
      refine good_seq fun K6 hK6 => ?_
      refine good_seq fun K7 hK7 => ?_
      refine good_region rfl ?_
      refine ev_q rfl (q_move (by conv => lhs; whnf) ?_)
      refine ev_q rfl (q_move (by conv => lhs; whnf) ?_)
      refine ev_q rfl (q_int rfl rfl ?_)
      intro b8 hb8; cases b8
      · replace hb8 := dF hb8
        refine ev_nil (hK7 _ ?_); clear hK7
        refine good_condF rfl ?_
        refine good_skip (hK6 _ ?_); clear hK6
        refine good_seq fun K9 hK9 => ?_
        refine good_region rfl ?_
        refine ev_q rfl (q_move (by conv => lhs; whnf) ?_)
        refine ev_q rfl (q_move (by conv => lhs; whnf) ?_)
        refine ev_q rfl (q_move (by conv => lhs; whnf) ?_)
        refine ev_q rfl (q_int rfl rfl ?_)
        intro n10 hn10
        have hb := blB h0 h1 h2 h3 (x := x) (by omega) (by omega)
        replace hn10 := in64 hn10 (by omega) (by omega)
        refine ev_q rfl (q_move (by conv => lhs; whnf) ?_)
        refine ev_q rfl (q_move (by conv => lhs; whnf) ?_)
        refine ev_q rfl (q_int rfl rfl ?_)
        intro n11 hn11
        replace hn11 := in64 hn11 (by omega) (by omega)
        refine ev_q rfl (q_int rfl rfl ?_)
        intro n12 hn12
        rw [hn10, hn11] at hn12
        replace hn12 := in64 hn12 (by omega) (by omega)
        refine ev_q rfl (q_move (by conv => lhs; whnf) ?_)
        refine ev_q rfl (q_move (by conv => lhs; whnf) ?_)
        refine ev_q rfl (q_int rfl rfl ?_)
        intro n13 hn13
        replace hn13 := in64 hn13 (by omega) (by omega)
        refine ev_q rfl (q_callI rfl rfl (rfl) (D_spec_l01Div _ _ (by omega) (by omega)) ?_)
        intro n14 hn14
        rw [hn12, hn13] at hn14
        refine ev_q rfl (q_int rfl rfl ?_)
        intro n15 hn15
        replace hn15 := in64 hn15 (by omega) (by omega)
        refine ev_q rfl (q_assign (by conv => lhs; whnf) ?_)
        refine ev_nil (hK9 _ ?_); clear hK9
        refine good_ret ?_
        repeat (first | refine thenQ_ret ?_ | refine blockQ_ret ?_)
        refine ret_tmp (st := _) rfl (by conv => lhs; whnf) rfl ?_
        exact fI (by unfold bl; first | rw [if_pos (by omega)] | rw [if_neg (by omega), if_pos (by omega)] | (rw [if_neg (by omega), if_neg (by omega)]; omega))
      · replace hb8 := dT hb8
        refine ev_nil (hK7 _ ?_); clear hK7
        refine good_condT rfl ?_
        refine good_seq fun K16 hK16 => ?_
        refine good_region rfl ?_
        refine ev_q rfl (q_move (by conv => lhs; whnf) ?_)
        refine ev_q rfl (q_assign (by conv => lhs; whnf) ?_)
        refine ev_nil (hK16 _ ?_); clear hK16
        refine good_ret ?_
        repeat (first | refine thenQ_ret ?_ | refine blockQ_ret ?_)
        refine ret_tmp (st := _) rfl (by conv => lhs; whnf) rfl ?_
        clear hK6
        exact fI (by unfold bl; first | rw [if_pos (by omega)] | rw [if_neg (by omega), if_pos (by omega)] | (rw [if_neg (by omega), if_neg (by omega)]; omega))
    · replace hb5 := dT hb5
      refine ev_q rfl (q_pickF rfl (by conv => lhs; whnf) ?_)
      refine ev_nil (hK3 _ ?_); clear hK3
      refine good_condT rfl ?_
      refine good_seq fun K17 hK17 => ?_
      refine good_region rfl ?_
      refine ev_q rfl (q_move (by conv => lhs; whnf) ?_)
      refine ev_q rfl (q_assign (by conv => lhs; whnf) ?_)
      refine ev_nil (hK17 _ ?_); clear hK17
      refine good_ret ?_
      repeat (first | refine thenQ_ret ?_ | refine blockQ_ret ?_)
      refine ret_tmp (st := _) rfl (by conv => lhs; whnf) rfl ?_
      clear hK2
      exact fI (by unfold bl; first | rw [if_pos (by omega)] | rw [if_neg (by omega), if_pos (by omega)] | (rw [if_neg (by omega), if_neg (by omega)]; omega))
  · replace hb4 := dT hb4
    refine ev_q rfl (q_move (by conv => lhs; whnf) ?_)
    refine ev_skip rfl ?_
    refine ev_skip rfl ?_
    refine ev_skip rfl ?_
    refine ev_q rfl (q_pickT rfl (by conv => lhs; whnf) ?_)
    refine ev_nil (hK3 _ ?_); clear hK3
    refine good_condT rfl ?_
    refine good_seq fun K18 hK18 => ?_
    refine good_region rfl ?_
    refine ev_q rfl (q_move (by conv => lhs; whnf) ?_)
    refine ev_q rfl (q_assign (by conv => lhs; whnf) ?_)
    refine ev_nil (hK18 _ ?_); clear hK18
    refine good_ret ?_
    repeat (first | refine thenQ_ret ?_ | refine blockQ_ret ?_)
    refine ret_tmp (st := _) rfl (by conv => lhs; whnf) rfl ?_
    clear hK2
    exact fI (by unfold bl; first | rw [if_pos (by omega)] | rw [if_neg (by omega), if_pos (by omega)] | (rw [if_neg (by omega), if_neg (by omega)]; omega))

-- impl.blend
set_option maxRecDepth 20000 in
set_option maxHeartbeats 2000000 in
theorem D_impl_blend (x0 y0 x1 y1 x : Int) (h0 : -10000000 ≤ x0 ∧ x0 ≤ 10000000) (h1 : -10000000 ≤ y0 ∧ y0 ≤ 10000000) (h2 : -10000000 ≤ x1 ∧ x1 ≤ 10000000) (h3 : -10000000 ≤ y1 ∧ y1 ≤ 10000000) : Den Try.prog 94 [.s (.int .i64 x0), .s (.int .i64 y0), .s (.int .i64 x1), .s (.int .i64 y1), .s (.int .i64 x)] (.s (.int .i64 (bl x0 y0 x1 y1 x))) := by
  refine den_of_good Try.func94 (by decide) rfl (Nat.le_of_ble_eq_true rfl) (Nat.le_of_ble_eq_true rfl) ?_
  refine good_seq fun K1 hK1 => ?_
  refine good_region rfl ?_
  refine ev_q rfl (q_assign (by conv => lhs; whnf) ?_)
  refine ev_nil (hK1 _ ?_); clear hK1
  refine good_seq fun K2 hK2 => ?_
  refine good_block ?_
  refine good_seq fun K3 hK3 => ?_
  refine good_region rfl ?_
  refine ev_q rfl (q_move (by conv => lhs; whnf) ?_)
  refine ev_q rfl (q_move (by conv => lhs; whnf) ?_)
  refine ev_q rfl (q_int rfl rfl ?_)
  intro b4 hb4; cases b4
  · replace hb4 := dF hb4
    refine ev_q rfl (q_move (by conv => lhs; whnf) ?_)
    refine ev_q rfl (q_move (by conv => lhs; whnf) ?_)
    refine ev_q rfl (q_move (by conv => lhs; whnf) ?_)
    refine ev_q rfl (q_int rfl rfl ?_)
    intro b5 hb5; cases b5
    · replace hb5 := dF hb5
      refine ev_q rfl (q_pickF rfl (by conv => lhs; whnf) ?_)
      refine ev_q rfl (q_assign (by conv => lhs; whnf) ?_)
      refine ev_nil (hK3 _ ?_); clear hK3
      refine good_condF rfl ?_
      refine good_seq fun K6 hK6 => ?_
      refine good_region rfl ?_
      refine ev_q rfl (q_move (by conv => lhs; whnf) ?_)
      refine ev_q rfl (q_move (by conv => lhs; whnf) ?_)
      refine ev_q rfl (q_int rfl rfl ?_)
      intro b7 hb7; cases b7
      · replace hb7 := dF hb7
        refine ev_q rfl (q_assign (by conv => lhs; whnf) ?_)
        refine ev_nil (hK6 _ ?_); clear hK6
        refine good_condF rfl ?_
        refine good_skip (hK2 _ ?_); clear hK2
        refine good_seq fun K8 hK8 => ?_
        refine good_region rfl ?_
        refine ev_q rfl (q_move (by conv => lhs; whnf) ?_)
        refine ev_q rfl (q_move (by conv => lhs; whnf) ?_)
        refine ev_q rfl (q_move (by conv => lhs; whnf) ?_)
        refine ev_q rfl (q_int rfl rfl ?_)
        intro n9 hn9
        have hb := blB h0 h1 h2 h3 (x := x) (by omega) (by omega)
        replace hn9 := in64 hn9 (by omega) (by omega)
        refine ev_q rfl (q_move (by conv => lhs; whnf) ?_)
        refine ev_q rfl (q_move (by conv => lhs; whnf) ?_)
        refine ev_q rfl (q_int rfl rfl ?_)
        intro n10 hn10
        replace hn10 := in64 hn10 (by omega) (by omega)
        refine ev_q rfl (q_int rfl rfl ?_)
        intro n11 hn11
        rw [hn9, hn10] at hn11
        replace hn11 := in64 hn11 (by omega) (by omega)
        refine ev_q rfl (q_move (by conv => lhs; whnf) ?_)
        refine ev_q rfl (q_move (by conv => lhs; whnf) ?_)
        refine ev_q rfl (q_int rfl rfl ?_)
        intro n12 hn12
        replace hn12 := in64 hn12 (by omega) (by omega)
        refine ev_q rfl (q_callI rfl rfl (rfl) (D_impl_divRound _ _ (by omega) (by omega)) ?_)
        intro n13 hn13
        rw [hn11, hn12] at hn13
        refine ev_q rfl (q_int rfl rfl ?_)
        intro n14 hn14
        replace hn14 := in64 hn14 (by omega) (by omega)
        refine ev_q rfl (q_assign (by conv => lhs; whnf) ?_)
        refine ev_nil (hK8 _ ?_); clear hK8
        refine good_ret ?_
        repeat (first | refine thenQ_ret ?_ | refine blockQ_ret ?_)
        refine ret_tmp (st := _) rfl (by conv => lhs; whnf) rfl ?_
        exact fI (by unfold bl; first | rw [if_pos (by omega)] | rw [if_neg (by omega), if_pos (by omega)] | (rw [if_neg (by omega), if_neg (by omega)]; omega))
      · replace hb7 := dT hb7
        refine ev_q rfl (q_assign (by conv => lhs; whnf) ?_)
        refine ev_nil (hK6 _ ?_); clear hK6
        refine good_condT rfl ?_
        refine good_seq fun K15 hK15 => ?_
        refine good_region rfl ?_
        refine ev_q rfl (q_move (by conv => lhs; whnf) ?_)
        refine ev_q rfl (q_assign (by conv => lhs; whnf) ?_)
        refine ev_nil (hK15 _ ?_); clear hK15
        refine good_ret ?_
        repeat (first | refine thenQ_ret ?_ | refine blockQ_ret ?_)
        refine ret_tmp (st := _) rfl (by conv => lhs; whnf) rfl ?_
        clear hK2
        exact fI (by unfold bl; first | rw [if_pos (by omega)] | rw [if_neg (by omega), if_pos (by omega)] | (rw [if_neg (by omega), if_neg (by omega)]; omega))
    · replace hb5 := dT hb5
      refine ev_q rfl (q_pickF rfl (by conv => lhs; whnf) ?_)
      refine ev_q rfl (q_assign (by conv => lhs; whnf) ?_)
      refine ev_nil (hK3 _ ?_); clear hK3
      refine good_condT rfl ?_
      refine good_seq fun K16 hK16 => ?_
      refine good_region rfl ?_
      refine ev_q rfl (q_move (by conv => lhs; whnf) ?_)
      refine ev_q rfl (q_assign (by conv => lhs; whnf) ?_)
      refine ev_nil (hK16 _ ?_); clear hK16
      refine good_ret ?_
      repeat (first | refine thenQ_ret ?_ | refine blockQ_ret ?_)
      refine ret_tmp (st := _) rfl (by conv => lhs; whnf) rfl ?_
      clear hK2
      exact fI (by unfold bl; first | rw [if_pos (by omega)] | rw [if_neg (by omega), if_pos (by omega)] | (rw [if_neg (by omega), if_neg (by omega)]; omega))
  · replace hb4 := dT hb4
    refine ev_q rfl (q_move (by conv => lhs; whnf) ?_)
    refine ev_skip rfl ?_
    refine ev_skip rfl ?_
    refine ev_skip rfl ?_
    refine ev_q rfl (q_pickT rfl (by conv => lhs; whnf) ?_)
    refine ev_q rfl (q_assign (by conv => lhs; whnf) ?_)
    refine ev_nil (hK3 _ ?_); clear hK3
    refine good_condT rfl ?_
    refine good_seq fun K17 hK17 => ?_
    refine good_region rfl ?_
    refine ev_q rfl (q_move (by conv => lhs; whnf) ?_)
    refine ev_q rfl (q_assign (by conv => lhs; whnf) ?_)
    refine ev_nil (hK17 _ ?_); clear hK17
    refine good_ret ?_
    repeat (first | refine thenQ_ret ?_ | refine blockQ_ret ?_)
    refine ret_tmp (st := _) rfl (by conv => lhs; whnf) rfl ?_
    clear hK2
    exact fI (by unfold bl; first | rw [if_pos (by omega)] | rw [if_neg (by omega), if_pos (by omega)] | (rw [if_neg (by omega), if_neg (by omega)]; omega))

-- sort.Search
set_option maxRecDepth 20000 in
set_option maxHeartbeats 2000000 in
theorem D_sort_Search (f : Nat) (caps : List AV) (p : Int → Prop) [DecidablePred p] (n : Nat) (hn : n ≤ 4611686018427387903) (mono : ∀ i j : Nat, i ≤ j → j < n → p i → p j) (hf : ∀ i : Nat, i < n → Den Try.prog f (.s (.int .i64 i) :: caps) (.s (.bool (decide (p i))))) : Den Try.prog 77 [.s (.int .i64 n), .fn f caps] (.s (.int .i64 (srN p n))) := by
  refine den_of_good Try.func77 (by decide) rfl (Nat.le_of_ble_eq_true rfl) (Nat.le_of_ble_eq_true rfl) ?_
  refine good_seq fun K1 hK1 => ?_
  refine good_region rfl ?_
  refine ev_q rfl (q_assign (by conv => lhs; whnf) ?_)
  refine ev_nil (hK1 _ ?_); clear hK1
  refine good_seq fun K2 hK2 => ?_
  refine good_region rfl ?_
  refine ev_q rfl (q_move (by conv => lhs; whnf) ?_)
  refine ev_q rfl (q_assign (by conv => lhs; whnf) ?_)
  refine ev_q rfl (q_assign (by conv => lhs; whnf) ?_)
  refine ev_nil (hK2 _ ?_); clear hK2
  refine good_seq fun K3 hK3 => ?_
  refine good_block ?_
  refine good_loop (α := Nat × Nat) (fun (i, j) => { env := upd (upd (upd ((fun _ => .junk)) 1 (.fn f caps)) 5 (.s (.int .i64 i))) 6 (.s (.int .i64 j)), H := fun _ => none }) (fun (i, j) => i ≤ j ∧ j ≤ n ∧ (∀ k : Nat, k < i → ¬ p k) ∧ (∀ k : Nat, j ≤ k → k < n → p k)) (fun (i, j) => j - i) (0, n) ?_ ?_ ?_
  · exact ⟨Nat.zero_le _, Nat.le_refl _, fun k h => absurd h (Nat.not_lt_zero _), fun k h1 h2 => absurd h1 (Nat.not_le_of_lt h2)⟩
  · refine sub_weak ?_ ?_
    · exact weakH_none _
    · refine weakE_upd ?e6 ?r6 (weakE_upd ?e5 ?r5 (weakE_upd ?e1 ?r1 (weakE_junk _ _)))
      case e1 => first | rfl | exact fI (by omega) | (simp_all)
      case r1 => intro h hh; cases hh
      case e5 => first | rfl | exact fI (by omega) | (simp_all)
      case r5 => intro h hh; cases hh
      case e6 => first | rfl | exact fI (by omega) | (simp_all)
      case r6 => intro h hh; cases hh
  · rintro ⟨i, j⟩ ⟨hI1, hI2, hI3, hI4⟩
    refine good_seq fun K4 hK4 => ?_
    refine good_seq fun K5 hK5 => ?_
    refine good_region rfl ?_
    refine ev_q rfl (q_move (by conv => lhs; whnf) ?_)
    refine ev_q rfl (q_move (by conv => lhs; whnf) ?_)
    refine ev_q rfl (q_int rfl rfl ?_)
    intro b6 hb6; cases b6
    · replace hb6 := dF hb6
      refine ev_nil (hK5 _ ?_); clear hK5
      refine good_condF rfl ?_
      refine good_exit ?_
      repeat (first | refine thenQ_exit ?_ | refine blockQ_pass rfl ?_)
      refine blockQ_exit (hK3 _ ?_); clear hK3
      refine good_seq fun K7 hK7 => ?_
      refine good_region rfl ?_
      refine ev_q rfl (q_move (by conv => lhs; whnf) ?_)
      refine ev_q rfl (q_assign (by conv => lhs; whnf) ?_)
      refine ev_nil (hK7 _ ?_); clear hK7
      refine good_ret ?_
      repeat (first | refine thenQ_ret ?_ | refine blockQ_ret ?_)
      refine ret_tmp (st := _) rfl (by conv => lhs; whnf) rfl ?_
      clear hK4
      exact fI (by rw [srN_uniq (p := p) (n := n) (k := i) (by omega) hI3 (fun h => hI4 i (by omega) h)])
    · replace hb6 := dT hb6
      refine ev_nil (hK5 _ ?_); clear hK5
      refine good_condT rfl ?_
      refine good_skip (hK4 _ ?_); clear hK4
      refine good_block ?_
      refine good_seq fun K8 hK8 => ?_
      refine good_region rfl ?_
      refine ev_q rfl (q_move (by conv => lhs; whnf) ?_)
      refine ev_q rfl (q_move (by conv => lhs; whnf) ?_)
      refine ev_q rfl (q_int rfl rfl ?_)
      intro n9 hn9
      replace hn9 := in64 hn9 (by omega) (by omega)
      refine ev_q rfl (q_conv tK3 tK97 rfl ?_)
      intro n10 hn10
      replace hn10 := wrapU hn10 (by omega) (by omega)
      refine ev_q rfl (q_shr rfl rfl ⟨by omega, ?_⟩)
      intro n11 hn11
      replace hn11 := shr1 hn11 (by omega)
      refine ev_q rfl (q_conv tK97 tK3 rfl ?_)
      intro n12 hn12
      replace hn12 := in64 hn12 (by omega) (by omega)
      obtain ⟨k, hk⟩ : ∃ k : Nat, n12 = (k : Int) := ⟨n12.toNat, by omega⟩
      subst hk
      have hkj : i ≤ k ∧ k < j := by omega
      refine ev_q rfl (q_assign (by conv => lhs; whnf) ?_)
      refine ev_nil (hK8 _ ?_); clear hK8
      refine good_seq fun K13 hK13 => ?_
      refine good_region rfl ?_
      refine ev_q rfl (q_move (by conv => lhs; whnf) ?_)
      refine ev_q rfl (q_move (by conv => lhs; whnf) ?_)
      refine ev_q rfl (q_callB rfl rfl (rfl) (hf _ (by omega)) ?_)
      intro b14 hb14; cases b14
      · first | replace hb14 := dF hb14 | skip
        refine ev_q rfl (q_not rfl rfl ?_)
        refine ev_nil (hK13 _ ?_); clear hK13
        refine good_condT rfl ?_
        refine good_region rfl ?_
        refine ev_q rfl (q_move (by conv => lhs; whnf) ?_)
        refine ev_q rfl (q_int rfl rfl ?_)
        intro n15 hn15
        replace hn15 := in64 hn15 (by omega) (by omega)
        refine ev_q rfl (q_assign (by conv => lhs; whnf) ?_)
        refine ev_nil ?_
        clear hK3
        refine ⟨(k + 1, j), ?_, ?_, ?_⟩
        · exact ⟨(show k + 1 ≤ j by omega), hI2, fun q hq hp => absurd (mono q k (Nat.le_of_lt_succ hq) (by omega) hp) (by assumption), hI4⟩
        · first | (show j - (k + 1) < j - i; omega) | (show k - i < j - i; omega)
        · refine sub_weak ?_ ?_
          · exact weakH_none _
          · refine weakE_upd ?e6 ?r6 (weakE_upd ?e5 ?r5 (weakE_upd ?e1 ?r1 (weakE_junk _ _)))
            case e1 => first | rfl | exact fI (by omega) | (simp_all)
            case r1 => intro h hh; cases hh
            case e5 => first | rfl | exact fI (by omega) | (simp_all)
            case r5 => intro h hh; cases hh
            case e6 => first | rfl | exact fI (by omega) | (simp_all)
            case r6 => intro h hh; cases hh
      · first | replace hb14 := dT hb14 | skip
        refine ev_q rfl (q_not rfl rfl ?_)
        refine ev_nil (hK13 _ ?_); clear hK13
        refine good_condF rfl ?_
        refine good_region rfl ?_
        refine ev_q rfl (q_move (by conv => lhs; whnf) ?_)
        refine ev_q rfl (q_assign (by conv => lhs; whnf) ?_)
        refine ev_nil ?_
        clear hK3
        refine ⟨(i, k), ?_, ?_, ?_⟩
        · exact ⟨hkj.1, (show k ≤ n by omega), hI3, fun q hq hqn => mono k q hq hqn (by assumption)⟩
        · first | (show j - (k + 1) < j - i; omega) | (show k - i < j - i; omega)
        · refine sub_weak ?_ ?_
          · exact weakH_none _
          · refine weakE_upd ?e6 ?r6 (weakE_upd ?e5 ?r5 (weakE_upd ?e1 ?r1 (weakE_junk _ _)))
            case e1 => first | rfl | exact fI (by omega) | (simp_all)
            case r1 => intro h hh; cases hh
            case e5 => first | rfl | exact fI (by omega) | (simp_all)
            case r5 => intro h hh; cases hh
            case e6 => first | rfl | exact fI (by omega) | (simp_all)
            case r6 => intro h hh; cases hh

-- impl.firstIn$1
set_option maxRecDepth 20000 in
set_option maxHeartbeats 2000000 in
theorem D_impl_firstIn_1 (f : Nat) (caps : List AV) (p : Int → Prop) [DecidablePred p] (i lo : Int) (h1 : -4000000000000 ≤ i ∧ i ≤ 4000000000000) (h2 : -1000000000000 ≤ lo ∧ lo ≤ 1000000000000) (hf : Den Try.prog f (.s (.int .i64 (lo + i)) :: caps) (.s (.bool (decide (p (lo + i)))))) : Den Try.prog 78 [.s (.int .i64 i), .rp [.fn f caps], .rp [.s (.int .i64 lo)]] (.s (.bool (decide (p (lo + i))))) := by
  refine den_of_good Try.func78 (by decide) rfl (Nat.le_of_ble_eq_true rfl) (Nat.le_of_ble_eq_true rfl) ?_
  refine good_seq fun K1 hK1 => ?_
  refine good_region rfl ?_
  refine ev_q rfl (q_assign (by conv => lhs; whnf) ?_)
  refine ev_nil (hK1 _ ?_); clear hK1
  refine good_seq fun K2 hK2 => ?_
  refine good_region rfl ?_
  refine ev_q rfl (q_load tA60 rfl ?_)
  refine ev_q rfl (q_load tA2 rfl ?_)
  refine ev_q rfl (q_move (by conv => lhs; whnf) ?_)
  refine ev_q rfl (q_int rfl rfl ?_)
  intro n3 hn3
  replace hn3 := in64 hn3 (by omega) (by omega)
  subst hn3
  refine ev_q rfl (q_callB rfl rfl (rfl) hf ?_)
  intro b4 hb4; cases b4
  · first | replace hb4 := dF hb4 | skip
    refine ev_q rfl (q_assign (by conv => lhs; whnf) ?_)
    refine ev_nil (hK2 _ ?_); clear hK2
    refine good_ret ?_
    repeat (first | refine thenQ_ret ?_ | refine blockQ_ret ?_)
    refine ret_tmp (st := _) rfl (by conv => lhs; whnf) rfl ?_
    first | exact fT (by assumption) | exact fF (by assumption)
  · first | replace hb4 := dT hb4 | skip
    refine ev_q rfl (q_assign (by conv => lhs; whnf) ?_)
    refine ev_nil (hK2 _ ?_); clear hK2
    refine good_ret ?_
    repeat (first | refine thenQ_ret ?_ | refine blockQ_ret ?_)
    refine ret_tmp (st := _) rfl (by conv => lhs; whnf) rfl ?_
    first | exact fT (by assumption) | exact fF (by assumption)

-- impl.firstIn
set_option maxRecDepth 20000 in
set_option maxHeartbeats 2000000 in
theorem D_impl_firstIn (f : Nat) (caps : List AV) (p : Int → Prop) [DecidablePred p] (lo hi : Int) (h1 : -1000000000000 ≤ lo ∧ lo ≤ 1000000000000) (h2 : -1000000000000 ≤ hi ∧ hi ≤ 1000000000000) (h3 : lo ≤ hi + 1) (mono : ∀ a b : Int, lo ≤ a → a ≤ b → b ≤ hi → p a → p b) (hf : ∀ a : Int, lo ≤ a → a ≤ hi → Den Try.prog f (.s (.int .i64 a) :: caps) (.s (.bool (decide (p a))))) : Den Try.prog 46 [.s (.int .i64 lo), .s (.int .i64 hi), .fn f caps] (.tup [.s (.int .i64 (lst p lo hi)), .s (.bool (decide (lst p lo hi ≤ hi)))]) := by
  have hs := lst_spec p h3
  obtain ⟨m, hm⟩ : ∃ m : Nat, hi - lo + 1 = (m : Int) := ⟨(hi - lo + 1).toNat, by omega⟩
  have hm2 : (hi - lo + 1).toNat = m := by omega
  have hl : lst p lo hi = lo + srN (fun i => p (lo + i)) m := by unfold lst; rw [hm2]
  refine den_of_good Try.func46 (by decide) rfl (Nat.le_of_ble_eq_true rfl) (Nat.le_of_ble_eq_true rfl) ?_
  refine good_seq fun K1 hK1 => ?_
  refine good_region rfl ?_
  refine ev_k rfl (k_box (by conv => lhs; whnf) rfl rfl rfl ?_)
  refine ev_k rfl (k_box (by conv => lhs; whnf) rfl rfl rfl ?_)
  refine ev_q rfl (q_assign (by conv => lhs; whnf) ?_)
  refine ev_q rfl (q_assign (by conv => lhs; whnf) ?_)
  refine ev_nil (hK1 _ ?_); clear hK1
  refine good_seq fun K2 hK2 => ?_
  refine good_region rfl ?_
  refine ev_q rfl (q_move (by conv => lhs; whnf) ?_)
  refine ev_q rfl (q_load tA2 rfl ?_)
  refine ev_q rfl (q_int rfl rfl ?_)
  intro n3 hn3
  replace hn3 := in64 hn3 (by omega) (by omega)
  refine ev_q rfl (q_int rfl rfl ?_)
  intro n4 hn4
  replace hn4 := in64 hn4 (by omega) (by omega)
  rw [hn3, hm] at hn4
  subst hn4
  refine ev_q rfl (q_assign (by conv => lhs; whnf) ?_)
  refine ev_nil (hK2 _ ?_); clear hK2
  refine good_seq fun K5 hK5 => ?_
  refine good_region rfl ?_
  refine ev_q rfl (q_move (by conv => lhs; whnf) ?_)
  refine ev_q rfl (q_clo rfl rfl ?_)
  refine ev_q rfl (q_callI rfl rfl (rfl) (D_sort_Search _ _ (fun i => p (lo + i)) m (by omega) (fun i j h1 h2 h3 => mono _ _ (by omega) (by omega) (by omega) h3) (fun i h => D_impl_firstIn_1 f caps p i lo (by omega) (by omega) (hf _ (by omega) (by omega)))) ?_)
  intro n6 hn6
  refine ev_q rfl (q_assign (by conv => lhs; whnf) ?_)
  refine ev_nil (hK5 _ ?_); clear hK5
  refine good_seq fun K7 hK7 => ?_
  refine good_region rfl ?_
  refine ev_q rfl (q_load tA2 rfl ?_)
  refine ev_q rfl (q_move (by conv => lhs; whnf) ?_)
  refine ev_q rfl (q_int rfl rfl ?_)
  intro n8 hn8
  replace hn8 := in64 hn8 (by omega) (by omega)
  refine ev_q rfl (q_move (by conv => lhs; whnf) ?_)
  refine ev_q rfl (q_move (by conv => lhs; whnf) ?_)
  refine ev_q rfl (q_int rfl rfl ?_)
  intro b9 hb9; cases b9
  · replace hb9 := dF hb9
    refine ev_q rfl (q_assign (by conv => lhs; whnf) ?_)
    refine ev_q rfl (q_assign (by conv => lhs; whnf) ?_)
    refine ev_nil (hK7 _ ?_); clear hK7
    refine good_ret ?_
    repeat (first | refine thenQ_ret ?_ | refine blockQ_ret ?_)
    refine ret_many rfl ?_
    refine res_tmp (by conv => lhs; whnf) rfl ?_
    refine res_tmp (by conv => lhs; whnf) rfl ?_
    refine res_nil ?_
    exact fTup1 (by first | rfl | exact fI (by first | omega | grind) | (exfalso; first | omega | grind)) (fTup1 (by first | rfl | exact fT (by first | omega | grind) | exact fF (by first | omega | grind) | exact fT' (by first | omega | grind) | (exfalso; first | omega | grind)) (rfl))
  · replace hb9 := dT hb9
    refine ev_q rfl (q_assign (by conv => lhs; whnf) ?_)
    refine ev_q rfl (q_assign (by conv => lhs; whnf) ?_)
    refine ev_nil (hK7 _ ?_); clear hK7
    refine good_ret ?_
    repeat (first | refine thenQ_ret ?_ | refine blockQ_ret ?_)
    refine ret_many rfl ?_
    refine res_tmp (by conv => lhs; whnf) rfl ?_
    refine res_tmp (by conv => lhs; whnf) rfl ?_
    refine res_nil ?_
    exact fTup1 (by first | rfl | exact fI (by first | omega | grind) | (exfalso; first | omega | grind)) (fTup1 (by first | rfl | exact fT (by first | omega | grind) | exact fF (by first | omega | grind) | exact fT' (by first | omega | grind) | (exfalso; first | omega | grind)) (rfl))

-- spec.l02Blend
set_option maxRecDepth 20000 in
set_option maxHeartbeats 2000000 in
theorem D_spec_l02Blend (x : Int) (hx : -10000000 ≤ x ∧ x ≤ 10000000) : Den Try.prog 100 [.lst 1 (tP.map ci), .lst 1 (tV.map ci), .s (.int .i64 x)] (.s (.int .i64 (boil x))) := by
  have hlP : tP.length = 10 := rfl
  have hlV : tV.length = 10 := rfl
  refine den_of_good Try.func100 (by decide) rfl (Nat.le_of_ble_eq_true rfl) (Nat.le_of_ble_eq_true rfl) ?_
  refine good_seq fun K1 hK1 => ?_
  refine good_region rfl ?_
  refine ev_q rfl (q_assign (by conv => lhs; whnf) ?_)
  refine ev_nil (hK1 _ ?_); clear hK1
  refine good_seq fun K2 hK2 => ?_
  refine good_region rfl ?_
  refine ev_q rfl (q_assign (by conv => lhs; whnf) ?_)
  refine ev_nil (hK2 _ ?_); clear hK2
  refine good_seq fun K3 hK3 => ?_
  refine good_block ?_
  refine good_loop (α := Nat) (fun i => { env := upd (upd (upd (upd ((fun _ => .junk)) 0 (.lst 1 (tP.map ci))) 1 (.lst 1 (tV.map ci))) 2 (.s (.int .i64 x))) 7 (.s (.int .i64 i)), H := fun _ => none }) (fun i => (1 ≤ i ∧ i ≤ 9) ∧ (i = 1 ∨ ∃ q : Int, tP[i - 1]? = some q ∧ q < x)) (fun i => 9 - i) 1 ?_ ?_ ?_
  · exact ⟨by omega, .inl rfl⟩
  · refine sub_weak ?_ ?_
    · exact weakH_none _
    · refine weakE_upd ?e7 ?r7 (weakE_upd ?e2 ?r2 (weakE_upd ?e1 ?r1 (weakE_upd ?e0 ?r0 (weakE_junk _ _))))
      case e0 => first | rfl | exact fI (by omega) | (simp_all)
      case r0 => intro h hh; cases hh
      case e1 => first | rfl | exact fI (by omega) | (simp_all)
      case r1 => intro h hh; cases hh
      case e2 => first | rfl | exact fI (by omega) | (simp_all)
      case r2 => intro h hh; cases hh
      case e7 => first | rfl | exact fI (by omega) | (simp_all)
      case r7 => intro h hh; cases hh
  · rintro i ⟨hI, hJ⟩
    refine good_seq fun K4 hK4 => ?_
    refine good_seq fun K5 hK5 => ?_
    refine good_region rfl ?_
    refine ev_q rfl (q_move (by conv => lhs; whnf) ?_)
    refine ev_q rfl (q_move (by conv => lhs; whnf) ?_)
    refine ev_q rfl (q_len tEs22 rfl ?_)
    intro n6 hn6
    try simp only [List.length_map] at hn6
    refine ev_q rfl (q_int rfl rfl ?_)
    intro n7 hn7
    replace hn7 := in64 hn7 (by omega) (by omega)
    refine ev_q rfl (q_int rfl rfl ?_)
    intro b8 hb8; cases b8
    · replace hb8 := dF hb8
      refine ev_q rfl (q_move (by conv => lhs; whnf) ?_)
      refine ev_skip rfl ?_
      refine ev_skip rfl ?_
      refine ev_skip rfl ?_
      refine ev_skip rfl ?_
      refine ev_skip rfl ?_
      refine ev_skip rfl ?_
      refine ev_q rfl (q_pickF rfl (by conv => lhs; whnf) ?_)
      refine ev_nil (hK5 _ ?_); clear hK5
      refine good_condF rfl ?_
      refine good_exit ?_
      repeat (first | refine thenQ_exit ?_ | refine blockQ_pass rfl ?_)
      refine blockQ_exit (hK3 _ ?_); clear hK3
      refine good_seq fun K9 hK9 => ?_
      refine good_draw 21 hmix (by kernel_rfl) rfl ?_
      refine qo_q rfl (q_move (by conv => lhs; whnf) ?_)
      refine qo_q rfl (q_move (by conv => lhs; whnf) ?_)
      refine qo_q rfl (q_int rfl rfl ?_)
      intro n10 hn10
      replace hn10 := in64 hn10 (by omega) (by omega)
      obtain ⟨p, hp⟩ := getL (xs := tP) (n := (i : Int)) (by omega) (by omega)
      obtain ⟨a, ha⟩ := getL (xs := tP) (n := n10) (by omega) (by omega)
      refine qo_q rfl (q_idx tE22 rfl rfl (by omega) (by exact map_get ha) rfl ?_)
      refine qo_q rfl (q_load tA2 rfl ?_)
      refine qo_q rfl (q_move (by conv => lhs; whnf) ?_)
      refine qo_q rfl (q_move (by conv => lhs; whnf) ?_)
      refine qo_q rfl (q_int rfl rfl ?_)
      intro n11 hn11
      replace hn11 := in64 hn11 (by omega) (by omega)
      obtain ⟨b, hb⟩ := getL (xs := tV) (n := n11) (by omega) (by omega)
      refine qo_q rfl (q_idx tE22 rfl rfl (by omega) (by exact map_get hb) rfl ?_)
      refine qo_q rfl (q_load tA2 rfl ?_)
      refine qo_q rfl (q_move (by conv => lhs; whnf) ?_)
      refine qo_q rfl (q_move (by conv => lhs; whnf) ?_)
      refine qo_q rfl (q_idx tE22 rfl rfl (by exact Int.natCast_nonneg _) (by exact map_get hp) rfl ?_)
      refine qo_q rfl (q_load tA2 rfl ?_)
      refine qo_q rfl (q_move (by conv => lhs; whnf) ?_)
      refine qo_q rfl (q_move (by conv => lhs; whnf) ?_)
      obtain ⟨d, hd⟩ := getL (xs := tV) (n := (i : Int)) (by omega) (by omega)
      have ba := tP_bd ha
      have bb := tV_bd hb
      have bp := tP_bd hp
      have bd := tV_bd hd
      refine qo_q rfl (q_idx tE22 rfl rfl (by exact Int.natCast_nonneg _) (by exact map_get hd) rfl ?_)
      refine qo_q rfl (q_load tA2 rfl ?_)
      refine qo_q rfl (q_move (by conv => lhs; whnf) ?_)
      refine qo_q rfl (q_callI rfl rfl (rfl) (D_spec_l01Line _ _ _ _ _ (by omega) (by omega) (by omega) (by omega)) ?_)
      intro n12 hn12
      refine qo_q rfl (q_assign (by conv => lhs; whnf) ?_)
      refine qo_nil ?_
      refine ev_nil (hK9 _ ?_); clear hK9
      refine good_ret ?_
      repeat (first | refine thenQ_ret ?_ | refine blockQ_ret ?_)
      refine ret_tmp (st := _) rfl (by conv => lhs; whnf) rfl ?_
      clear hK4
      exact fI (by rw [hn12]; exact boil_at (i := i - 1) (by omega) (by rw [← ha]; congr 1; omega) (by rw [← hb]; congr 1; omega) (by rw [← hp]; congr 1; omega) (by rw [← hd]; congr 1; omega) (by rcases hJ with h | ⟨q, hq, hl⟩; exact .inl (by omega); exact .inr (by have e : tP[i - 1]? = some a := (by rw [← ha]; congr 1; omega); rw [e] at hq; cases hq; exact hl)) (by first | exact .inl (by omega) | exact .inr (by have e : some p = some q0 := hp.symm.trans hq0; cases e; omega)))
    · replace hb8 := dT hb8
      refine ev_q rfl (q_move (by conv => lhs; whnf) ?_)
      refine ev_q rfl (q_move (by conv => lhs; whnf) ?_)
      refine ev_q rfl (q_move (by conv => lhs; whnf) ?_)
      refine ev_q rfl (q_move (by conv => lhs; whnf) ?_)
      obtain ⟨q0, hq0⟩ := getL (xs := tP) (n := (i : Int)) (by omega) (by omega)
      refine ev_q rfl (q_idx tE22 rfl rfl (by exact Int.natCast_nonneg _) (by exact map_get hq0) rfl ?_)
      refine ev_q rfl (q_load tA2 rfl ?_)
      refine ev_q rfl (q_int rfl rfl ?_)
      intro b13 hb13; cases b13
      · replace hb13 := dF hb13
        refine ev_q rfl (q_pickT rfl (by conv => lhs; whnf) ?_)
        refine ev_nil (hK5 _ ?_); clear hK5
        refine good_condF rfl ?_
        refine good_exit ?_
        repeat (first | refine thenQ_exit ?_ | refine blockQ_pass rfl ?_)
        refine blockQ_exit (hK3 _ ?_); clear hK3
        refine good_seq fun K14 hK14 => ?_
        refine good_draw 21 hmix (by kernel_rfl) rfl ?_
        refine qo_q rfl (q_move (by conv => lhs; whnf) ?_)
        refine qo_q rfl (q_move (by conv => lhs; whnf) ?_)
        refine qo_q rfl (q_int rfl rfl ?_)
        intro n15 hn15
        replace hn15 := in64 hn15 (by omega) (by omega)
        obtain ⟨p, hp⟩ := getL (xs := tP) (n := (i : Int)) (by omega) (by omega)
        obtain ⟨a, ha⟩ := getL (xs := tP) (n := n15) (by omega) (by omega)
        refine qo_q rfl (q_idx tE22 rfl rfl (by omega) (by exact map_get ha) rfl ?_)
        refine qo_q rfl (q_load tA2 rfl ?_)
        refine qo_q rfl (q_move (by conv => lhs; whnf) ?_)
        refine qo_q rfl (q_move (by conv => lhs; whnf) ?_)
        refine qo_q rfl (q_int rfl rfl ?_)
        intro n16 hn16
        replace hn16 := in64 hn16 (by omega) (by omega)
        obtain ⟨b, hb⟩ := getL (xs := tV) (n := n16) (by omega) (by omega)
        refine qo_q rfl (q_idx tE22 rfl rfl (by omega) (by exact map_get hb) rfl ?_)
        refine qo_q rfl (q_load tA2 rfl ?_)
        refine qo_q rfl (q_move (by conv => lhs; whnf) ?_)
        refine qo_q rfl (q_move (by conv => lhs; whnf) ?_)
        refine qo_q rfl (q_idx tE22 rfl rfl (by exact Int.natCast_nonneg _) (by exact map_get hp) rfl ?_)
        refine qo_q rfl (q_load tA2 rfl ?_)
        refine qo_q rfl (q_move (by conv => lhs; whnf) ?_)
        refine qo_q rfl (q_move (by conv => lhs; whnf) ?_)
        obtain ⟨d, hd⟩ := getL (xs := tV) (n := (i : Int)) (by omega) (by omega)
        have ba := tP_bd ha
        have bb := tV_bd hb
        have bp := tP_bd hp
        have bd := tV_bd hd
        refine qo_q rfl (q_idx tE22 rfl rfl (by exact Int.natCast_nonneg _) (by exact map_get hd) rfl ?_)
        refine qo_q rfl (q_load tA2 rfl ?_)
        refine qo_q rfl (q_move (by conv => lhs; whnf) ?_)
        refine qo_q rfl (q_callI rfl rfl (rfl) (D_spec_l01Line _ _ _ _ _ (by omega) (by omega) (by omega) (by omega)) ?_)
        intro n17 hn17
        refine qo_q rfl (q_assign (by conv => lhs; whnf) ?_)
        refine qo_nil ?_
        refine ev_nil (hK14 _ ?_); clear hK14
        refine good_ret ?_
        repeat (first | refine thenQ_ret ?_ | refine blockQ_ret ?_)
        refine ret_tmp (st := _) rfl (by conv => lhs; whnf) rfl ?_
        clear hK4
        exact fI (by rw [hn17]; exact boil_at (i := i - 1) (by omega) (by rw [← ha]; congr 1; omega) (by rw [← hb]; congr 1; omega) (by rw [← hp]; congr 1; omega) (by rw [← hd]; congr 1; omega) (by rcases hJ with h | ⟨q, hq, hl⟩; exact .inl (by omega); exact .inr (by have e : tP[i - 1]? = some a := (by rw [← ha]; congr 1; omega); rw [e] at hq; cases hq; exact hl)) (by first | exact .inl (by omega) | exact .inr (by have e : some p = some q0 := hp.symm.trans hq0; cases e; omega)))
      · replace hb13 := dT hb13
        refine ev_q rfl (q_pickT rfl (by conv => lhs; whnf) ?_)
        refine ev_nil (hK5 _ ?_); clear hK5
        refine good_condT rfl ?_
        refine good_skip (hK4 _ ?_); clear hK4
        refine good_block ?_
        refine good_region rfl ?_
        refine ev_q rfl (q_move (by conv => lhs; whnf) ?_)
        refine ev_q rfl (q_int rfl rfl ?_)
        intro n18 hn18
        replace hn18 := in64 hn18 (by omega) (by omega)
        refine ev_q rfl (q_assign (by conv => lhs; whnf) ?_)
        refine ev_nil ?_
        clear hK3
        refine ⟨i + 1, ?_, ?_, ?_⟩
        · exact ⟨by omega, .inr ⟨q0, hq0, by omega⟩⟩
        · first | omega | (simp only []; omega) | (dsimp only; omega)
        · refine sub_weak ?_ ?_
          · exact weakH_none _
          · refine weakE_upd ?e7 ?r7 (weakE_upd ?e2 ?r2 (weakE_upd ?e1 ?r1 (weakE_upd ?e0 ?r0 (weakE_junk _ _))))
            case e0 => first | rfl | exact fI (by omega) | (simp_all)
            case r0 => intro h hh; cases hh
            case e1 => first | rfl | exact fI (by omega) | (simp_all)
            case r1 => intro h hh; cases hh
            case e2 => first | rfl | exact fI (by omega) | (simp_all)
            case r2 => intro h hh; cases hh
            case e7 => first | rfl | exact fI (by omega) | (simp_all)
            case r7 => intro h hh; cases hh

-- spec.l02Boiling
set_option maxRecDepth 20000 in
set_option maxHeartbeats 2000000 in
theorem D_spec_l02Boiling (x : Int) (hx : -10000000 ≤ x ∧ x ≤ 10000000) : Den Try.prog 95 [.s (.int .i64 x)] (.s (.int .i64 (boil x))) := by
  refine den_of_good Try.func95 (by decide) rfl (Nat.le_of_ble_eq_true rfl) (Nat.le_of_ble_eq_true rfl) ?_
  refine good_seq fun K1 hK1 => ?_
  refine good_region rfl ?_
  refine ev_q rfl (q_assign (by conv => lhs; whnf) ?_)
  refine ev_nil (hK1 _ ?_); clear hK1
  refine good_seq fun K2 hK2 => ?_
  refine good_region rfl ?_
  refine ev_k rfl (k_lit tE22 zA2 rfl rfl (by decide) (by decide) rfl rfl rfl ?_)
  refine ev_q rfl (q_assign (by conv => lhs; whnf) ?_)
  refine ev_nil (hK2 _ ?_); clear hK2
  refine good_seq fun K3 hK3 => ?_
  refine good_region rfl ?_
  refine ev_k rfl (k_lit tE22 zA2 rfl rfl (by decide) (by decide) rfl rfl rfl ?_)
  refine ev_q rfl (q_assign (by conv => lhs; whnf) ?_)
  refine ev_nil (hK3 _ ?_); clear hK3
  refine good_seq fun K4 hK4 => ?_
  refine good_region rfl ?_
  refine ev_q rfl (q_move (by conv => lhs; whnf) ?_)
  refine ev_q rfl (q_move (by conv => lhs; whnf) ?_)
  refine ev_q rfl (q_move (by conv => lhs; whnf) ?_)
  refine ev_q rfl (q_callI rfl rfl (rfl) (D_spec_l02Blend x hx) ?_)
  intro n5 hn5
  refine ev_q rfl (q_assign (by conv => lhs; whnf) ?_)
  refine ev_nil (hK4 _ ?_); clear hK4
  refine good_ret ?_
  repeat (first | refine thenQ_ret ?_ | refine blockQ_ret ?_)
  refine ret_tmp (st := _) rfl (by conv => lhs; whnf) rfl ?_
  first | rfl | exact fI (by first | omega | grind) | (exfalso; first | omega | grind)

-- impl.boilingAt
set_option maxRecDepth 20000 in
set_option maxHeartbeats 2000000 in
theorem D_impl_boilingAt (x : Int) (hx : -10000000 ≤ x ∧ x ≤ 10000000) : Den Try.prog 80 [.s (.int .i64 x)] (.s (.int .i64 (boil x))) := by
  have hlP : tP.length = 10 := rfl
  have hlV : tV.length = 10 := rfl
  refine den_of_good Try.func80 (by decide) rfl (Nat.le_of_ble_eq_true rfl) (Nat.le_of_ble_eq_true rfl) ?_
  refine good_seq fun K1 hK1 => ?_
  refine good_region rfl ?_
  refine ev_q rfl (q_assign (by conv => lhs; whnf) ?_)
  refine ev_nil (hK1 _ ?_); clear hK1
  refine good_seq fun K2 hK2 => ?_
  refine good_region rfl ?_
  refine ev_k rfl (k_build (cs := [.s (.int .i64 1000), .s (.int .i64 700)]) zA98 pl98 (rfl) ?_)
  refine ev_k rfl (k_build (cs := [.s (.int .i64 2000), .s (.int .i64 1750)]) zA98 pl98 (rfl) ?_)
  refine ev_k rfl (k_build (cs := [.s (.int .i64 10000), .s (.int .i64 4580)]) zA98 pl98 (rfl) ?_)
  refine ev_k rfl (k_build (cs := [.s (.int .i64 50000), .s (.int .i64 8135)]) zA98 pl98 (rfl) ?_)
  refine ev_k rfl (k_build (cs := [.s (.int .i64 101325), .s (.int .i64 9961)]) zA98 pl98 (rfl) ?_)
  refine ev_k rfl (k_build (cs := [.s (.int .i64 200000), .s (.int .i64 12023)]) zA98 pl98 (rfl) ?_)
  refine ev_k rfl (k_build (cs := [.s (.int .i64 400000), .s (.int .i64 14361)]) zA98 pl98 (rfl) ?_)
  refine ev_k rfl (k_build (cs := [.s (.int .i64 600000), .s (.int .i64 15883)]) zA98 pl98 (rfl) ?_)
  refine ev_k rfl (k_build (cs := [.s (.int .i64 1000000), .s (.int .i64 17988)]) zA98 pl98 (rfl) ?_)
  refine ev_k rfl (k_build (cs := [.s (.int .i64 1200000), .s (.int .i64 18796)]) zA98 pl98 (rfl) ?_)
  refine ev_k rfl (k_build (cs := boilC) zA99 pl99 (by kernel_rfl) ?_)
  refine ev_k rfl (k_alloc zA99 rfl ?_)
  refine ev_k rfl (k_store sz99 rfl (by conv => lhs; whnf) rfl rfl rfl (Nat.le_of_ble_eq_true rfl) rfl ?_)
  refine ev_nil (hK2 _ ?_); clear hK2
  refine good_seq fun K3 hK3 => ?_
  refine good_region rfl ?_
  refine ev_q rfl (q_assign (by conv => lhs; whnf) ?_)
  refine ev_nil (hK3 _ ?_); clear hK3
  refine good_seq fun K4 hK4 => ?_
  refine good_block ?_
  refine good_loop (α := Nat) (fun i => { env := upd (upd (upd ((fun _ => .junk)) 0 (.s (.int .i64 x))) 3 (.ptr 3 0)) 4 (.s (.int .i64 i)), H := upd ((fun _ => none)) 3 (some (.box 99 boilC)) }) (fun i => i ≤ 8 ∧ (i = 0 ∨ ∃ q : Int, tP[i]? = some q ∧ q ≤ x)) (fun i => 8 - i) 0 ?_ ?_ ?_
  · exact ⟨by omega, .inl rfl⟩
  · refine sub_weak ?_ ?_
    · exact weakH_box (boxEq (rfl)) rfl (weakH_none _)
    · refine weakE_upd ?e4 ?r4 (weakE_upd ?e3 ?r3 (weakE_upd ?e0 ?r0 (weakE_junk _ _)))
      case e0 => first | rfl | exact fI (by omega) | (simp_all)
      case r0 => intro h hh; cases hh
      case e3 => first | rfl | exact fI (by omega) | (simp_all)
      case r3 => intro h hh; simp [refs] at hh; subst hh; rfl
      case e4 => first | rfl | exact fI (by omega) | (simp_all)
      case r4 => intro h hh; cases hh
  · rintro i ⟨hI, hJ⟩
    refine good_seq fun K5 hK5 => ?_
    refine good_seq fun K6 hK6 => ?_
    refine good_region rfl ?_
    refine ev_q rfl (q_move (by conv => lhs; whnf) ?_)
    refine ev_q rfl (q_int rfl rfl ?_)
    intro b7 hb7; cases b7
    · replace hb7 := dF hb7
      refine ev_q rfl (q_move (by conv => lhs; whnf) ?_)
      refine ev_skip rfl ?_
      refine ev_skip rfl ?_
      refine ev_skip rfl ?_
      refine ev_skip rfl ?_
      refine ev_skip rfl ?_
      refine ev_skip rfl ?_
      refine ev_skip rfl ?_
      refine ev_q rfl (q_pickF rfl (by conv => lhs; whnf) ?_)
      refine ev_nil (hK6 _ ?_); clear hK6
      refine good_condF rfl ?_
      refine good_exit ?_
      repeat (first | refine thenQ_exit ?_ | refine blockQ_pass rfl ?_)
      refine blockQ_exit (hK4 _ ?_); clear hK4
      refine good_seq fun K8 hK8 => ?_
      refine good_draw 21 hmix (by kernel_rfl) rfl ?_
      refine qo_q rfl (q_move (by conv => lhs; whnf) ?_)
      obtain ⟨a, ha⟩ := getL (xs := tP) (n := (i : Int)) (by omega) (by omega)
      obtain ⟨b, hb⟩ := getL (xs := tV) (n := (i : Int)) (by omega) (by omega)
      have ba := tP_bd ha
      have bb := tV_bd hb
      refine qo_q rfl (q_idxA tEn99 tArr99 rfl rfl (by omega) (by omega) rfl ?_)
      refine qo_q rfl (q_idxA tEn98 tArr98 rfl rfl (by omega) (by omega) rfl ?_)
      refine qo_q rfl (q_loadI tA2 rfl rfl (tabP ha (by omega)) ?_)
      refine qo_q rfl (q_move (by conv => lhs; whnf) ?_)
      refine qo_q rfl (q_idxA tEn99 tArr99 rfl rfl (by omega) (by omega) rfl ?_)
      refine qo_q rfl (q_idxA tEn98 tArr98 rfl rfl (by omega) (by omega) rfl ?_)
      refine qo_q rfl (q_loadI tA2 rfl rfl (tabV hb (by omega)) ?_)
      refine qo_q rfl (q_move (by conv => lhs; whnf) ?_)
      refine qo_q rfl (q_int rfl rfl ?_)
      intro n9 hn9
      replace hn9 := in64 hn9 (by omega) (by omega)
      obtain ⟨p, hp⟩ := getL (xs := tP) (n := n9) (by omega) (by omega)
      have bp := tP_bd hp
      refine qo_q rfl (q_idxA tEn99 tArr99 rfl rfl (by omega) (by omega) rfl ?_)
      refine qo_q rfl (q_idxA tEn98 tArr98 rfl rfl (by omega) (by omega) rfl ?_)
      refine qo_q rfl (q_loadI tA2 rfl rfl (tabP hp (by omega)) ?_)
      refine qo_q rfl (q_move (by conv => lhs; whnf) ?_)
      refine qo_q rfl (q_int rfl rfl ?_)
      intro n10 hn10
      replace hn10 := in64 hn10 (by omega) (by omega)
      obtain ⟨d, hd⟩ := getL (xs := tV) (n := n10) (by omega) (by omega)
      have bd := tV_bd hd
      refine qo_q rfl (q_idxA tEn99 tArr99 rfl rfl (by omega) (by omega) rfl ?_)
      refine qo_q rfl (q_idxA tEn98 tArr98 rfl rfl (by omega) (by omega) rfl ?_)
      refine qo_q rfl (q_loadI tA2 rfl rfl (tabV hd (by omega)) ?_)
      refine qo_q rfl (q_move (by conv => lhs; whnf) ?_)
      refine qo_q rfl (q_callI rfl rfl (rfl) (D_impl_blend _ _ _ _ _ (by omega) (by omega) (by omega) (by omega)) ?_)
      intro n11 hn11
      refine qo_q rfl (q_assign (by conv => lhs; whnf) ?_)
      refine qo_nil ?_
      refine ev_nil (hK8 _ ?_); clear hK8
      refine good_ret ?_
      repeat (first | refine thenQ_ret ?_ | refine blockQ_ret ?_)
      refine ret_tmp (st := _) rfl (by conv => lhs; whnf) rfl ?_
      clear hK5
      exact fI (by rw [hn11]; exact boil_at2 (i := i) (by omega) (by rw [← ha]; congr 1) (by rw [← hb]; congr 1) (by rw [← hp]; congr 1; omega) (by rw [← hd]; congr 1; omega) (by rcases hJ with h | ⟨q, hq, hl⟩; exact .inl h; exact .inr (by have e : tP[i]? = some a := ha; rw [e] at hq; cases hq; exact hl)) (by first | exact .inl (by omega) | exact .inr (by have e : some p = some q0 := (by rw [← hp, ← hq0]; congr 1; omega); cases e; omega)))
    · replace hb7 := dT hb7
      refine ev_q rfl (q_move (by conv => lhs; whnf) ?_)
      refine ev_q rfl (q_move (by conv => lhs; whnf) ?_)
      refine ev_q rfl (q_move (by conv => lhs; whnf) ?_)
      refine ev_q rfl (q_int rfl rfl ?_)
      intro n12 hn12
      replace hn12 := in64 hn12 (by omega) (by omega)
      obtain ⟨q0, hq0⟩ := getL (xs := tP) (n := n12) (by omega) (by omega)
      refine ev_q rfl (q_idxA tEn99 tArr99 rfl rfl (by omega) (by omega) rfl ?_)
      refine ev_q rfl (q_idxA tEn98 tArr98 rfl rfl (by omega) (by omega) rfl ?_)
      refine ev_q rfl (q_loadI tA2 rfl rfl (tabP hq0 (by omega)) ?_)
      refine ev_q rfl (q_int rfl rfl ?_)
      intro b13 hb13; cases b13
      · replace hb13 := dF hb13
        refine ev_q rfl (q_pickT rfl (by conv => lhs; whnf) ?_)
        refine ev_nil (hK6 _ ?_); clear hK6
        refine good_condF rfl ?_
        refine good_exit ?_
        repeat (first | refine thenQ_exit ?_ | refine blockQ_pass rfl ?_)
        refine blockQ_exit (hK4 _ ?_); clear hK4
        refine good_seq fun K14 hK14 => ?_
        refine good_draw 21 hmix (by kernel_rfl) rfl ?_
        refine qo_q rfl (q_move (by conv => lhs; whnf) ?_)
        obtain ⟨a, ha⟩ := getL (xs := tP) (n := (i : Int)) (by omega) (by omega)
        obtain ⟨b, hb⟩ := getL (xs := tV) (n := (i : Int)) (by omega) (by omega)
        have ba := tP_bd ha
        have bb := tV_bd hb
        refine qo_q rfl (q_idxA tEn99 tArr99 rfl rfl (by omega) (by omega) rfl ?_)
        refine qo_q rfl (q_idxA tEn98 tArr98 rfl rfl (by omega) (by omega) rfl ?_)
        refine qo_q rfl (q_loadI tA2 rfl rfl (tabP ha (by omega)) ?_)
        refine qo_q rfl (q_move (by conv => lhs; whnf) ?_)
        refine qo_q rfl (q_idxA tEn99 tArr99 rfl rfl (by omega) (by omega) rfl ?_)
        refine qo_q rfl (q_idxA tEn98 tArr98 rfl rfl (by omega) (by omega) rfl ?_)
        refine qo_q rfl (q_loadI tA2 rfl rfl (tabV hb (by omega)) ?_)
        refine qo_q rfl (q_move (by conv => lhs; whnf) ?_)
        refine qo_q rfl (q_int rfl rfl ?_)
        intro n15 hn15
        replace hn15 := in64 hn15 (by omega) (by omega)
        obtain ⟨p, hp⟩ := getL (xs := tP) (n := n15) (by omega) (by omega)
        have bp := tP_bd hp
        refine qo_q rfl (q_idxA tEn99 tArr99 rfl rfl (by omega) (by omega) rfl ?_)
        refine qo_q rfl (q_idxA tEn98 tArr98 rfl rfl (by omega) (by omega) rfl ?_)
        refine qo_q rfl (q_loadI tA2 rfl rfl (tabP hp (by omega)) ?_)
        refine qo_q rfl (q_move (by conv => lhs; whnf) ?_)
        refine qo_q rfl (q_int rfl rfl ?_)
        intro n16 hn16
        replace hn16 := in64 hn16 (by omega) (by omega)
        obtain ⟨d, hd⟩ := getL (xs := tV) (n := n16) (by omega) (by omega)
        have bd := tV_bd hd
        refine qo_q rfl (q_idxA tEn99 tArr99 rfl rfl (by omega) (by omega) rfl ?_)
        refine qo_q rfl (q_idxA tEn98 tArr98 rfl rfl (by omega) (by omega) rfl ?_)
        refine qo_q rfl (q_loadI tA2 rfl rfl (tabV hd (by omega)) ?_)
        refine qo_q rfl (q_move (by conv => lhs; whnf) ?_)
        refine qo_q rfl (q_callI rfl rfl (rfl) (D_impl_blend _ _ _ _ _ (by omega) (by omega) (by omega) (by omega)) ?_)
        intro n17 hn17
        refine qo_q rfl (q_assign (by conv => lhs; whnf) ?_)
        refine qo_nil ?_
        refine ev_nil (hK14 _ ?_); clear hK14
        refine good_ret ?_
        repeat (first | refine thenQ_ret ?_ | refine blockQ_ret ?_)
        refine ret_tmp (st := _) rfl (by conv => lhs; whnf) rfl ?_
        clear hK5
        exact fI (by rw [hn17]; exact boil_at2 (i := i) (by omega) (by rw [← ha]; congr 1) (by rw [← hb]; congr 1) (by rw [← hp]; congr 1; omega) (by rw [← hd]; congr 1; omega) (by rcases hJ with h | ⟨q, hq, hl⟩; exact .inl h; exact .inr (by have e : tP[i]? = some a := ha; rw [e] at hq; cases hq; exact hl)) (by first | exact .inl (by omega) | exact .inr (by have e : some p = some q0 := (by rw [← hp, ← hq0]; congr 1; omega); cases e; omega)))
      · replace hb13 := dT hb13
        refine ev_q rfl (q_pickT rfl (by conv => lhs; whnf) ?_)
        refine ev_nil (hK6 _ ?_); clear hK6
        refine good_condT rfl ?_
        refine good_skip (hK5 _ ?_); clear hK5
        refine good_block ?_
        refine good_region rfl ?_
        refine ev_q rfl (q_move (by conv => lhs; whnf) ?_)
        refine ev_q rfl (q_int rfl rfl ?_)
        intro n18 hn18
        replace hn18 := in64 hn18 (by omega) (by omega)
        refine ev_q rfl (q_assign (by conv => lhs; whnf) ?_)
        refine ev_nil ?_
        clear hK4
        refine ⟨i + 1, ?_, ?_, ?_⟩
        · exact ⟨by omega, .inr ⟨q0, by rw [← hq0]; congr 1; omega, by omega⟩⟩
        · first | omega | (simp only []; omega) | (dsimp only; omega)
        · refine sub_weak ?_ ?_
          · exact weakH_box (boxEq (rfl)) rfl (weakH_none _)
          · refine weakE_upd ?e4 ?r4 (weakE_upd ?e3 ?r3 (weakE_upd ?e0 ?r0 (weakE_junk _ _)))
            case e0 => first | rfl | exact fI (by omega) | (simp_all)
            case r0 => intro h hh; cases hh
            case e3 => first | rfl | exact fI (by omega) | (simp_all)
            case r3 => intro h hh; simp [refs] at hh; subst hh; rfl
            case e4 => first | rfl | exact fI (by omega) | (simp_all)
            case r4 => intro h hh; cases hh

-- impl.steamPressure$1
set_option maxRecDepth 20000 in
set_option maxHeartbeats 2000000 in
theorem D_impl_steamPressure_1 (n t : Int) (h : -10000000 ≤ n ∧ n ≤ 10000000) : Den Try.prog 79 [.s (.int .i64 n), .rp [.s (.int .i64 t)]] (.s (.bool (decide (boil n ≥ t)))) := by
  refine den_of_good Try.func79 (by decide) rfl (Nat.le_of_ble_eq_true rfl) (Nat.le_of_ble_eq_true rfl) ?_
  refine good_seq fun K1 hK1 => ?_
  refine good_region rfl ?_
  refine ev_q rfl (q_assign (by conv => lhs; whnf) ?_)
  refine ev_nil (hK1 _ ?_); clear hK1
  refine good_seq fun K2 hK2 => ?_
  refine good_draw 5 hmix (by kernel_rfl) rfl ?_
  refine qo_q rfl (q_move (by conv => lhs; whnf) ?_)
  refine qo_q rfl (q_callI rfl rfl (rfl) (D_impl_boilingAt _ h) ?_)
  intro n3 hn3
  refine qo_q rfl (q_load tA2 rfl ?_)
  refine qo_q rfl (q_int rfl rfl ?_)
  intro b4 hb4; cases b4
  · replace hb4 := dF hb4
    refine qo_q rfl (q_assign (by conv => lhs; whnf) ?_)
    refine qo_nil ?_
    refine ev_nil (hK2 _ ?_); clear hK2
    refine good_ret ?_
    repeat (first | refine thenQ_ret ?_ | refine blockQ_ret ?_)
    refine ret_tmp (st := _) rfl (by conv => lhs; whnf) rfl ?_
    first | rfl | exact fT (by first | omega | grind) | exact fF (by first | omega | grind) | exact fT' (by first | omega | grind) | (exfalso; first | omega | grind)
  · replace hb4 := dT hb4
    refine qo_q rfl (q_assign (by conv => lhs; whnf) ?_)
    refine qo_nil ?_
    refine ev_nil (hK2 _ ?_); clear hK2
    refine good_ret ?_
    repeat (first | refine thenQ_ret ?_ | refine blockQ_ret ?_)
    refine ret_tmp (st := _) rfl (by conv => lhs; whnf) rfl ?_
    first | rfl | exact fT (by first | omega | grind) | exact fF (by first | omega | grind) | exact fT' (by first | omega | grind) | (exfalso; first | omega | grind)

-- impl.steamPressure
set_option maxRecDepth 20000 in
set_option maxHeartbeats 2000000 in
theorem D_impl_steamPressure (t : Int)  : Den Try.prog 48 [.s (.int .i64 t)] (.s (.int .i64 (stm t))) := by
  refine den_of_good Try.func48 (by decide) rfl (Nat.le_of_ble_eq_true rfl) (Nat.le_of_ble_eq_true rfl) ?_
  refine good_seq fun K1 hK1 => ?_
  refine good_region rfl ?_
  refine ev_k rfl (k_box (by conv => lhs; whnf) rfl rfl rfl ?_)
  refine ev_q rfl (q_assign (by conv => lhs; whnf) ?_)
  refine ev_nil (hK1 _ ?_); clear hK1
  refine good_seq fun K2 hK2 => ?_
  refine good_region rfl ?_
  refine ev_q rfl (q_clo rfl rfl ?_)
  refine ev_q rfl (q_call rfl rfl (rfl) (D_impl_firstIn _ _ (fun n => boil n ≥ t) 1000 1200000 (by omega) (by omega) (by omega) (fun a b h1 h2 h3 h4 => Int.le_trans h4 (boil_mono h2)) (fun a h1 h2 => D_impl_steamPressure_1 a t (by omega))) rfl ?_)
  refine ev_q rfl (q_move (by conv => lhs; whnf) ?_)
  refine ev_q rfl (q_extractI rfl rfl ?_)
  intro n3 hn3
  refine ev_q rfl (q_extractB rfl rfl ?_)
  intro b4 hb4; cases b4
  · first | replace hb4 := dF hb4 | skip
    refine ev_q rfl (q_assign (by conv => lhs; whnf) ?_)
    refine ev_q rfl (q_assign (by conv => lhs; whnf) ?_)
    refine ev_nil (hK2 _ ?_); clear hK2
    refine good_seq fun K5 hK5 => ?_
    refine good_region rfl ?_
    refine ev_q rfl (q_move (by conv => lhs; whnf) ?_)
    refine ev_q rfl (q_assign (by conv => lhs; whnf) ?_)
    refine ev_nil (hK5 _ ?_); clear hK5
    refine good_ret ?_
    repeat (first | refine thenQ_ret ?_ | refine blockQ_ret ?_)
    refine ret_tmp (st := _) rfl (by conv => lhs; whnf) rfl ?_
    exact fI hn3
  · first | replace hb4 := dT hb4 | skip
    refine ev_q rfl (q_assign (by conv => lhs; whnf) ?_)
    refine ev_q rfl (q_assign (by conv => lhs; whnf) ?_)
    refine ev_nil (hK2 _ ?_); clear hK2
    refine good_seq fun K6 hK6 => ?_
    refine good_region rfl ?_
    refine ev_q rfl (q_move (by conv => lhs; whnf) ?_)
    refine ev_q rfl (q_assign (by conv => lhs; whnf) ?_)
    refine ev_nil (hK6 _ ?_); clear hK6
    refine good_ret ?_
    repeat (first | refine thenQ_ret ?_ | refine blockQ_ret ?_)
    refine ret_tmp (st := _) rfl (by conv => lhs; whnf) rfl ?_
    exact fI hn3

-- spec.l02Pressure
set_option maxRecDepth 20000 in
set_option maxHeartbeats 2000000 in
theorem D_spec_l02Pressure (t : Int) (ht : t ≤ 18796) : Den Try.prog 76 [.s (.int .i64 t)] (.s (.int .i64 (stm t))) := by
  refine den_of_good Try.func76 (by decide) rfl (Nat.le_of_ble_eq_true rfl) (Nat.le_of_ble_eq_true rfl) ?_
  refine good_seq fun K1 hK1 => ?_
  refine good_region rfl ?_
  refine ev_q rfl (q_assign (by conv => lhs; whnf) ?_)
  refine ev_nil (hK1 _ ?_); clear hK1
  refine good_seq fun K2 hK2 => ?_
  refine good_region rfl ?_
  refine ev_q rfl (q_assign (by conv => lhs; whnf) ?_)
  refine ev_nil (hK2 _ ?_); clear hK2
  refine good_seq fun K3 hK3 => ?_
  refine good_region rfl ?_
  refine ev_q rfl (q_assign (by conv => lhs; whnf) ?_)
  refine ev_nil (hK3 _ ?_); clear hK3
  refine good_seq fun K4 hK4 => ?_
  refine good_block ?_
  refine good_loop (α := Int × Int) (fun (l, h) => { env := upd (upd (upd ((fun _ => .junk)) 0 (.s (.int .i64 t))) 3 (.s (.int .i64 l))) 4 (.s (.int .i64 h)), H := fun _ => none }) (fun (l, h) => (999 ≤ l ∧ l + 1 ≤ h ∧ h ≤ 1200000) ∧ (1000 ≤ l → ¬ boil l ≥ t) ∧ boil h ≥ t) (fun (l, h) => (h - l).toNat) (999, 1200000) ?_ ?_ ?_
  · exact ⟨by omega, fun h => by omega, by rw [boil_top]; exact ht⟩
  · refine sub_weak ?_ ?_
    · exact weakH_none _
    · refine weakE_upd ?e4 ?r4 (weakE_upd ?e3 ?r3 (weakE_upd ?e0 ?r0 (weakE_junk _ _)))
      case e0 => first | rfl | exact fI (by omega) | (simp_all)
      case r0 => intro h hh; cases hh
      case e3 => first | rfl | exact fI (by omega) | (simp_all)
      case r3 => intro h hh; cases hh
      case e4 => first | rfl | exact fI (by omega) | (simp_all)
      case r4 => intro h hh; cases hh
  · rintro ⟨l, h⟩ ⟨hI, hJ, hK⟩
    refine good_seq fun K5 hK5 => ?_
    refine good_seq fun K6 hK6 => ?_
    refine good_region rfl ?_
    refine ev_q rfl (q_move (by conv => lhs; whnf) ?_)
    refine ev_q rfl (q_move (by conv => lhs; whnf) ?_)
    refine ev_q rfl (q_int rfl rfl ?_)
    intro n7 hn7
    replace hn7 := in64 hn7 (by omega) (by omega)
    refine ev_q rfl (q_int rfl rfl ?_)
    intro b8 hb8; cases b8
    · replace hb8 := dF hb8
      refine ev_nil (hK6 _ ?_); clear hK6
      refine good_condF rfl ?_
      refine good_exit ?_
      repeat (first | refine thenQ_exit ?_ | refine blockQ_pass rfl ?_)
      refine blockQ_exit (hK4 _ ?_); clear hK4
      refine good_seq fun K9 hK9 => ?_
      refine good_region rfl ?_
      refine ev_q rfl (q_move (by conv => lhs; whnf) ?_)
      refine ev_q rfl (q_assign (by conv => lhs; whnf) ?_)
      refine ev_nil (hK9 _ ?_); clear hK9
      refine good_ret ?_
      repeat (first | refine thenQ_ret ?_ | refine blockQ_ret ?_)
      refine ret_tmp (st := _) rfl (by conv => lhs; whnf) rfl ?_
      clear hK5
      exact fI (stm_uniq (by omega) (by omega) (fun a h1 h2 h3 => hJ (by omega) (Int.le_trans h3 (boil_mono (by omega)))) hK).symm
    · replace hb8 := dT hb8
      refine ev_nil (hK6 _ ?_); clear hK6
      refine good_condT rfl ?_
      refine good_skip (hK5 _ ?_); clear hK5
      refine good_block ?_
      refine good_seq fun K10 hK10 => ?_
      refine good_region rfl ?_
      refine ev_q rfl (q_move (by conv => lhs; whnf) ?_)
      refine ev_q rfl (q_move (by conv => lhs; whnf) ?_)
      refine ev_q rfl (q_int rfl rfl ?_)
      intro n11 hn11
      replace hn11 := in64 hn11 (by omega) (by omega)
      refine ev_q rfl (q_int rfl rfl ⟨by omega, ?_⟩)
      intro n12 hn12
      first | replace hn12 := quoE hn12 (by omega) (by omega) | replace hn12 := quoT hn12 (by omega) (by omega)
      refine ev_q rfl (q_assign (by conv => lhs; whnf) ?_)
      refine ev_nil (hK10 _ ?_); clear hK10
      refine good_seq fun K13 hK13 => ?_
      refine good_region rfl ?_
      refine ev_q rfl (q_move (by conv => lhs; whnf) ?_)
      refine ev_q rfl (q_callI rfl rfl (rfl) (D_spec_l02Boiling _ (by omega)) ?_)
      intro n14 hn14
      refine ev_q rfl (q_move (by conv => lhs; whnf) ?_)
      refine ev_q rfl (q_int rfl rfl ?_)
      intro b15 hb15; cases b15
      · replace hb15 := dF hb15
        refine ev_nil (hK13 _ ?_); clear hK13
        refine good_condF rfl ?_
        refine good_region rfl ?_
        refine ev_q rfl (q_move (by conv => lhs; whnf) ?_)
        refine ev_q rfl (q_assign (by conv => lhs; whnf) ?_)
        refine ev_nil ?_
        clear hK4
        refine ⟨(n12, h), ?_, ?_, ?_⟩
        · exact ⟨by first | omega | (dsimp only; omega), fun _ hb => by rw [← hn14] at hb; contradiction, hK⟩
        · first | omega | (dsimp only; omega)
        · refine sub_weak ?_ ?_
          · exact weakH_none _
          · refine weakE_upd ?e4 ?r4 (weakE_upd ?e3 ?r3 (weakE_upd ?e0 ?r0 (weakE_junk _ _)))
            case e0 => first | rfl | exact fI (by omega) | (simp_all)
            case r0 => intro h hh; cases hh
            case e3 => first | rfl | exact fI (by omega) | (simp_all)
            case r3 => intro h hh; cases hh
            case e4 => first | rfl | exact fI (by omega) | (simp_all)
            case r4 => intro h hh; cases hh
      · replace hb15 := dT hb15
        refine ev_nil (hK13 _ ?_); clear hK13
        refine good_condT rfl ?_
        refine good_region rfl ?_
        refine ev_q rfl (q_move (by conv => lhs; whnf) ?_)
        refine ev_q rfl (q_assign (by conv => lhs; whnf) ?_)
        refine ev_nil ?_
        clear hK4
        refine ⟨(l, n12), ?_, ?_, ?_⟩
        · exact ⟨by first | omega | (dsimp only; omega), hJ, by rw [← hn14]; assumption⟩
        · first | omega | (dsimp only; omega)
        · refine sub_weak ?_ ?_
          · exact weakH_none _
          · refine weakE_upd ?e4 ?r4 (weakE_upd ?e3 ?r3 (weakE_upd ?e0 ?r0 (weakE_junk _ _)))
            case e0 => first | rfl | exact fI (by omega) | (simp_all)
            case r0 => intro h hh; cases hh
            case e3 => first | rfl | exact fI (by omega) | (simp_all)
            case r3 => intro h hh; cases hh
            case e4 => first | rfl | exact fI (by omega) | (simp_all)
            case r4 => intro h hh; cases hh

-- spec.l11Steam
set_option maxRecDepth 20000 in
set_option maxHeartbeats 2000000 in
theorem D_spec_l11Steam (t : Int) (ht : t ≤ 18796) : Den Try.prog 43 [.s (.int .i64 t)] (.s (.int .i64 (stm t))) := by
  refine den_of_good Try.func43 (by decide) rfl (Nat.le_of_ble_eq_true rfl) (Nat.le_of_ble_eq_true rfl) ?_
  refine good_seq fun K1 hK1 => ?_
  refine good_region rfl ?_
  refine ev_q rfl (q_assign (by conv => lhs; whnf) ?_)
  refine ev_nil (hK1 _ ?_); clear hK1
  refine good_seq fun K2 hK2 => ?_
  refine good_region rfl ?_
  refine ev_q rfl (q_move (by conv => lhs; whnf) ?_)
  refine ev_q rfl (q_callI rfl rfl (rfl) (D_spec_l02Pressure _ ht) ?_)
  intro n3 hn3
  refine ev_q rfl (q_assign (by conv => lhs; whnf) ?_)
  refine ev_nil (hK2 _ ?_); clear hK2
  refine good_ret ?_
  repeat (first | refine thenQ_ret ?_ | refine blockQ_ret ?_)
  refine ret_tmp (st := _) rfl (by conv => lhs; whnf) rfl ?_
  first | rfl | exact fI (by first | omega | grind) | (exfalso; first | omega | grind)

-- spec.l00Min
set_option maxRecDepth 20000 in
set_option maxHeartbeats 2000000 in
theorem D_spec_l00Min (a b : Int)  : Den Try.prog 52 [.s (.int .i64 a), .s (.int .i64 b)] (.s (.int .i64 (if a < b then a else b))) := by
  refine den_of_good Try.func52 (by decide) rfl (Nat.le_of_ble_eq_true rfl) (Nat.le_of_ble_eq_true rfl) ?_
  refine good_seq fun K1 hK1 => ?_
  refine good_region rfl ?_
  refine ev_q rfl (q_assign (by conv => lhs; whnf) ?_)
  refine ev_nil (hK1 _ ?_); clear hK1
  refine good_seq fun K2 hK2 => ?_
  refine good_seq fun K3 hK3 => ?_
  refine good_region rfl ?_
  refine ev_q rfl (q_move (by conv => lhs; whnf) ?_)
  refine ev_q rfl (q_move (by conv => lhs; whnf) ?_)
  refine ev_q rfl (q_int rfl rfl ?_)
  intro b4 hb4; cases b4
  · replace hb4 := dF hb4
    refine ev_nil (hK3 _ ?_); clear hK3
    refine good_condF rfl ?_
    refine good_skip (hK2 _ ?_); clear hK2
    refine good_seq fun K5 hK5 => ?_
    refine good_region rfl ?_
    refine ev_q rfl (q_move (by conv => lhs; whnf) ?_)
    refine ev_q rfl (q_assign (by conv => lhs; whnf) ?_)
    refine ev_nil (hK5 _ ?_); clear hK5
    refine good_ret ?_
    repeat (first | refine thenQ_ret ?_ | refine blockQ_ret ?_)
    refine ret_tmp (st := _) rfl (by conv => lhs; whnf) rfl ?_
    first | rfl | exact fI (by first | omega | grind) | (exfalso; first | omega | grind)
  · replace hb4 := dT hb4
    refine ev_nil (hK3 _ ?_); clear hK3
    refine good_condT rfl ?_
    refine good_seq fun K6 hK6 => ?_
    refine good_region rfl ?_
    refine ev_q rfl (q_move (by conv => lhs; whnf) ?_)
    refine ev_q rfl (q_assign (by conv => lhs; whnf) ?_)
    refine ev_nil (hK6 _ ?_); clear hK6
    refine good_ret ?_
    repeat (first | refine thenQ_ret ?_ | refine blockQ_ret ?_)
    refine ret_tmp (st := _) rfl (by conv => lhs; whnf) rfl ?_
    clear hK2
    first | rfl | exact fI (by first | omega | grind) | (exfalso; first | omega | grind)

-- spec.l00Max
set_option maxRecDepth 20000 in
set_option maxHeartbeats 2000000 in
theorem D_spec_l00Max (a b : Int)  : Den Try.prog 51 [.s (.int .i64 a), .s (.int .i64 b)] (.s (.int .i64 (if a > b then a else b))) := by
  refine den_of_good Try.func51 (by decide) rfl (Nat.le_of_ble_eq_true rfl) (Nat.le_of_ble_eq_true rfl) ?_
  refine good_seq fun K1 hK1 => ?_
  refine good_region rfl ?_
  refine ev_q rfl (q_assign (by conv => lhs; whnf) ?_)
  refine ev_nil (hK1 _ ?_); clear hK1
  refine good_seq fun K2 hK2 => ?_
  refine good_seq fun K3 hK3 => ?_
  refine good_region rfl ?_
  refine ev_q rfl (q_move (by conv => lhs; whnf) ?_)
  refine ev_q rfl (q_move (by conv => lhs; whnf) ?_)
  refine ev_q rfl (q_int rfl rfl ?_)
  intro b4 hb4; cases b4
  · replace hb4 := dF hb4
    refine ev_nil (hK3 _ ?_); clear hK3
    refine good_condF rfl ?_
    refine good_skip (hK2 _ ?_); clear hK2
    refine good_seq fun K5 hK5 => ?_
    refine good_region rfl ?_
    refine ev_q rfl (q_move (by conv => lhs; whnf) ?_)
    refine ev_q rfl (q_assign (by conv => lhs; whnf) ?_)
    refine ev_nil (hK5 _ ?_); clear hK5
    refine good_ret ?_
    repeat (first | refine thenQ_ret ?_ | refine blockQ_ret ?_)
    refine ret_tmp (st := _) rfl (by conv => lhs; whnf) rfl ?_
    first | rfl | exact fI (by first | omega | grind) | (exfalso; first | omega | grind)
  · replace hb4 := dT hb4
    refine ev_nil (hK3 _ ?_); clear hK3
    refine good_condT rfl ?_
    refine good_seq fun K6 hK6 => ?_
    refine good_region rfl ?_
    refine ev_q rfl (q_move (by conv => lhs; whnf) ?_)
    refine ev_q rfl (q_assign (by conv => lhs; whnf) ?_)
    refine ev_nil (hK6 _ ?_); clear hK6
    refine good_ret ?_
    repeat (first | refine thenQ_ret ?_ | refine blockQ_ret ?_)
    refine ret_tmp (st := _) rfl (by conv => lhs; whnf) rfl ?_
    clear hK2
    first | rfl | exact fI (by first | omega | grind) | (exfalso; first | omega | grind)

-- impl.PressureRoom
set_option maxRecDepth 20000 in
set_option maxHeartbeats 2000000 in
theorem D_impl_PressureRoom (xs ds : List Int) (m lim : Int) (hx : xs.length ≤ 17592186044416) (hd : ds.length ≤ 17592186044416) : Den Try.prog 23 [.lst 1 (xs.map ci), .lst 1 (ds.map ci), .s (.int .i64 m), .s (.int .i64 lim)] (.tup [.s (.int .i64 (if prC xs ds m lim = 0 then prL (prG xs ds m) xs.length else 0)), .s (.int .i64 (if prC xs ds m lim = 0 then prH (prh xs lim) xs.length else 0)), .s (.int .i64 (prC xs ds m lim))]) := by
  refine den_of_good Try.func23 (by decide) rfl (Nat.le_of_ble_eq_true rfl) (Nat.le_of_ble_eq_true rfl) ?_
  refine good_seq fun K1 hK1 => ?_
  refine good_region rfl ?_
  refine ev_q rfl (q_assign (by conv => lhs; whnf) ?_)
  refine ev_q rfl (q_assign (by conv => lhs; whnf) ?_)
  refine ev_q rfl (q_assign (by conv => lhs; whnf) ?_)
  refine ev_nil (hK1 _ ?_); clear hK1
  refine good_seq fun K2 hK2 => ?_
  refine good_region rfl ?_
  refine ev_q rfl (q_move (by conv => lhs; whnf) ?_)
  refine ev_q rfl (q_move (by conv => lhs; whnf) ?_)
  refine ev_q rfl (q_move (by conv => lhs; whnf) ?_)
  refine ev_q rfl (q_move (by conv => lhs; whnf) ?_)
  refine ev_q rfl (q_callI rfl rfl (rfl) (D_impl_boilingCode xs ds m lim hx hd) ?_)
  intro n3 hn3
  refine ev_q rfl (q_assign (by conv => lhs; whnf) ?_)
  refine ev_nil (hK2 _ ?_); clear hK2
  refine good_seq fun K4 hK4 => ?_
  refine good_block ?_
  refine good_seq fun K5 hK5 => ?_
  refine good_region rfl ?_
  refine ev_q rfl (q_move (by conv => lhs; whnf) ?_)
  refine ev_q rfl (q_int rfl rfl ?_)
  intro b6 hb6; cases b6
  · replace hb6 := neF hb6
    refine ev_q rfl (q_assign (by conv => lhs; whnf) ?_)
    refine ev_nil (hK5 _ ?_); clear hK5
    refine good_condF rfl ?_
    refine good_seq fun K7 hK7 => ?_
    refine good_region rfl ?_
    refine ev_q rfl (q_move (by conv => lhs; whnf) ?_)
    refine ev_q rfl (q_len tEs22 rfl ?_)
    intro n8 hn8
    try simp only [List.length_map] at hn8
    refine ev_q rfl (q_int rfl rfl ?_)
    intro b9 hb9; cases b9
    · replace hb9 := eqF hb9
      refine ev_q rfl (q_assign (by conv => lhs; whnf) ?_)
      refine ev_nil (hK7 _ ?_); clear hK7
      refine good_condF rfl ?_
      refine good_skip (hK4 _ ?_); clear hK4
      refine good_seq fun K10 hK10 => ?_
      refine good_region rfl ?_
      refine ev_q rfl (q_assign (by conv => lhs; whnf) ?_)
      refine ev_q rfl (q_assign (by conv => lhs; whnf) ?_)
      refine ev_nil (hK10 _ ?_); clear hK10
      refine good_seq fun K11 hK11 => ?_
      refine good_seq fun K12 hK12 => ?_
      refine good_region rfl ?_
      refine ev_q rfl (q_move (by conv => lhs; whnf) ?_)
      refine ev_q rfl (q_len tEs22 rfl ?_)
      intro n13 hn13
      try simp only [List.length_map] at hn13
      refine ev_q rfl (q_move (by conv => lhs; whnf) ?_)
      refine ev_nil (hK12 _ ?_); clear hK12
      refine good_block ?_
      have ok := bc_ok (show bc xs ds m lim = 0 by omega)
      have hok := ok.2
      refine good_loop (α := Nat) (fun i => { env := upd (upd (upd (upd (upd (upd (upd (upd ((fun _ => .junk)) 1 (.lst 1 (ds.map ci))) 2 (.s (.int .i64 m))) 3 (.s (.int .i64 lim))) 12 (.s (.int .i64 (prL (prG xs ds m) i)))) 13 (.s (.int .i64 (prH (prh xs lim) i)))) 29 (.lst 1 (xs.map ci))) 30 (.s (.int .i64 ((xs.length : Int))))) 31 (.s (.int .i64 i)), H := fun _ => none }) (fun i => i ≤ xs.length) (fun i => xs.length - i) 0 ?_ ?_ ?_
      · show 0 ≤ _; omega
      · refine sub_weak ?_ ?_
        · exact weakH_none _
        · refine weakE_upd ?e31 ?r31 (weakE_upd ?e30 ?r30 (weakE_upd ?e29 ?r29 (weakE_upd ?e13 ?r13 (weakE_upd ?e12 ?r12 (weakE_upd ?e3 ?r3 (weakE_upd ?e2 ?r2 (weakE_upd ?e1 ?r1 (weakE_junk _ _))))))))
          case e1 => first | rfl | exact fI (by omega) | (simp_all)
          case r1 => intro h hh; cases hh
          case e2 => first | rfl | exact fI (by omega) | (simp_all)
          case r2 => intro h hh; cases hh
          case e3 => first | rfl | exact fI (by omega) | (simp_all)
          case r3 => intro h hh; cases hh
          case e12 => first | rfl | exact fI (by omega) | (first | rfl | exact fI (by rw [sl]; omega))
          case r12 => intro h hh; cases hh
          case e13 => first | rfl | exact fI (by omega) | (first | rfl | exact fI (by rw [sh]; omega))
          case r13 => intro h hh; cases hh
          case e29 => first | rfl | exact fI (by omega) | (simp_all)
          case r29 => intro h hh; cases hh
          case e30 => first | rfl | exact fI (by omega) | (simp_all)
          case r30 => intro h hh; cases hh
          case e31 => first | rfl | exact fI (by omega) | (simp_all)
          case r31 => intro h hh; cases hh
      · rintro i hI
        refine good_seq fun K14 hK14 => ?_
        refine good_region rfl ?_
        refine ev_q rfl (q_int rfl rfl ?_)
        intro b15 hb15; cases b15
        · replace hb15 := dF hb15
          refine ev_nil (hK14 _ ?_); clear hK14
          refine good_seq fun K16 hK16 => ?_
          refine good_condF rfl ?_
          refine good_exit ?_
          repeat (first | refine thenQ_exit ?_ | refine blockQ_pass rfl ?_)
          refine blockQ_exit (hK11 _ ?_); clear hK11
          refine good_seq fun K17 hK17 => ?_
          refine good_seq fun K18 hK18 => ?_
          refine good_region rfl ?_
          refine ev_q rfl (q_move (by conv => lhs; whnf) ?_)
          refine ev_q rfl (q_move (by conv => lhs; whnf) ?_)
          refine ev_q rfl (q_int rfl rfl ?_)
          intro b19 hb19; cases b19
          · replace hb19 := dF hb19
            refine ev_nil (hK18 _ ?_); clear hK18
            refine good_condF rfl ?_
            refine good_skip (hK17 _ ?_); clear hK17
            refine good_seq fun K20 hK20 => ?_
            refine good_region rfl ?_
            refine ev_q rfl (q_move (by conv => lhs; whnf) ?_)
            refine ev_q rfl (q_move (by conv => lhs; whnf) ?_)
            refine ev_q rfl (q_assign (by conv => lhs; whnf) ?_)
            refine ev_q rfl (q_assign (by conv => lhs; whnf) ?_)
            refine ev_q rfl (q_assign (by conv => lhs; whnf) ?_)
            refine ev_nil (hK20 _ ?_); clear hK20
            refine good_ret ?_
            repeat (first | refine thenQ_ret ?_ | refine blockQ_ret ?_)
            refine ret_many rfl ?_
            refine res_tmp (by conv => lhs; whnf) rfl ?_
            refine res_tmp (by conv => lhs; whnf) rfl ?_
            refine res_tmp (by conv => lhs; whnf) rfl ?_
            refine res_nil ?_
            clear hK16
            first | (have e : prC xs ds m lim = bc xs ds m lim := (by unfold prC; rw [if_neg (by omega)]); exact fTup1 (fI (by rw [if_neg (by omega)])) (fTup1 (fI (by rw [if_neg (by omega)])) (fTup1 (fI (by omega)) rfl))) | (have e : prC xs ds m lim = 6 := (by unfold prC; rw [if_pos (by omega), if_pos (by omega)]); exact fTup1 (fI (by rw [if_neg (by omega)])) (fTup1 (fI (by rw [if_neg (by omega)])) (fTup1 (fI (by omega)) rfl))) | (have e3 : i = xs.length := (by omega); first | (have e : prC xs ds m lim = 3 := (by unfold prC; rw [if_pos (by omega), if_neg (by omega), ← e3, if_pos (by omega)]); exact fTup1 (fI (by rw [if_neg (by omega)])) (fTup1 (fI (by rw [if_neg (by omega)])) (fTup1 (fI (by omega)) rfl))) | (have e : prC xs ds m lim = 0 := (by unfold prC; rw [if_pos (by omega), if_neg (by omega), ← e3, if_neg (by omega)]); exact fTup1 (fI (by rw [if_pos e, ← e3]; first | done | omega)) (fTup1 (fI (by rw [if_pos e, ← e3]; first | done | omega)) (fTup1 (fI (by omega)) rfl))))
          · replace hb19 := dT hb19
            refine ev_nil (hK18 _ ?_); clear hK18
            refine good_condT rfl ?_
            refine good_seq fun K21 hK21 => ?_
            refine good_region rfl ?_
            refine ev_q rfl (q_assign (by conv => lhs; whnf) ?_)
            refine ev_q rfl (q_assign (by conv => lhs; whnf) ?_)
            refine ev_q rfl (q_assign (by conv => lhs; whnf) ?_)
            refine ev_nil (hK21 _ ?_); clear hK21
            refine good_ret ?_
            repeat (first | refine thenQ_ret ?_ | refine blockQ_ret ?_)
            refine ret_many rfl ?_
            refine res_tmp (by conv => lhs; whnf) rfl ?_
            refine res_tmp (by conv => lhs; whnf) rfl ?_
            refine res_tmp (by conv => lhs; whnf) rfl ?_
            refine res_nil ?_
            clear hK16 hK17
            first | (have e : prC xs ds m lim = bc xs ds m lim := (by unfold prC; rw [if_neg (by omega)]); exact fTup1 (fI (by rw [if_neg (by omega)])) (fTup1 (fI (by rw [if_neg (by omega)])) (fTup1 (fI (by omega)) rfl))) | (have e : prC xs ds m lim = 6 := (by unfold prC; rw [if_pos (by omega), if_pos (by omega)]); exact fTup1 (fI (by rw [if_neg (by omega)])) (fTup1 (fI (by rw [if_neg (by omega)])) (fTup1 (fI (by omega)) rfl))) | (have e3 : i = xs.length := (by omega); first | (have e : prC xs ds m lim = 3 := (by unfold prC; rw [if_pos (by omega), if_neg (by omega), ← e3, if_pos (by omega)]); exact fTup1 (fI (by rw [if_neg (by omega)])) (fTup1 (fI (by rw [if_neg (by omega)])) (fTup1 (fI (by omega)) rfl))) | (have e : prC xs ds m lim = 0 := (by unfold prC; rw [if_pos (by omega), if_neg (by omega), ← e3, if_neg (by omega)]); exact fTup1 (fI (by rw [if_pos e, ← e3]; first | done | omega)) (fTup1 (fI (by rw [if_pos e, ← e3]; first | done | omega)) (fTup1 (fI (by omega)) rfl))))
        · replace hb15 := dT hb15
          obtain ⟨p, hp⟩ := getL (xs := xs) (n := (i : Int)) (by omega) (by omega)
          replace hp : xs[i]? = some p := hp
          obtain ⟨q, hq⟩ := getL (xs := ds) (n := (i : Int)) (by omega) (by omega)
          replace hq : ds[i]? = some q := hq
          have bp := hok.2.1 _ _ hp
          have bq := nodes_q hok.2.2 hq
          have eg := prG_eq (m := m) hp hq
          have eh := prh_eq (lim := lim) hp
          have sl := prL_s (g := prG xs ds m) (n := i)
          have sh := prH_s (g := prh xs lim) (n := i)
          refine ev_nil (hK14 _ ?_); clear hK14
          refine good_seq fun K22 hK22 => ?_
          refine good_condT rfl ?_
          refine good_skip (hK22 _ ?_); clear hK22
          refine good_seq fun K23 hK23 => ?_
          refine good_block ?_
          refine good_seq fun K24 hK24 => ?_
          refine good_region rfl ?_
          refine ev_q rfl (q_move (by conv => lhs; whnf) ?_)
          refine ev_q rfl (q_idx tE22 rfl rfl (by exact Int.natCast_nonneg _) (by exact map_get hp) rfl ?_)
          refine ev_q rfl (q_load tA2 rfl ?_)
          refine ev_q rfl (q_assign (by conv => lhs; whnf) ?_)
          refine ev_q rfl (q_assign (by conv => lhs; whnf) ?_)
          refine ev_nil (hK24 _ ?_); clear hK24
          refine good_seq fun K25 hK25 => ?_
          refine good_region rfl ?_
          refine ev_q rfl (q_move (by conv => lhs; whnf) ?_)
          refine ev_q rfl (q_move (by conv => lhs; whnf) ?_)
          refine ev_q rfl (q_move (by conv => lhs; whnf) ?_)
          refine ev_q rfl (q_idx tE22 rfl rfl (by exact Int.natCast_nonneg _) (by exact map_get hq) rfl ?_)
          refine ev_q rfl (q_load tA2 rfl ?_)
          refine ev_q rfl (q_callI rfl rfl (rfl) (D_impl_steamPressure _) ?_)
          intro n26 hn26
          refine ev_q rfl (q_move (by conv => lhs; whnf) ?_)
          refine ev_q rfl (q_int rfl rfl ?_)
          intro n27 hn27
          replace hn27 := in64 hn27 (by omega) (by omega)
          refine ev_q rfl (q_move (by conv => lhs; whnf) ?_)
          refine ev_q rfl (q_int rfl rfl ?_)
          intro n28 hn28
          replace hn28 := in64 hn28 (by omega) (by omega)
          refine ev_q rfl (q_max rfl rfl ?_)
          intro n29 hn29; simp only [mxI, mnI] at hn29
          refine ev_q rfl (q_assign (by conv => lhs; whnf) ?_)
          refine ev_nil (hK25 _ ?_); clear hK25
          refine good_region rfl ?_
          refine ev_q rfl (q_move (by conv => lhs; whnf) ?_)
          refine ev_q rfl (q_move (by conv => lhs; whnf) ?_)
          refine ev_q rfl (q_move (by conv => lhs; whnf) ?_)
          refine ev_q rfl (q_int rfl rfl ?_)
          intro n30 hn30
          replace hn30 := in64 hn30 (by omega) (by omega)
          refine ev_q rfl (q_min rfl rfl ?_)
          intro n31 hn31; simp only [mxI, mnI] at hn31
          refine ev_q rfl (q_assign (by conv => lhs; whnf) ?_)
          refine ev_nil (hK23 _ ?_); clear hK23
          refine good_region rfl ?_
          refine ev_q rfl (q_int rfl rfl ?_)
          intro n32 hn32
          replace hn32 := in64 hn32 (by omega) (by omega)
          refine ev_q rfl (q_move (by conv => lhs; whnf) ?_)
          refine ev_nil ?_
          clear hK11
          refine ⟨i + 1, ?_, ?_, ?_⟩
          · show _ ≤ _; omega
          · first | omega | (simp only []; omega) | (dsimp only; omega)
          · refine sub_weak ?_ ?_
            · exact weakH_none _
            · refine weakE_upd ?e31 ?r31 (weakE_upd ?e30 ?r30 (weakE_upd ?e29 ?r29 (weakE_upd ?e13 ?r13 (weakE_upd ?e12 ?r12 (weakE_upd ?e3 ?r3 (weakE_upd ?e2 ?r2 (weakE_upd ?e1 ?r1 (weakE_junk _ _))))))))
              case e1 => first | rfl | exact fI (by omega) | (simp_all)
              case r1 => intro h hh; cases hh
              case e2 => first | rfl | exact fI (by omega) | (simp_all)
              case r2 => intro h hh; cases hh
              case e3 => first | rfl | exact fI (by omega) | (simp_all)
              case r3 => intro h hh; cases hh
              case e12 => first | rfl | exact fI (by omega) | (first | rfl | exact fI (by rw [sl]; omega))
              case r12 => intro h hh; cases hh
              case e13 => first | rfl | exact fI (by omega) | (first | rfl | exact fI (by rw [sh]; omega))
              case r13 => intro h hh; cases hh
              case e29 => first | rfl | exact fI (by omega) | (simp_all)
              case r29 => intro h hh; cases hh
              case e30 => first | rfl | exact fI (by omega) | (simp_all)
              case r30 => intro h hh; cases hh
              case e31 => first | rfl | exact fI (by omega) | (simp_all)
              case r31 => intro h hh; cases hh
    · replace hb9 := eqT hb9
      refine ev_q rfl (q_assign (by conv => lhs; whnf) ?_)
      refine ev_nil (hK7 _ ?_); clear hK7
      refine good_condT rfl ?_
      refine good_seq fun K33 hK33 => ?_
      refine good_region rfl ?_
      refine ev_q rfl (q_assign (by conv => lhs; whnf) ?_)
      refine ev_q rfl (q_assign (by conv => lhs; whnf) ?_)
      refine ev_q rfl (q_assign (by conv => lhs; whnf) ?_)
      refine ev_nil (hK33 _ ?_); clear hK33
      refine good_ret ?_
      repeat (first | refine thenQ_ret ?_ | refine blockQ_ret ?_)
      refine ret_many rfl ?_
      refine res_tmp (by conv => lhs; whnf) rfl ?_
      refine res_tmp (by conv => lhs; whnf) rfl ?_
      refine res_tmp (by conv => lhs; whnf) rfl ?_
      refine res_nil ?_
      clear hK4
      first | (have e : prC xs ds m lim = bc xs ds m lim := (by unfold prC; rw [if_neg (by omega)]); exact fTup1 (fI (by rw [if_neg (by omega)])) (fTup1 (fI (by rw [if_neg (by omega)])) (fTup1 (fI (by omega)) rfl))) | (have e : prC xs ds m lim = 6 := (by unfold prC; rw [if_pos (by omega), if_pos (by omega)]); exact fTup1 (fI (by rw [if_neg (by omega)])) (fTup1 (fI (by rw [if_neg (by omega)])) (fTup1 (fI (by omega)) rfl))) | (have e3 : i = xs.length := (by omega); first | (have e : prC xs ds m lim = 3 := (by unfold prC; rw [if_pos (by omega), if_neg (by omega), ← e3, if_pos (by omega)]); exact fTup1 (fI (by rw [if_neg (by omega)])) (fTup1 (fI (by rw [if_neg (by omega)])) (fTup1 (fI (by omega)) rfl))) | (have e : prC xs ds m lim = 0 := (by unfold prC; rw [if_pos (by omega), if_neg (by omega), ← e3, if_neg (by omega)]); exact fTup1 (fI (by rw [if_pos e, ← e3]; first | done | omega)) (fTup1 (fI (by rw [if_pos e, ← e3]; first | done | omega)) (fTup1 (fI (by omega)) rfl))))
  · replace hb6 := neT hb6
    refine ev_q rfl (q_assign (by conv => lhs; whnf) ?_)
    refine ev_nil (hK5 _ ?_); clear hK5
    refine good_condT rfl ?_
    refine good_seq fun K34 hK34 => ?_
    refine good_region rfl ?_
    refine ev_q rfl (q_move (by conv => lhs; whnf) ?_)
    refine ev_q rfl (q_assign (by conv => lhs; whnf) ?_)
    refine ev_q rfl (q_assign (by conv => lhs; whnf) ?_)
    refine ev_q rfl (q_assign (by conv => lhs; whnf) ?_)
    refine ev_nil (hK34 _ ?_); clear hK34
    refine good_ret ?_
    repeat (first | refine thenQ_ret ?_ | refine blockQ_ret ?_)
    refine ret_many rfl ?_
    refine res_tmp (by conv => lhs; whnf) rfl ?_
    refine res_tmp (by conv => lhs; whnf) rfl ?_
    refine res_tmp (by conv => lhs; whnf) rfl ?_
    refine res_nil ?_
    clear hK4
    first | (have e : prC xs ds m lim = bc xs ds m lim := (by unfold prC; rw [if_neg (by omega)]); exact fTup1 (fI (by rw [if_neg (by omega)])) (fTup1 (fI (by rw [if_neg (by omega)])) (fTup1 (fI (by omega)) rfl))) | (have e : prC xs ds m lim = 6 := (by unfold prC; rw [if_pos (by omega), if_pos (by omega)]); exact fTup1 (fI (by rw [if_neg (by omega)])) (fTup1 (fI (by rw [if_neg (by omega)])) (fTup1 (fI (by omega)) rfl))) | (have e3 : i = xs.length := (by omega); first | (have e : prC xs ds m lim = 3 := (by unfold prC; rw [if_pos (by omega), if_neg (by omega), ← e3, if_pos (by omega)]); exact fTup1 (fI (by rw [if_neg (by omega)])) (fTup1 (fI (by rw [if_neg (by omega)])) (fTup1 (fI (by omega)) rfl))) | (have e : prC xs ds m lim = 0 := (by unfold prC; rw [if_pos (by omega), if_neg (by omega), ← e3, if_neg (by omega)]); exact fTup1 (fI (by rw [if_pos e, ← e3]; first | done | omega)) (fTup1 (fI (by rw [if_pos e, ← e3]; first | done | omega)) (fTup1 (fI (by omega)) rfl))))

-- spec.PressureRoom
set_option maxRecDepth 20000 in
set_option maxHeartbeats 2000000 in
theorem D_spec_PressureRoom (xs ds : List Int) (m lim : Int) (hx : xs.length ≤ 17592186044416) (hd : ds.length ≤ 17592186044416) : Den Try.prog 22 [.lst 1 (xs.map ci), .lst 1 (ds.map ci), .s (.int .i64 m), .s (.int .i64 lim)] (.tup [.s (.int .i64 (if prC xs ds m lim = 0 then prL (prG xs ds m) xs.length else 0)), .s (.int .i64 (if prC xs ds m lim = 0 then prH (prh xs lim) xs.length else 0)), .s (.int .i64 (prC xs ds m lim))]) := by
  refine den_of_good Try.func22 (by decide) rfl (Nat.le_of_ble_eq_true rfl) (Nat.le_of_ble_eq_true rfl) ?_
  refine good_seq fun K1 hK1 => ?_
  refine good_region rfl ?_
  refine ev_q rfl (q_assign (by conv => lhs; whnf) ?_)
  refine ev_q rfl (q_assign (by conv => lhs; whnf) ?_)
  refine ev_q rfl (q_assign (by conv => lhs; whnf) ?_)
  refine ev_nil (hK1 _ ?_); clear hK1
  refine good_seq fun K2 hK2 => ?_
  refine good_region rfl ?_
  refine ev_q rfl (q_move (by conv => lhs; whnf) ?_)
  refine ev_q rfl (q_move (by conv => lhs; whnf) ?_)
  refine ev_q rfl (q_callI rfl rfl (rfl) (D_spec_l11Nodes xs ds hx hd) ?_)
  intro n3 hn3
  refine ev_q rfl (q_assign (by conv => lhs; whnf) ?_)
  refine ev_nil (hK2 _ ?_); clear hK2
  refine good_seq fun K4 hK4 => ?_
  refine good_seq fun K5 hK5 => ?_
  refine good_region rfl ?_
  refine ev_q rfl (q_move (by conv => lhs; whnf) ?_)
  refine ev_q rfl (q_int rfl rfl ?_)
  intro b6 hb6; cases b6
  · replace hb6 := eqF hb6
    refine ev_q rfl (q_move (by conv => lhs; whnf) ?_)
    refine ev_q rfl (q_move (by conv => lhs; whnf) ?_)
    refine ev_q rfl (q_callB rfl rfl (rfl) (D_spec_l11Margin ..) ?_)
    intro b7 hb7; cases b7
    · first | replace hb7 := dF hb7 | skip
      refine ev_q rfl (q_not rfl rfl ?_)
      refine ev_q rfl (q_pickF rfl (by conv => lhs; whnf) ?_)
      refine ev_q rfl (q_move (by conv => lhs; whnf) ?_)
      refine ev_skip rfl ?_
      refine ev_skip rfl ?_
      refine ev_skip rfl ?_
      refine ev_q rfl (q_pickT rfl (by conv => lhs; whnf) ?_)
      refine ev_nil (hK5 _ ?_); clear hK5
      refine good_condT rfl ?_
      refine good_seq fun K8 hK8 => ?_
      refine good_region rfl ?_
      refine ev_q rfl (q_assign (by conv => lhs; whnf) ?_)
      refine ev_q rfl (q_assign (by conv => lhs; whnf) ?_)
      refine ev_q rfl (q_assign (by conv => lhs; whnf) ?_)
      refine ev_nil (hK8 _ ?_); clear hK8
      refine good_ret ?_
      repeat (first | refine thenQ_ret ?_ | refine blockQ_ret ?_)
      refine ret_many rfl ?_
      refine res_tmp (by conv => lhs; whnf) rfl ?_
      refine res_tmp (by conv => lhs; whnf) rfl ?_
      refine res_tmp (by conv => lhs; whnf) rfl ?_
      refine res_nil ?_
      clear hK4
      first | (have e : prC xs ds m lim = n3 := (by unfold prC bc; grind); exact fTup1 (fI (by grind)) (fTup1 (fI (by grind)) (fTup1 (fI (by grind)) rfl))) | (have e : bc xs ds m lim = 2 := (by unfold bc; grind); have e2 : prC xs ds m lim = 2 := (by unfold prC; grind); exact fTup1 (fI (by grind)) (fTup1 (fI (by grind)) (fTup1 (fI (by grind)) rfl))) | (have ebc : bc xs ds m lim = ln xs ds := bc_zero ⟨by omega, by omega⟩; first | (have e : prC xs ds m lim = bc xs ds m lim := (by unfold prC; rw [if_neg (by omega)]); exact fTup1 (fI (by rw [if_neg (by omega)])) (fTup1 (fI (by rw [if_neg (by omega)])) (fTup1 (fI (by omega)) rfl))) | (have e : prC xs ds m lim = 6 := (by unfold prC; rw [if_pos (by omega), if_pos (by omega)]); exact fTup1 (fI (by rw [if_neg (by omega)])) (fTup1 (fI (by rw [if_neg (by omega)])) (fTup1 (fI (by omega)) rfl))) | (have e3 : i = xs.length := (by omega); first | (have e : prC xs ds m lim = 3 := (by unfold prC; rw [if_pos (by omega), if_neg (by omega), ← e3, if_pos (by omega)]); exact fTup1 (fI (by rw [if_neg (by omega)])) (fTup1 (fI (by rw [if_neg (by omega)])) (fTup1 (fI (by omega)) rfl))) | (have e : prC xs ds m lim = 0 := (by unfold prC; rw [if_pos (by omega), if_neg (by omega), ← e3, if_neg (by omega)]); exact fTup1 (fI (by rw [if_pos e, ← e3]; first | done | omega)) (fTup1 (fI (by rw [if_pos e, ← e3]; first | done | omega)) (fTup1 (fI (by omega)) rfl)))))
    · first | replace hb7 := dT hb7 | skip
      refine ev_q rfl (q_not rfl rfl ?_)
      refine ev_q rfl (q_pickF rfl (by conv => lhs; whnf) ?_)
      refine ev_q rfl (q_move (by conv => lhs; whnf) ?_)
      refine ev_q rfl (q_move (by conv => lhs; whnf) ?_)
      refine ev_q rfl (q_callB rfl rfl (rfl) (D_spec_l03Press ..) ?_)
      intro b9 hb9; cases b9
      · first | replace hb9 := dF hb9 | skip
        refine ev_q rfl (q_not rfl rfl ?_)
        refine ev_q rfl (q_pickF rfl (by conv => lhs; whnf) ?_)
        refine ev_nil (hK5 _ ?_); clear hK5
        refine good_condT rfl ?_
        refine good_seq fun K10 hK10 => ?_
        refine good_region rfl ?_
        refine ev_q rfl (q_assign (by conv => lhs; whnf) ?_)
        refine ev_q rfl (q_assign (by conv => lhs; whnf) ?_)
        refine ev_q rfl (q_assign (by conv => lhs; whnf) ?_)
        refine ev_nil (hK10 _ ?_); clear hK10
        refine good_ret ?_
        repeat (first | refine thenQ_ret ?_ | refine blockQ_ret ?_)
        refine ret_many rfl ?_
        refine res_tmp (by conv => lhs; whnf) rfl ?_
        refine res_tmp (by conv => lhs; whnf) rfl ?_
        refine res_tmp (by conv => lhs; whnf) rfl ?_
        refine res_nil ?_
        clear hK4
        first | (have e : prC xs ds m lim = n3 := (by unfold prC bc; grind); exact fTup1 (fI (by grind)) (fTup1 (fI (by grind)) (fTup1 (fI (by grind)) rfl))) | (have e : bc xs ds m lim = 2 := (by unfold bc; grind); have e2 : prC xs ds m lim = 2 := (by unfold prC; grind); exact fTup1 (fI (by grind)) (fTup1 (fI (by grind)) (fTup1 (fI (by grind)) rfl))) | (have ebc : bc xs ds m lim = ln xs ds := bc_zero ⟨by omega, by omega⟩; first | (have e : prC xs ds m lim = bc xs ds m lim := (by unfold prC; rw [if_neg (by omega)]); exact fTup1 (fI (by rw [if_neg (by omega)])) (fTup1 (fI (by rw [if_neg (by omega)])) (fTup1 (fI (by omega)) rfl))) | (have e : prC xs ds m lim = 6 := (by unfold prC; rw [if_pos (by omega), if_pos (by omega)]); exact fTup1 (fI (by rw [if_neg (by omega)])) (fTup1 (fI (by rw [if_neg (by omega)])) (fTup1 (fI (by omega)) rfl))) | (have e3 : i = xs.length := (by omega); first | (have e : prC xs ds m lim = 3 := (by unfold prC; rw [if_pos (by omega), if_neg (by omega), ← e3, if_pos (by omega)]); exact fTup1 (fI (by rw [if_neg (by omega)])) (fTup1 (fI (by rw [if_neg (by omega)])) (fTup1 (fI (by omega)) rfl))) | (have e : prC xs ds m lim = 0 := (by unfold prC; rw [if_pos (by omega), if_neg (by omega), ← e3, if_neg (by omega)]); exact fTup1 (fI (by rw [if_pos e, ← e3]; first | done | omega)) (fTup1 (fI (by rw [if_pos e, ← e3]; first | done | omega)) (fTup1 (fI (by omega)) rfl)))))
      · first | replace hb9 := dT hb9 | skip
        refine ev_q rfl (q_not rfl rfl ?_)
        refine ev_q rfl (q_pickF rfl (by conv => lhs; whnf) ?_)
        refine ev_nil (hK5 _ ?_); clear hK5
        refine good_condF rfl ?_
        refine good_skip (hK4 _ ?_); clear hK4
        refine good_seq fun K11 hK11 => ?_
        refine good_seq fun K12 hK12 => ?_
        refine good_region rfl ?_
        refine ev_q rfl (q_move (by conv => lhs; whnf) ?_)
        refine ev_q rfl (q_int rfl rfl ?_)
        intro b13 hb13; cases b13
        · replace hb13 := neF hb13
          refine ev_nil (hK12 _ ?_); clear hK12
          refine good_condF rfl ?_
          refine good_skip (hK11 _ ?_); clear hK11
          refine good_seq fun K14 hK14 => ?_
          refine good_seq fun K15 hK15 => ?_
          refine good_region rfl ?_
          refine ev_q rfl (q_move (by conv => lhs; whnf) ?_)
          refine ev_q rfl (q_len tEs22 rfl ?_)
          intro n16 hn16
          try simp only [List.length_map] at hn16
          refine ev_q rfl (q_int rfl rfl ?_)
          intro b17 hb17; cases b17
          · replace hb17 := eqF hb17
            have ebc : bc xs ds m lim = ln xs ds := bc_zero ⟨by omega, by omega⟩
            have ok := bc_ok (show bc xs ds m lim = 0 by omega)
            have hok := ok.2
            obtain ⟨p, hp⟩ := getL (xs := xs) (n := ((0 : Nat) : Int)) (by omega) (by omega)
            replace hp : xs[0]? = some p := hp
            obtain ⟨q, hq⟩ := getL (xs := ds) (n := ((0 : Nat) : Int)) (by omega) (by omega)
            replace hq : ds[0]? = some q := hq
            have bp := hok.2.1 _ _ hp
            have bq := nodes_q hok.2.2 hq
            have eg := prG_eq (m := m) hp hq
            have eh := prh_eq (lim := lim) hp
            have e1 := prL1 (g := prG xs ds m) (by omega)
            have e2 := prH1 (g := prh xs lim) (by omega)
            refine ev_nil (hK15 _ ?_); clear hK15
            refine good_condF rfl ?_
            refine good_skip (hK14 _ ?_); clear hK14
            refine good_seq fun K18 hK18 => ?_
            refine good_draw 11 hmix (by kernel_rfl) rfl ?_
            refine qo_q rfl (q_move (by conv => lhs; whnf) ?_)
            refine qo_q rfl (q_idx tE22 rfl rfl (by exact Int.natCast_nonneg _) (by exact map_get hq) rfl ?_)
            refine qo_q rfl (q_load tA2 rfl ?_)
            refine qo_q rfl (q_callI rfl rfl (rfl) (D_spec_l11Steam _ (by omega)) ?_)
            intro n19 hn19
            refine qo_q rfl (q_move (by conv => lhs; whnf) ?_)
            refine qo_q rfl (q_int rfl rfl ?_)
            intro n20 hn20
            replace hn20 := in64 hn20 (by omega) (by omega)
            refine qo_q rfl (q_move (by conv => lhs; whnf) ?_)
            refine qo_q rfl (q_idx tE22 rfl rfl (by exact Int.natCast_nonneg _) (by exact map_get hp) rfl ?_)
            refine qo_q rfl (q_load tA2 rfl ?_)
            refine qo_q rfl (q_int rfl rfl ?_)
            intro n21 hn21
            replace hn21 := in64 hn21 (by omega) (by omega)
            refine qo_q rfl (q_assign (by conv => lhs; whnf) ?_)
            refine qo_nil ?_
            refine ev_nil (hK18 _ ?_); clear hK18
            refine good_seq fun K22 hK22 => ?_
            refine good_region rfl ?_
            refine ev_q rfl (q_move (by conv => lhs; whnf) ?_)
            refine ev_q rfl (q_move (by conv => lhs; whnf) ?_)
            refine ev_q rfl (q_idx tE22 rfl rfl (by exact Int.natCast_nonneg _) (by exact map_get hp) rfl ?_)
            refine ev_q rfl (q_load tA2 rfl ?_)
            refine ev_q rfl (q_int rfl rfl ?_)
            intro n23 hn23
            replace hn23 := in64 hn23 (by omega) (by omega)
            refine ev_q rfl (q_assign (by conv => lhs; whnf) ?_)
            refine ev_nil (hK22 _ ?_); clear hK22
            refine good_seq fun K24 hK24 => ?_
            refine good_seq fun K25 hK25 => ?_
            refine good_region rfl ?_
            refine ev_q rfl (q_assign (by conv => lhs; whnf) ?_)
            refine ev_nil (hK25 _ ?_); clear hK25
            refine good_block ?_
            refine good_loop (α := Nat) (fun i => { env := upd (upd (upd (upd (upd (upd (upd ((fun _ => .junk)) 0 (.lst 1 (xs.map ci))) 1 (.lst 1 (ds.map ci))) 2 (.s (.int .i64 m))) 3 (.s (.int .i64 lim))) 12 (.s (.int .i64 (prL (prG xs ds m) i)))) 13 (.s (.int .i64 (prH (prh xs lim) i)))) 14 (.s (.int .i64 i)), H := fun _ => none }) (fun i => 1 ≤ i ∧ i ≤ xs.length) (fun i => xs.length - i) 1 ?_ ?_ ?_
            · show 1 ≤ 1 ∧ 1 ≤ _; omega
            · refine sub_weak ?_ ?_
              · exact weakH_none _
              · refine weakE_upd ?e14 ?r14 (weakE_upd ?e13 ?r13 (weakE_upd ?e12 ?r12 (weakE_upd ?e3 ?r3 (weakE_upd ?e2 ?r2 (weakE_upd ?e1 ?r1 (weakE_upd ?e0 ?r0 (weakE_junk _ _)))))))
                case e0 => first | rfl | exact fI (by omega) | (simp_all)
                case r0 => intro h hh; cases hh
                case e1 => first | rfl | exact fI (by omega) | (simp_all)
                case r1 => intro h hh; cases hh
                case e2 => first | rfl | exact fI (by omega) | (simp_all)
                case r2 => intro h hh; cases hh
                case e3 => first | rfl | exact fI (by omega) | (simp_all)
                case r3 => intro h hh; cases hh
                case e12 => first | rfl | exact fI (by omega) | (first | rfl | exact fI (by first | omega | (rw [sl]; omega)))
                case r12 => intro h hh; cases hh
                case e13 => first | rfl | exact fI (by omega) | (first | rfl | exact fI (by first | omega | (rw [sh]; omega)))
                case r13 => intro h hh; cases hh
                case e14 => first | rfl | exact fI (by omega) | (simp_all)
                case r14 => intro h hh; cases hh
            · rintro i hI
              refine good_seq fun K26 hK26 => ?_
              refine good_seq fun K27 hK27 => ?_
              refine good_region rfl ?_
              refine ev_q rfl (q_move (by conv => lhs; whnf) ?_)
              refine ev_q rfl (q_move (by conv => lhs; whnf) ?_)
              refine ev_q rfl (q_len tEs22 rfl ?_)
              intro n28 hn28
              try simp only [List.length_map] at hn28
              refine ev_q rfl (q_int rfl rfl ?_)
              intro b29 hb29; cases b29
              · replace hb29 := dF hb29
                refine ev_nil (hK27 _ ?_); clear hK27
                refine good_condF rfl ?_
                refine good_exit ?_
                repeat (first | refine thenQ_exit ?_ | refine blockQ_pass rfl ?_)
                refine blockQ_exit (hK24 _ ?_); clear hK24
                refine good_seq fun K30 hK30 => ?_
                refine good_seq fun K31 hK31 => ?_
                refine good_region rfl ?_
                refine ev_q rfl (q_move (by conv => lhs; whnf) ?_)
                refine ev_q rfl (q_move (by conv => lhs; whnf) ?_)
                refine ev_q rfl (q_int rfl rfl ?_)
                intro b32 hb32; cases b32
                · replace hb32 := dF hb32
                  refine ev_nil (hK31 _ ?_); clear hK31
                  refine good_condF rfl ?_
                  refine good_skip (hK30 _ ?_); clear hK30
                  refine good_seq fun K33 hK33 => ?_
                  refine good_region rfl ?_
                  refine ev_q rfl (q_move (by conv => lhs; whnf) ?_)
                  refine ev_q rfl (q_move (by conv => lhs; whnf) ?_)
                  refine ev_q rfl (q_assign (by conv => lhs; whnf) ?_)
                  refine ev_q rfl (q_assign (by conv => lhs; whnf) ?_)
                  refine ev_q rfl (q_assign (by conv => lhs; whnf) ?_)
                  refine ev_nil (hK33 _ ?_); clear hK33
                  refine good_ret ?_
                  repeat (first | refine thenQ_ret ?_ | refine blockQ_ret ?_)
                  refine ret_many rfl ?_
                  refine res_tmp (by conv => lhs; whnf) rfl ?_
                  refine res_tmp (by conv => lhs; whnf) rfl ?_
                  refine res_tmp (by conv => lhs; whnf) rfl ?_
                  refine res_nil ?_
                  clear hK26
                  first | (have e : prC xs ds m lim = n3 := (by unfold prC bc; grind); exact fTup1 (fI (by grind)) (fTup1 (fI (by grind)) (fTup1 (fI (by grind)) rfl))) | (have e : bc xs ds m lim = 2 := (by unfold bc; grind); have e2 : prC xs ds m lim = 2 := (by unfold prC; grind); exact fTup1 (fI (by grind)) (fTup1 (fI (by grind)) (fTup1 (fI (by grind)) rfl))) | (have ebc : bc xs ds m lim = ln xs ds := bc_zero ⟨by omega, by omega⟩; first | (have e : prC xs ds m lim = bc xs ds m lim := (by unfold prC; rw [if_neg (by omega)]); exact fTup1 (fI (by rw [if_neg (by omega)])) (fTup1 (fI (by rw [if_neg (by omega)])) (fTup1 (fI (by omega)) rfl))) | (have e : prC xs ds m lim = 6 := (by unfold prC; rw [if_pos (by omega), if_pos (by omega)]); exact fTup1 (fI (by rw [if_neg (by omega)])) (fTup1 (fI (by rw [if_neg (by omega)])) (fTup1 (fI (by omega)) rfl))) | (have e3 : i = xs.length := (by omega); first | (have e : prC xs ds m lim = 3 := (by unfold prC; rw [if_pos (by omega), if_neg (by omega), ← e3, if_pos (by omega)]); exact fTup1 (fI (by rw [if_neg (by omega)])) (fTup1 (fI (by rw [if_neg (by omega)])) (fTup1 (fI (by omega)) rfl))) | (have e : prC xs ds m lim = 0 := (by unfold prC; rw [if_pos (by omega), if_neg (by omega), ← e3, if_neg (by omega)]); exact fTup1 (fI (by rw [if_pos e, ← e3]; first | done | omega)) (fTup1 (fI (by rw [if_pos e, ← e3]; first | done | omega)) (fTup1 (fI (by omega)) rfl)))))
                · replace hb32 := dT hb32
                  refine ev_nil (hK31 _ ?_); clear hK31
                  refine good_condT rfl ?_
                  refine good_seq fun K34 hK34 => ?_
                  refine good_region rfl ?_
                  refine ev_q rfl (q_assign (by conv => lhs; whnf) ?_)
                  refine ev_q rfl (q_assign (by conv => lhs; whnf) ?_)
                  refine ev_q rfl (q_assign (by conv => lhs; whnf) ?_)
                  refine ev_nil (hK34 _ ?_); clear hK34
                  refine good_ret ?_
                  repeat (first | refine thenQ_ret ?_ | refine blockQ_ret ?_)
                  refine ret_many rfl ?_
                  refine res_tmp (by conv => lhs; whnf) rfl ?_
                  refine res_tmp (by conv => lhs; whnf) rfl ?_
                  refine res_tmp (by conv => lhs; whnf) rfl ?_
                  refine res_nil ?_
                  clear hK26 hK30
                  first | (have e : prC xs ds m lim = n3 := (by unfold prC bc; grind); exact fTup1 (fI (by grind)) (fTup1 (fI (by grind)) (fTup1 (fI (by grind)) rfl))) | (have e : bc xs ds m lim = 2 := (by unfold bc; grind); have e2 : prC xs ds m lim = 2 := (by unfold prC; grind); exact fTup1 (fI (by grind)) (fTup1 (fI (by grind)) (fTup1 (fI (by grind)) rfl))) | (have ebc : bc xs ds m lim = ln xs ds := bc_zero ⟨by omega, by omega⟩; first | (have e : prC xs ds m lim = bc xs ds m lim := (by unfold prC; rw [if_neg (by omega)]); exact fTup1 (fI (by rw [if_neg (by omega)])) (fTup1 (fI (by rw [if_neg (by omega)])) (fTup1 (fI (by omega)) rfl))) | (have e : prC xs ds m lim = 6 := (by unfold prC; rw [if_pos (by omega), if_pos (by omega)]); exact fTup1 (fI (by rw [if_neg (by omega)])) (fTup1 (fI (by rw [if_neg (by omega)])) (fTup1 (fI (by omega)) rfl))) | (have e3 : i = xs.length := (by omega); first | (have e : prC xs ds m lim = 3 := (by unfold prC; rw [if_pos (by omega), if_neg (by omega), ← e3, if_pos (by omega)]); exact fTup1 (fI (by rw [if_neg (by omega)])) (fTup1 (fI (by rw [if_neg (by omega)])) (fTup1 (fI (by omega)) rfl))) | (have e : prC xs ds m lim = 0 := (by unfold prC; rw [if_pos (by omega), if_neg (by omega), ← e3, if_neg (by omega)]); exact fTup1 (fI (by rw [if_pos e, ← e3]; first | done | omega)) (fTup1 (fI (by rw [if_pos e, ← e3]; first | done | omega)) (fTup1 (fI (by omega)) rfl)))))
              · replace hb29 := dT hb29
                obtain ⟨p, hp⟩ := getL (xs := xs) (n := (i : Int)) (by omega) (by omega)
                replace hp : xs[i]? = some p := hp
                obtain ⟨q, hq⟩ := getL (xs := ds) (n := (i : Int)) (by omega) (by omega)
                replace hq : ds[i]? = some q := hq
                have bp := hok.2.1 _ _ hp
                have bq := nodes_q hok.2.2 hq
                have eg := prG_eq (m := m) hp hq
                have eh := prh_eq (lim := lim) hp
                have sl := prL_s (g := prG xs ds m) (n := i)
                have sh := prH_s (g := prh xs lim) (n := i)
                refine ev_nil (hK27 _ ?_); clear hK27
                refine good_condT rfl ?_
                refine good_skip (hK26 _ ?_); clear hK26
                refine good_seq fun K35 hK35 => ?_
                refine good_block ?_
                refine good_seq fun K36 hK36 => ?_
                refine good_draw 15 hmix (by kernel_rfl) rfl ?_
                refine qo_q rfl (q_move (by conv => lhs; whnf) ?_)
                refine qo_q rfl (q_move (by conv => lhs; whnf) ?_)
                refine qo_q rfl (q_move (by conv => lhs; whnf) ?_)
                refine qo_q rfl (q_idx tE22 rfl rfl (by exact Int.natCast_nonneg _) (by exact map_get hq) rfl ?_)
                refine qo_q rfl (q_load tA2 rfl ?_)
                refine qo_q rfl (q_callI rfl rfl (rfl) (D_spec_l11Steam _ (by omega)) ?_)
                intro n37 hn37
                refine qo_q rfl (q_move (by conv => lhs; whnf) ?_)
                refine qo_q rfl (q_int rfl rfl ?_)
                intro n38 hn38
                replace hn38 := in64 hn38 (by omega) (by omega)
                refine qo_q rfl (q_move (by conv => lhs; whnf) ?_)
                refine qo_q rfl (q_move (by conv => lhs; whnf) ?_)
                refine qo_q rfl (q_idx tE22 rfl rfl (by exact Int.natCast_nonneg _) (by exact map_get hp) rfl ?_)
                refine qo_q rfl (q_load tA2 rfl ?_)
                refine qo_q rfl (q_int rfl rfl ?_)
                intro n39 hn39
                replace hn39 := in64 hn39 (by omega) (by omega)
                refine qo_q rfl (q_callI rfl rfl (rfl) (D_spec_l00Max ..) ?_)
                intro n40 hn40
                refine qo_q rfl (q_assign (by conv => lhs; whnf) ?_)
                refine qo_nil ?_
                refine ev_nil (hK36 _ ?_); clear hK36
                refine good_region rfl ?_
                refine ev_q rfl (q_move (by conv => lhs; whnf) ?_)
                refine ev_q rfl (q_move (by conv => lhs; whnf) ?_)
                refine ev_q rfl (q_move (by conv => lhs; whnf) ?_)
                refine ev_q rfl (q_move (by conv => lhs; whnf) ?_)
                refine ev_q rfl (q_idx tE22 rfl rfl (by exact Int.natCast_nonneg _) (by exact map_get hp) rfl ?_)
                refine ev_q rfl (q_load tA2 rfl ?_)
                refine ev_q rfl (q_int rfl rfl ?_)
                intro n41 hn41
                replace hn41 := in64 hn41 (by omega) (by omega)
                refine ev_q rfl (q_callI rfl rfl (rfl) (D_spec_l00Min ..) ?_)
                intro n42 hn42
                refine ev_q rfl (q_assign (by conv => lhs; whnf) ?_)
                refine ev_nil (hK35 _ ?_); clear hK35
                refine good_region rfl ?_
                refine ev_q rfl (q_move (by conv => lhs; whnf) ?_)
                refine ev_q rfl (q_int rfl rfl ?_)
                intro n43 hn43
                replace hn43 := in64 hn43 (by omega) (by omega)
                refine ev_q rfl (q_assign (by conv => lhs; whnf) ?_)
                refine ev_nil ?_
                clear hK24
                refine ⟨i + 1, ?_, ?_, ?_⟩
                · show 1 ≤ _ ∧ _ ≤ _; omega
                · first | omega | (simp only []; omega) | (dsimp only; omega)
                · refine sub_weak ?_ ?_
                  · exact weakH_none _
                  · refine weakE_upd ?e14 ?r14 (weakE_upd ?e13 ?r13 (weakE_upd ?e12 ?r12 (weakE_upd ?e3 ?r3 (weakE_upd ?e2 ?r2 (weakE_upd ?e1 ?r1 (weakE_upd ?e0 ?r0 (weakE_junk _ _)))))))
                    case e0 => first | rfl | exact fI (by omega) | (simp_all)
                    case r0 => intro h hh; cases hh
                    case e1 => first | rfl | exact fI (by omega) | (simp_all)
                    case r1 => intro h hh; cases hh
                    case e2 => first | rfl | exact fI (by omega) | (simp_all)
                    case r2 => intro h hh; cases hh
                    case e3 => first | rfl | exact fI (by omega) | (simp_all)
                    case r3 => intro h hh; cases hh
                    case e12 => first | rfl | exact fI (by omega) | (first | rfl | exact fI (by first | omega | (rw [sl]; omega)))
                    case r12 => intro h hh; cases hh
                    case e13 => first | rfl | exact fI (by omega) | (first | rfl | exact fI (by first | omega | (rw [sh]; omega)))
                    case r13 => intro h hh; cases hh
                    case e14 => first | rfl | exact fI (by omega) | (simp_all)
                    case r14 => intro h hh; cases hh
          · replace hb17 := eqT hb17
            refine ev_nil (hK15 _ ?_); clear hK15
            refine good_condT rfl ?_
            refine good_seq fun K44 hK44 => ?_
            refine good_region rfl ?_
            refine ev_q rfl (q_assign (by conv => lhs; whnf) ?_)
            refine ev_q rfl (q_assign (by conv => lhs; whnf) ?_)
            refine ev_q rfl (q_assign (by conv => lhs; whnf) ?_)
            refine ev_nil (hK44 _ ?_); clear hK44
            refine good_ret ?_
            repeat (first | refine thenQ_ret ?_ | refine blockQ_ret ?_)
            refine ret_many rfl ?_
            refine res_tmp (by conv => lhs; whnf) rfl ?_
            refine res_tmp (by conv => lhs; whnf) rfl ?_
            refine res_tmp (by conv => lhs; whnf) rfl ?_
            refine res_nil ?_
            clear hK14
            first | (have e : prC xs ds m lim = n3 := (by unfold prC bc; grind); exact fTup1 (fI (by grind)) (fTup1 (fI (by grind)) (fTup1 (fI (by grind)) rfl))) | (have e : bc xs ds m lim = 2 := (by unfold bc; grind); have e2 : prC xs ds m lim = 2 := (by unfold prC; grind); exact fTup1 (fI (by grind)) (fTup1 (fI (by grind)) (fTup1 (fI (by grind)) rfl))) | (have ebc : bc xs ds m lim = ln xs ds := bc_zero ⟨by omega, by omega⟩; first | (have e : prC xs ds m lim = bc xs ds m lim := (by unfold prC; rw [if_neg (by omega)]); exact fTup1 (fI (by rw [if_neg (by omega)])) (fTup1 (fI (by rw [if_neg (by omega)])) (fTup1 (fI (by omega)) rfl))) | (have e : prC xs ds m lim = 6 := (by unfold prC; rw [if_pos (by omega), if_pos (by omega)]); exact fTup1 (fI (by rw [if_neg (by omega)])) (fTup1 (fI (by rw [if_neg (by omega)])) (fTup1 (fI (by omega)) rfl))) | (have e3 : i = xs.length := (by omega); first | (have e : prC xs ds m lim = 3 := (by unfold prC; rw [if_pos (by omega), if_neg (by omega), ← e3, if_pos (by omega)]); exact fTup1 (fI (by rw [if_neg (by omega)])) (fTup1 (fI (by rw [if_neg (by omega)])) (fTup1 (fI (by omega)) rfl))) | (have e : prC xs ds m lim = 0 := (by unfold prC; rw [if_pos (by omega), if_neg (by omega), ← e3, if_neg (by omega)]); exact fTup1 (fI (by rw [if_pos e, ← e3]; first | done | omega)) (fTup1 (fI (by rw [if_pos e, ← e3]; first | done | omega)) (fTup1 (fI (by omega)) rfl)))))
        · replace hb13 := neT hb13
          refine ev_nil (hK12 _ ?_); clear hK12
          refine good_condT rfl ?_
          refine good_seq fun K45 hK45 => ?_
          refine good_region rfl ?_
          refine ev_q rfl (q_move (by conv => lhs; whnf) ?_)
          refine ev_q rfl (q_assign (by conv => lhs; whnf) ?_)
          refine ev_q rfl (q_assign (by conv => lhs; whnf) ?_)
          refine ev_q rfl (q_assign (by conv => lhs; whnf) ?_)
          refine ev_nil (hK45 _ ?_); clear hK45
          refine good_ret ?_
          repeat (first | refine thenQ_ret ?_ | refine blockQ_ret ?_)
          refine ret_many rfl ?_
          refine res_tmp (by conv => lhs; whnf) rfl ?_
          refine res_tmp (by conv => lhs; whnf) rfl ?_
          refine res_tmp (by conv => lhs; whnf) rfl ?_
          refine res_nil ?_
          clear hK11
          first | (have e : prC xs ds m lim = n3 := (by unfold prC bc; grind); exact fTup1 (fI (by grind)) (fTup1 (fI (by grind)) (fTup1 (fI (by grind)) rfl))) | (have e : bc xs ds m lim = 2 := (by unfold bc; grind); have e2 : prC xs ds m lim = 2 := (by unfold prC; grind); exact fTup1 (fI (by grind)) (fTup1 (fI (by grind)) (fTup1 (fI (by grind)) rfl))) | (have ebc : bc xs ds m lim = ln xs ds := bc_zero ⟨by omega, by omega⟩; first | (have e : prC xs ds m lim = bc xs ds m lim := (by unfold prC; rw [if_neg (by omega)]); exact fTup1 (fI (by rw [if_neg (by omega)])) (fTup1 (fI (by rw [if_neg (by omega)])) (fTup1 (fI (by omega)) rfl))) | (have e : prC xs ds m lim = 6 := (by unfold prC; rw [if_pos (by omega), if_pos (by omega)]); exact fTup1 (fI (by rw [if_neg (by omega)])) (fTup1 (fI (by rw [if_neg (by omega)])) (fTup1 (fI (by omega)) rfl))) | (have e3 : i = xs.length := (by omega); first | (have e : prC xs ds m lim = 3 := (by unfold prC; rw [if_pos (by omega), if_neg (by omega), ← e3, if_pos (by omega)]); exact fTup1 (fI (by rw [if_neg (by omega)])) (fTup1 (fI (by rw [if_neg (by omega)])) (fTup1 (fI (by omega)) rfl))) | (have e : prC xs ds m lim = 0 := (by unfold prC; rw [if_pos (by omega), if_neg (by omega), ← e3, if_neg (by omega)]); exact fTup1 (fI (by rw [if_pos e, ← e3]; first | done | omega)) (fTup1 (fI (by rw [if_pos e, ← e3]; first | done | omega)) (fTup1 (fI (by omega)) rfl)))))
  · replace hb6 := eqT hb6
    refine ev_q rfl (q_move (by conv => lhs; whnf) ?_)
    refine ev_skip rfl ?_
    refine ev_skip rfl ?_
    refine ev_skip rfl ?_
    refine ev_q rfl (q_pickT rfl (by conv => lhs; whnf) ?_)
    refine ev_q rfl (q_move (by conv => lhs; whnf) ?_)
    refine ev_skip rfl ?_
    refine ev_skip rfl ?_
    refine ev_skip rfl ?_
    refine ev_q rfl (q_pickT rfl (by conv => lhs; whnf) ?_)
    refine ev_nil (hK5 _ ?_); clear hK5
    refine good_condT rfl ?_
    refine good_seq fun K46 hK46 => ?_
    refine good_region rfl ?_
    refine ev_q rfl (q_assign (by conv => lhs; whnf) ?_)
    refine ev_q rfl (q_assign (by conv => lhs; whnf) ?_)
    refine ev_q rfl (q_assign (by conv => lhs; whnf) ?_)
    refine ev_nil (hK46 _ ?_); clear hK46
    refine good_ret ?_
    repeat (first | refine thenQ_ret ?_ | refine blockQ_ret ?_)
    refine ret_many rfl ?_
    refine res_tmp (by conv => lhs; whnf) rfl ?_
    refine res_tmp (by conv => lhs; whnf) rfl ?_
    refine res_tmp (by conv => lhs; whnf) rfl ?_
    refine res_nil ?_
    clear hK4
    first | (have e : prC xs ds m lim = n3 := (by unfold prC bc; grind); exact fTup1 (fI (by grind)) (fTup1 (fI (by grind)) (fTup1 (fI (by grind)) rfl))) | (have e : bc xs ds m lim = 2 := (by unfold bc; grind); have e2 : prC xs ds m lim = 2 := (by unfold prC; grind); exact fTup1 (fI (by grind)) (fTup1 (fI (by grind)) (fTup1 (fI (by grind)) rfl))) | (have ebc : bc xs ds m lim = ln xs ds := bc_zero ⟨by omega, by omega⟩; first | (have e : prC xs ds m lim = bc xs ds m lim := (by unfold prC; rw [if_neg (by omega)]); exact fTup1 (fI (by rw [if_neg (by omega)])) (fTup1 (fI (by rw [if_neg (by omega)])) (fTup1 (fI (by omega)) rfl))) | (have e : prC xs ds m lim = 6 := (by unfold prC; rw [if_pos (by omega), if_pos (by omega)]); exact fTup1 (fI (by rw [if_neg (by omega)])) (fTup1 (fI (by rw [if_neg (by omega)])) (fTup1 (fI (by omega)) rfl))) | (have e3 : i = xs.length := (by omega); first | (have e : prC xs ds m lim = 3 := (by unfold prC; rw [if_pos (by omega), if_neg (by omega), ← e3, if_pos (by omega)]); exact fTup1 (fI (by rw [if_neg (by omega)])) (fTup1 (fI (by rw [if_neg (by omega)])) (fTup1 (fI (by omega)) rfl))) | (have e : prC xs ds m lim = 0 := (by unfold prC; rw [if_pos (by omega), if_neg (by omega), ← e3, if_neg (by omega)]); exact fTup1 (fI (by rw [if_pos e, ← e3]; first | done | omega)) (fTup1 (fI (by rw [if_pos e, ← e3]; first | done | omega)) (fTup1 (fI (by omega)) rfl)))))

-- laws.FnExactPressureRoom
set_option maxRecDepth 20000 in
set_option maxHeartbeats 2000000 in
theorem D_laws_FnExactPressureRoom (xs ds : List Int) (m lim : Int) (hx : xs.length ≤ 17592186044416) (hd : ds.length ≤ 17592186044416) : Den Try.prog 7 [.lst 1 (xs.map ci), .lst 1 (ds.map ci), .s (.int .i64 m), .s (.int .i64 lim)] (.s (.bool true)) := by
  refine den_of_good Try.func7 (by decide) rfl (Nat.le_of_ble_eq_true rfl) (Nat.le_of_ble_eq_true rfl) ?_
  refine good_seq fun K1 hK1 => ?_
  refine good_region rfl ?_
  refine ev_q rfl (q_assign (by conv => lhs; whnf) ?_)
  refine ev_nil (hK1 _ ?_); clear hK1
  refine good_seq fun K2 hK2 => ?_
  refine good_seq fun K3 hK3 => ?_
  refine good_region rfl ?_
  refine ev_q rfl (q_move (by conv => lhs; whnf) ?_)
  refine ev_q rfl (q_len tEs22 rfl ?_)
  intro n4 hn4
  try simp only [List.length_map] at hn4
  refine ev_q rfl (q_int rfl rfl ?_)
  intro b5 hb5; cases b5
  · replace hb5 := dF hb5
    refine ev_nil (hK3 _ ?_); clear hK3
    refine good_condF rfl ?_
    refine good_skip (hK2 _ ?_); clear hK2
    refine good_seq fun K6 hK6 => ?_
    refine good_seq fun K7 hK7 => ?_
    refine good_region rfl ?_
    refine ev_q rfl (q_move (by conv => lhs; whnf) ?_)
    refine ev_q rfl (q_len tEs22 rfl ?_)
    intro n8 hn8
    try simp only [List.length_map] at hn8
    refine ev_q rfl (q_int rfl rfl ?_)
    intro b9 hb9; cases b9
    · replace hb9 := dF hb9
      refine ev_nil (hK7 _ ?_); clear hK7
      refine good_condF rfl ?_
      refine good_skip (hK6 _ ?_); clear hK6
      refine good_seq fun K10 hK10 => ?_
      refine good_region rfl ?_
      refine ev_q rfl (q_move (by conv => lhs; whnf) ?_)
      refine ev_q rfl (q_call rfl rfl (rfl) (D_laws_toInt64S xs hx) rfl ?_)
      refine ev_q rfl (q_move (by conv => lhs; whnf) ?_)
      refine ev_q rfl (q_call rfl rfl (rfl) (D_laws_toInt64S ds hd) rfl ?_)
      refine ev_q rfl (q_move (by conv => lhs; whnf) ?_)
      refine ev_q rfl (q_move (by conv => lhs; whnf) ?_)
      refine ev_q rfl (q_call rfl rfl (rfl) (D_spec_PressureRoom xs ds m lim hx hd) rfl ?_)
      refine ev_q rfl (q_move (by conv => lhs; whnf) ?_)
      refine ev_q rfl (q_extractI rfl rfl ?_)
      intro n11 hn11
      refine ev_q rfl (q_extractI rfl rfl ?_)
      intro n12 hn12
      refine ev_q rfl (q_extractI rfl rfl ?_)
      intro n13 hn13
      refine ev_q rfl (q_assign (by conv => lhs; whnf) ?_)
      refine ev_q rfl (q_assign (by conv => lhs; whnf) ?_)
      refine ev_q rfl (q_assign (by conv => lhs; whnf) ?_)
      refine ev_nil (hK10 _ ?_); clear hK10
      refine good_seq fun K14 hK14 => ?_
      refine good_region rfl ?_
      refine ev_q rfl (q_move (by conv => lhs; whnf) ?_)
      refine ev_q rfl (q_call rfl rfl (rfl) (D_laws_toInt64S xs hx) rfl ?_)
      refine ev_q rfl (q_assign (by conv => lhs; whnf) ?_)
      refine ev_nil (hK14 _ ?_); clear hK14
      refine good_seq fun K15 hK15 => ?_
      refine good_region rfl ?_
      refine ev_q rfl (q_move (by conv => lhs; whnf) ?_)
      refine ev_q rfl (q_call rfl rfl (rfl) (D_laws_toInt64S ds hd) rfl ?_)
      refine ev_q rfl (q_assign (by conv => lhs; whnf) ?_)
      refine ev_nil (hK15 _ ?_); clear hK15
      refine good_seq fun K16 hK16 => ?_
      refine good_region rfl ?_
      refine ev_q rfl (q_move (by conv => lhs; whnf) ?_)
      refine ev_q rfl (q_move (by conv => lhs; whnf) ?_)
      refine ev_q rfl (q_move (by conv => lhs; whnf) ?_)
      refine ev_q rfl (q_move (by conv => lhs; whnf) ?_)
      refine ev_q rfl (q_call rfl rfl (rfl) (D_impl_PressureRoom xs ds m lim hx hd) rfl ?_)
      refine ev_q rfl (q_move (by conv => lhs; whnf) ?_)
      refine ev_q rfl (q_extractI rfl rfl ?_)
      intro n17 hn17
      refine ev_q rfl (q_extractI rfl rfl ?_)
      intro n18 hn18
      refine ev_q rfl (q_extractI rfl rfl ?_)
      intro n19 hn19
      refine ev_q rfl (q_assign (by conv => lhs; whnf) ?_)
      refine ev_q rfl (q_assign (by conv => lhs; whnf) ?_)
      refine ev_q rfl (q_assign (by conv => lhs; whnf) ?_)
      refine ev_nil (hK16 _ ?_); clear hK16
      refine good_seq fun K20 hK20 => ?_
      refine good_seq fun K21 hK21 => ?_
      refine good_region rfl ?_
      refine ev_q rfl (q_move (by conv => lhs; whnf) ?_)
      refine ev_q rfl (q_move (by conv => lhs; whnf) ?_)
      refine ev_q rfl (q_int rfl rfl ?_)
      intro b22 hb22; cases b22
      · replace hb22 := neF hb22
        refine ev_q rfl (q_move (by conv => lhs; whnf) ?_)
        refine ev_q rfl (q_move (by conv => lhs; whnf) ?_)
        refine ev_q rfl (q_move (by conv => lhs; whnf) ?_)
        refine ev_q rfl (q_int rfl rfl ?_)
        intro b23 hb23; cases b23
        · replace hb23 := neF hb23
          refine ev_q rfl (q_pickF rfl (by conv => lhs; whnf) ?_)
          refine ev_q rfl (q_move (by conv => lhs; whnf) ?_)
          refine ev_q rfl (q_move (by conv => lhs; whnf) ?_)
          refine ev_q rfl (q_move (by conv => lhs; whnf) ?_)
          refine ev_q rfl (q_int rfl rfl ?_)
          intro b24 hb24; cases b24
          · replace hb24 := neF hb24
            refine ev_q rfl (q_pickF rfl (by conv => lhs; whnf) ?_)
            refine ev_nil (hK21 _ ?_); clear hK21
            refine good_condF rfl ?_
            refine good_skip (hK20 _ ?_); clear hK20
            refine good_seq fun K25 hK25 => ?_
            refine good_seq fun K26 hK26 => ?_
            refine good_region rfl ?_
            refine ev_q rfl (q_move (by conv => lhs; whnf) ?_)
            refine ev_q rfl (q_move (by conv => lhs; whnf) ?_)
            refine ev_q rfl (q_call rfl rfl (rfl) (D_laws_toInt64S xs hx) rfl ?_)
            refine ev_q rfl (q_callB rfl rfl (rfl) (D_laws_eqInt64S xs hx) ?_)
            intro b27 hb27; cases b27
            · first | replace hb27 := dF hb27 | skip
              refine ev_q rfl (q_not rfl rfl ?_)
              refine ev_nil (hK26 _ ?_); clear hK26
              refine good_condT rfl ?_
              refine good_seq fun K28 hK28 => ?_
              refine good_region rfl ?_
              refine ev_q rfl (q_assign (by conv => lhs; whnf) ?_)
              refine ev_nil (hK28 _ ?_); clear hK28
              refine good_ret ?_
              repeat (first | refine thenQ_ret ?_ | refine blockQ_ret ?_)
              refine ret_tmp (st := _) rfl (by conv => lhs; whnf) rfl ?_
              clear hK25
              first | rfl | (exfalso; first | omega | contradiction | grind)
            · first | replace hb27 := dT hb27 | skip
              refine ev_q rfl (q_not rfl rfl ?_)
              refine ev_nil (hK26 _ ?_); clear hK26
              refine good_condF rfl ?_
              refine good_skip (hK25 _ ?_); clear hK25
              refine good_seq fun K29 hK29 => ?_
              refine good_seq fun K30 hK30 => ?_
              refine good_region rfl ?_
              refine ev_q rfl (q_move (by conv => lhs; whnf) ?_)
              refine ev_q rfl (q_move (by conv => lhs; whnf) ?_)
              refine ev_q rfl (q_call rfl rfl (rfl) (D_laws_toInt64S ds hd) rfl ?_)
              refine ev_q rfl (q_callB rfl rfl (rfl) (D_laws_eqInt64S ds hd) ?_)
              intro b31 hb31; cases b31
              · first | replace hb31 := dF hb31 | skip
                refine ev_q rfl (q_not rfl rfl ?_)
                refine ev_nil (hK30 _ ?_); clear hK30
                refine good_condT rfl ?_
                refine good_seq fun K32 hK32 => ?_
                refine good_region rfl ?_
                refine ev_q rfl (q_assign (by conv => lhs; whnf) ?_)
                refine ev_nil (hK32 _ ?_); clear hK32
                refine good_ret ?_
                repeat (first | refine thenQ_ret ?_ | refine blockQ_ret ?_)
                refine ret_tmp (st := _) rfl (by conv => lhs; whnf) rfl ?_
                clear hK29
                first | rfl | (exfalso; first | omega | contradiction | grind)
              · first | replace hb31 := dT hb31 | skip
                refine ev_q rfl (q_not rfl rfl ?_)
                refine ev_nil (hK30 _ ?_); clear hK30
                refine good_condF rfl ?_
                refine good_skip (hK29 _ ?_); clear hK29
                refine good_seq fun K33 hK33 => ?_
                refine good_region rfl ?_
                refine ev_q rfl (q_assign (by conv => lhs; whnf) ?_)
                refine ev_nil (hK33 _ ?_); clear hK33
                refine good_ret ?_
                repeat (first | refine thenQ_ret ?_ | refine blockQ_ret ?_)
                refine ret_tmp (st := _) rfl (by conv => lhs; whnf) rfl ?_
                first | rfl | (exfalso; first | omega | contradiction | grind)
          · replace hb24 := neT hb24
            refine ev_q rfl (q_pickF rfl (by conv => lhs; whnf) ?_)
            refine ev_nil (hK21 _ ?_); clear hK21
            refine good_condT rfl ?_
            refine good_seq fun K34 hK34 => ?_
            refine good_region rfl ?_
            refine ev_q rfl (q_assign (by conv => lhs; whnf) ?_)
            refine ev_nil (hK34 _ ?_); clear hK34
            refine good_ret ?_
            repeat (first | refine thenQ_ret ?_ | refine blockQ_ret ?_)
            refine ret_tmp (st := _) rfl (by conv => lhs; whnf) rfl ?_
            clear hK20
            first | rfl | (exfalso; first | omega | contradiction | grind)
        · replace hb23 := neT hb23
          refine ev_q rfl (q_pickF rfl (by conv => lhs; whnf) ?_)
          refine ev_q rfl (q_move (by conv => lhs; whnf) ?_)
          refine ev_skip rfl ?_
          refine ev_skip rfl ?_
          refine ev_skip rfl ?_
          refine ev_q rfl (q_pickT rfl (by conv => lhs; whnf) ?_)
          refine ev_nil (hK21 _ ?_); clear hK21
          refine good_condT rfl ?_
          refine good_seq fun K35 hK35 => ?_
          refine good_region rfl ?_
          refine ev_q rfl (q_assign (by conv => lhs; whnf) ?_)
          refine ev_nil (hK35 _ ?_); clear hK35
          refine good_ret ?_
          repeat (first | refine thenQ_ret ?_ | refine blockQ_ret ?_)
          refine ret_tmp (st := _) rfl (by conv => lhs; whnf) rfl ?_
          clear hK20
          first | rfl | (exfalso; first | omega | contradiction | grind)
      · replace hb22 := neT hb22
        refine ev_q rfl (q_move (by conv => lhs; whnf) ?_)
        refine ev_skip rfl ?_
        refine ev_skip rfl ?_
        refine ev_skip rfl ?_
        refine ev_q rfl (q_pickT rfl (by conv => lhs; whnf) ?_)
        refine ev_q rfl (q_move (by conv => lhs; whnf) ?_)
        refine ev_skip rfl ?_
        refine ev_skip rfl ?_
        refine ev_skip rfl ?_
        refine ev_q rfl (q_pickT rfl (by conv => lhs; whnf) ?_)
        refine ev_nil (hK21 _ ?_); clear hK21
        refine good_condT rfl ?_
        refine good_seq fun K36 hK36 => ?_
        refine good_region rfl ?_
        refine ev_q rfl (q_assign (by conv => lhs; whnf) ?_)
        refine ev_nil (hK36 _ ?_); clear hK36
        refine good_ret ?_
        repeat (first | refine thenQ_ret ?_ | refine blockQ_ret ?_)
        refine ret_tmp (st := _) rfl (by conv => lhs; whnf) rfl ?_
        clear hK20
        first | rfl | (exfalso; first | omega | contradiction | grind)
    · replace hb9 := dT hb9
      refine ev_nil (hK7 _ ?_); clear hK7
      refine good_condT rfl ?_
      refine good_seq fun K37 hK37 => ?_
      refine good_region rfl ?_
      refine ev_q rfl (q_assign (by conv => lhs; whnf) ?_)
      refine ev_nil (hK37 _ ?_); clear hK37
      refine good_ret ?_
      repeat (first | refine thenQ_ret ?_ | refine blockQ_ret ?_)
      refine ret_tmp (st := _) rfl (by conv => lhs; whnf) rfl ?_
      clear hK6
      first | rfl | (exfalso; first | omega | contradiction | grind)
  · replace hb5 := dT hb5
    refine ev_nil (hK3 _ ?_); clear hK3
    refine good_condT rfl ?_
    refine good_seq fun K38 hK38 => ?_
    refine good_region rfl ?_
    refine ev_q rfl (q_assign (by conv => lhs; whnf) ?_)
    refine ev_nil (hK38 _ ?_); clear hK38
    refine good_ret ?_
    repeat (first | refine thenQ_ret ?_ | refine blockQ_ret ?_)
    refine ret_tmp (st := _) rfl (by conv => lhs; whnf) rfl ?_
    clear hK2
    first | rfl | (exfalso; first | omega | contradiction | grind)

end Go.Proofs.Ytliocgdpefmpdaa.DFnExactPressureRoom
