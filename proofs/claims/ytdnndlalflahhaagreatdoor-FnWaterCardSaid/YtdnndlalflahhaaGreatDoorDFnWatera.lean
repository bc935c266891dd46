/- Walks through the functions that FnWater reaches: what each answers. -/
import Derived.Test.YtdnndlalflahhaaGreatDoorEvO
import Derived.Test.YtdnndlalflahhaaGreatDoorProg
import Derived.Test.YtdnndlalflahhaaGreatDoorEvZ
import Derived.Test.YtdnndlalflahhaaGreatDoorPlain
set_option linter.unusedVariables false
set_option linter.unusedSimpArgs false
set_option maxRecDepth 20000
set_option maxHeartbeats 2000000
namespace Go.Proofs.YtdnndlalflahhaaGreatDoor.DFnWater
open Go Go.RowKit Go.Proofs Go.Proofs.YtdnndlalflahhaaGreatDoor Go.Proofs.YtdnndlalflahhaaGreatDoor.Ev
def ci (n : Int) : AV := .s (.int .i64 n)
def within (xs : List Int) (lo hi : Int) : Prop := ∀ (j : Nat) (q : Int), xs[j]? = some q → lo ≤ q ∧ q ≤ hi
noncomputable instance (xs : List Int) (lo hi : Int) : Decidable (within xs lo hi) := Classical.propDecidable _
theorem all_extI {α : Type} {xs : List α} {i : Nat} {Q : Nat → α → Prop} {p : α} (hJ : ∀ j q, j < i → xs[j]? = some q → Q j q) (hp : xs[i]? = some p) (h : Q i p) : ∀ j q, j < i + 1 → xs[j]? = some q → Q j q := by
  intro j q hj hq
  by_cases e : j = i
  · subst e; rw [hp] at hq; cases hq; exact h
  · exact hJ j q (by omega) hq
theorem all_finI {α : Type} {xs : List α} {i : Nat} {Q : Nat → α → Prop} (hJ : ∀ j q, j < i → xs[j]? = some q → Q j q) (hi : xs.length ≤ i) : ∀ j q, xs[j]? = some q → Q j q := by
  intro j q hq
  exact hJ j q (by have := (List.getElem?_eq_some_iff.1 hq).1; omega) hq
def dAV (n : Int) : AV := .s (.string (dec n))
def u8A (n : Int) : AV := .s (.int .u8 n)
theorem fS {a b : ByteArray} (h : a = b) : AV.s (.string a) = .s (.string b) := by rw [h]
theorem dec_0 : (⟨#[48]⟩ : ByteArray) = dec 0 := by simp [dec, tx, Lib.itoa, Lib.decDigits]
theorem sz_app {a b c : ByteArray} (h : a = b ++ c) : a.size = b.size + c.size := by rw [h, ByteArray.size_append]
theorem takeS {α : Type} {xs : List α} {i : Nat} {q : α} (h : xs[i]? = some q) : xs.take (i + 1) = xs.take i ++ [q] := by rw [List.take_add_one, h]; rfl
theorem appG {α : Type} {f : α → AV} {l l2 : List α} {p : α} {v : AV} (h : l2 = l ++ [p]) (e : v = f p) : l.map f ++ [v] = l2.map f := by subst h e; simp
theorem ltx_s1 {xs : List Int} {i : Nat} {q : Int} {s : ByteArray} (hq : xs[i]? = some q) (h : ¬ (i : Int) > 0) (h2 : s = tx (ltx (xs.take i)) ++ dec q) : s = tx (ltx (xs.take (i + 1))) := by
  have h0 : i = 0 := by omega
  subst h0
  rw [h2, ltx_take hq, if_pos rfl]
  show tx [] ++ dec q = dec q
  unfold dec; rw [tx_app]; rfl
theorem ltx_s2 {xs : List Int} {i : Nat} {q : Int} {s u : ByteArray} (hq : xs[i]? = some q) (h : (i : Int) > 0) (h1 : u = tx (ltx (xs.take i)) ++ ⟨#[44]⟩) (h2 : s = u ++ dec q) : s = tx (ltx (xs.take (i + 1))) := by
  rw [h2, h1, ltx_take hq, if_neg (by omega)]
  show tx (ltx (xs.take i)) ++ tx [44] ++ dec q = _
  unfold dec; rw [tx_app, tx_app]
theorem u8w {n m : Int} (h : n = IntKind.u8.wrap m) (h0 : 0 ≤ m) (h1 : m ≤ 255) : n = m := by
  have e : IntKind.u8.wrap m = m % 256 := by simp [IntKind.wrap, IntKind.bits, IntKind.signed]
  rw [e] at h; omega
theorem absT {m a b : Int} (h : a = Int.tmod m 10) (hb : (0 ≤ a ∧ b = a) ∨ (a < 0 ∧ b = -a)) : b = ((m.natAbs % 10 : Nat) : Int) := by
  by_cases h0 : 0 ≤ m
  · rw [tmod_pos h0] at h; omega
  · rw [tmod_neg (by omega)] at h; omega
theorem tmodB {m a : Int} (h : a = Int.tmod m 10) : -9 ≤ a ∧ a ≤ 9 := by
  by_cases h0 : 0 ≤ m
  · rw [tmod_pos h0] at h; omega
  · rw [tmod_neg (by omega)] at h; omega
theorem tdivA {m a : Int} (h : a = Int.tdiv m 10) (hm : m ≠ 0) : a.natAbs < m.natAbs := by
  by_cases h0 : 0 ≤ m
  · rw [tdiv_pos h0] at h; omega
  · rw [tdiv_neg (by omega)] at h; omega
theorem quo10 {n m : Int} (h : n = IntKind.i64.wrap (Int.tdiv m 10)) (h0 : -9223372036854775808 ≤ m) (h1 : m ≤ 9223372036854775807) : n = Int.tdiv m 10 := by
  by_cases h2 : 0 ≤ m
  · rw [tdiv_pos h2] at h ⊢; exact in64 h (by omega) (by omega)
  · rw [tdiv_neg (by omega)] at h ⊢; exact in64 h (by omega) (by omega)
def decL (n : Int) (L : List Int) : List Int := if n < 0 then L ++ [45] else L
theorem dec_end {n : Int} {L : List Int} (h : decI n 0 L) : (decL n L).reverse = itD n := by
  have e := decI_end h
  unfold decL
  by_cases hn : n < 0
  · rw [if_pos hn, itD_neg hn, e]; simp
  · rw [if_neg hn, itD_pos (by omega), e]
def revT (L : List Int) (i : Nat) : List Int := (L.drop i).reverse
theorem revT_0 {L : List Int} : revT L L.length = [] := by simp [revT]
theorem revT_s {L : List Int} {i : Nat} {q : Int} (h : L[i]? = some q) : revT L i = revT L (i + 1) ++ [q] := by
  have hl := (List.getElem?_eq_some_iff.1 h).1
  unfold revT
  rw [List.drop_eq_getElem_cons hl, List.reverse_cons]
  rw [List.getElem?_eq_getElem hl] at h
  rw [Option.some.inj h]
theorem revT_e {L : List Int} : revT L 0 = L.reverse := by simp [revT]
theorem revT_len {L : List Int} {i : Nat} : (revT L i).length = L.length - i := by simp [revT]
theorem u8s_u8A : ∀ xs : List Int, u8s (xs.map u8A) = some xs
  | [] => rfl
  | x :: xs => by simp only [List.map_cons, u8s, u8A]; rw [show u8s (xs.map u8A) = some xs from u8s_u8A xs]
theorem u8s_take {xs : List Int} {n : Nat} (h : n = xs.length) : u8s ((xs.map u8A).take n) = some xs := by subst h; rw [takeMap]; exact u8s_u8A xs
theorem decL_len {n : Int} {L : List Int} : (decL n L).length ≤ L.length + 1 := by unfold decL; split <;> simp
theorem splitK_mem {c : UInt8} : ∀ (k : Nat) (l : List UInt8), ∀ p ∈ Lib.splitK [c] 0 k l, p.length ≤ l.length
  | 0, l, p, h => by simp [Lib.splitK] at h; subst h; exact Nat.le_refl _
  | k + 1, l, p, h => by
    rw [Lib.splitK] at h
    split at h
    · simp at h; subst h; exact Nat.le_refl _
    · rcases List.mem_cons.1 h with e | e
      · subst e; rw [List.length_take]; omega
      · have := splitK_mem k _ p e
        rw [List.length_drop] at this; omega
theorem splN_sz {c : UInt8} {k : Nat} {s q : ByteArray} (h : q ∈ splN c k s) : q.size ≤ s.size := by
  have hd := Lib.splitB_data (tx [c]) 0 (min k (s.size + 1) - 1) s
  rw [tx_data] at hd
  have := splitK_mem (c := c) (min k (s.size + 1) - 1) s.data.toList q.data.toList (by rw [← hd]; exact List.mem_map_of_mem (f := fun b : ByteArray => b.data.toList) h)
  rw [ba_len, ba_len] at this; exact this
theorem pcs_mem {c : UInt8} : ∀ (l : List UInt8), ∀ p ∈ pcs c l, p.length ≤ l.length
  | [], p, h => by simp [pcs] at h; subst h; simp
  | b :: l, p, h => by
    have ih := pcs_mem (c := c) l
    rw [pcs] at h
    split at h
    · rcases List.mem_cons.1 h with e | e
      · subst e; simp
      · have := ih p e; simp; omega
    · split at h
      · rename_i x xs e
        rw [e] at ih
        rcases List.mem_cons.1 h with e2 | e2
        · subst e2; have := ih x (by simp); simp; omega
        · have := ih p (by simp [e2]); simp; omega
      · simp at h; subst h; simp
theorem pc_sz {c : UInt8} {s q : ByteArray} (h : q ∈ pieces c s) : q.size ≤ s.size := by
  obtain ⟨p, hp, rfl⟩ := List.mem_map.1 h
  have := pcs_mem _ p hp
  rw [ba_len] at this
  rw [tx_size]; exact this
theorem rlP_no1 {s q : ByteArray} (hq : q ∈ splN 44 65 s) (h : ¬ rdB q) : ¬ rlP s := fun hp => h (hp.2 q (by rw [← splN_mem hp]; exact hq)).1
theorem rl_y2 {s : ByteArray} (h : ¬ s = tx [45]) (h2 : rlP s) : rlB s ∧ rlL s = (splN 44 65 s).map rdN := by
  have e := rl_y h h2
  rw [splN_mem h2]; exact e
def pAV (p : List UInt8) : AV := .s (.string (tx p))
theorem pAV_map {o : List (List UInt8)} : o.map pAV = (o.map tx).map stA := by rw [List.map_map]; rfl
theorem ext0 {s : ByteArray} {f i : Nat} {l : ByteArray} (h : l = s.extract f i) : AV.s (.string l) = pAV (s.extract f i).data.toList := by subst h; unfold pAV; rw [tx_self]
theorem u8eq {a b : UInt8} (h : (a.toNat : Int) = b.toNat) : a = b := by
  have : a.toNat = b.toNat := by omega
  exact UInt8.toNat_inj.1 this
def bl (x0 y0 x1 y1 x : Int) : Int := if x ≤ x0 ∨ x1 ≤ x0 then y0 else if x ≥ x1 then y1 else y0 + dr ((y1 - y0) * (x - x0)) (x1 - x0)
def gd (xs : List Int) (i : Nat) : Int := xs.getD i 0
theorem gd_eq {xs : List Int} {i : Nat} {p : Int} (h : xs[i]? = some p) : gd xs i = p := by simp [gd, List.getD, h]
def tP : List Int := [1000, 2000, 10000, 50000, 101325, 200000, 400000, 600000, 1000000, 1200000]
def tV : List Int := [700, 1750, 4580, 8135, 9961, 12023, 14361, 15883, 17988, 18796]
def boil (x : Int) : Int := if x ≤ 2000 then bl 1000 700 2000 1750 x else if x ≤ 10000 then bl 2000 1750 10000 4580 x else if x ≤ 50000 then bl 10000 4580 50000 8135 x else if x ≤ 101325 then bl 50000 8135 101325 9961 x else if x ≤ 200000 then bl 101325 9961 200000 12023 x else if x ≤ 400000 then bl 200000 12023 400000 14361 x else if x ≤ 600000 then bl 400000 14361 600000 15883 x else if x ≤ 1000000 then bl 600000 15883 1000000 17988 x else bl 1000000 17988 1200000 18796 x
def boilC : List AV := [.s (.int .i64 1000), .s (.int .i64 700), .s (.int .i64 2000), .s (.int .i64 1750), .s (.int .i64 10000), .s (.int .i64 4580), .s (.int .i64 50000), .s (.int .i64 8135), .s (.int .i64 101325), .s (.int .i64 9961), .s (.int .i64 200000), .s (.int .i64 12023), .s (.int .i64 400000), .s (.int .i64 14361), .s (.int .i64 600000), .s (.int .i64 15883), .s (.int .i64 1000000), .s (.int .i64 17988), .s (.int .i64 1200000), .s (.int .i64 18796)]
theorem tabP {k o : Nat} {p : Int} (h : tP[k]? = some p) (ho : o = 2 * k) : boilC[o]? = some (.s (.int .i64 p)) := by
  subst ho
  have hk : k < 10 := (List.getElem?_eq_some_iff.1 h).1
  rcases (by omega : k = 0 ∨ k = 1 ∨ k = 2 ∨ k = 3 ∨ k = 4 ∨ k = 5 ∨ k = 6 ∨ k = 7 ∨ k = 8 ∨ k = 9) with rfl | rfl | rfl | rfl | rfl | rfl | rfl | rfl | rfl | rfl <;> (simp [tP] at h; subst h; rfl)
theorem tabV {k o : Nat} {p : Int} (h : tV[k]? = some p) (ho : o = 2 * k + 1) : boilC[o]? = some (.s (.int .i64 p)) := by
  subst ho
  have hk : k < 10 := (List.getElem?_eq_some_iff.1 h).1
  rcases (by omega : k = 0 ∨ k = 1 ∨ k = 2 ∨ k = 3 ∨ k = 4 ∨ k = 5 ∨ k = 6 ∨ k = 7 ∨ k = 8 ∨ k = 9) with rfl | rfl | rfl | rfl | rfl | rfl | rfl | rfl | rfl | rfl <;> (simp [tV] at h; subst h; rfl)
theorem tP_bd {k : Nat} {p : Int} (h : tP[k]? = some p) : 1000 ≤ p ∧ p ≤ 1200000 := by
  have := List.mem_of_getElem? h
  simp only [tP, List.mem_cons, List.not_mem_nil, or_false] at this
  omega
theorem tV_bd {k : Nat} {p : Int} (h : tV[k]? = some p) : 700 ≤ p ∧ p ≤ 18796 := by
  have := List.mem_of_getElem? h
  simp only [tV, List.mem_cons, List.not_mem_nil, or_false] at this
  omega
theorem boil_at {i : Nat} {a b c d x : Int} (h9 : i ≤ 8) (ha : tP[i]? = some a) (hb : tV[i]? = some b) (hc : tP[i + 1]? = some c) (hd : tV[i + 1]? = some d) (hlo : i = 0 ∨ a < x) (hhi : i = 8 ∨ x ≤ c) : bl a b c d x = boil x := by
  rcases (by omega : i = 0 ∨ i = 1 ∨ i = 2 ∨ i = 3 ∨ i = 4 ∨ i = 5 ∨ i = 6 ∨ i = 7 ∨ i = 8) with rfl | rfl | rfl | rfl | rfl | rfl | rfl | rfl | rfl <;>
    (simp [tP] at ha hc; simp [tV] at hb hd; subst ha hb hc hd; unfold boil; repeat (first | rw [if_pos (by omega)] | rw [if_neg (by omega)]))
theorem boil_at2 {i : Nat} {a b c d x : Int} (h9 : i ≤ 8) (ha : tP[i]? = some a) (hb : tV[i]? = some b) (hc : tP[i + 1]? = some c) (hd : tV[i + 1]? = some d) (hlo : i = 0 ∨ a ≤ x) (hhi : i = 8 ∨ x < c) : bl a b c d x = boil x := by
  by_cases e : i = 0 ∨ a < x
  · exact boil_at h9 ha hb hc hd e (by omega)
  · have hx : x = a := by omega
    subst hx
    rcases (by omega : i = 1 ∨ i = 2 ∨ i = 3 ∨ i = 4 ∨ i = 5 ∨ i = 6 ∨ i = 7 ∨ i = 8) with rfl | rfl | rfl | rfl | rfl | rfl | rfl | rfl <;>
      (simp [tP] at ha hc; simp [tV] at hb hd; subst ha hb hc hd; decide)
theorem srN_ex (p : Int → Prop) : ∀ n : Nat, ∃ k : Nat, k ≤ n ∧ (∀ j : Nat, j < k → ¬ p j) ∧ (k < n → p k)
  | 0 => ⟨0, Nat.le_refl _, fun j h => absurd h (Nat.not_lt_zero _), fun h => absurd h (Nat.not_lt_zero _)⟩
  | n + 1 => by
    obtain ⟨k, h1, h2, h3⟩ := srN_ex p n
    by_cases e : k = n
    · subst e
      by_cases hp : p k
      · exact ⟨k, by omega, h2, fun _ => hp⟩
      · refine ⟨k + 1, Nat.le_refl _, fun j hj => ?_, fun h => by omega⟩
        by_cases ej : j = k
        · subst ej; exact hp
        · exact h2 j (by omega)
    · exact ⟨k, by omega, h2, fun _ => h3 (by omega)⟩
noncomputable def srN (p : Int → Prop) [DecidablePred p] (n : Nat) : Nat := Classical.choose (srN_ex p n)
theorem srN_spec (p : Int → Prop) [DecidablePred p] (n : Nat) : srN p n ≤ n ∧ (∀ j : Nat, j < srN p n → ¬ p j) ∧ (srN p n < n → p (srN p n)) := Classical.choose_spec (srN_ex p n)
theorem srN_uniq {p : Int → Prop} [DecidablePred p] {n k : Nat} (h1 : k ≤ n) (h2 : ∀ j : Nat, j < k → ¬ p j) (h3 : k < n → p k) : srN p n = k := by
  obtain ⟨g1, g2, g3⟩ := srN_spec p n
  rcases Nat.lt_trichotomy (srN p n) k with h | h | h
  · exact absurd (g3 (by omega)) (h2 _ h)
  · exact h
  · exact absurd (h3 (by omega)) (g2 _ h)
theorem shr1 {x n : Int} (h : n = x.fdiv (2 ^ (min (1 : Int).toNat IntKind.u64.bits))) (h0 : 0 ≤ x) : n = x / 2 := by
  rw [h, Int.fdiv_eq_ediv_of_nonneg _ (by decide)]; rfl
theorem wrapU {m n : Int} (h : n = IntKind.u64.wrap m) (h0 : 0 ≤ m) (h1 : m ≤ 9223372036854775807) : n = m := by
  have e : IntKind.u64.wrap m = m % 18446744073709551616 := by simp [IntKind.wrap, IntKind.bits, IntKind.signed]
  rw [e] at h; omega
noncomputable def lst (p : Int → Prop) [DecidablePred p] (lo hi : Int) : Int := lo + srN (fun i => p (lo + i)) (hi - lo + 1).toNat
theorem lst_spec (p : Int → Prop) [DecidablePred p] {lo hi : Int} (h : lo ≤ hi + 1) : lo ≤ lst p lo hi ∧ lst p lo hi ≤ hi + 1 ∧ (∀ a, lo ≤ a → a < lst p lo hi → ¬ p a) ∧ (lst p lo hi ≤ hi → p (lst p lo hi)) := by
  obtain ⟨h1, h2, h3⟩ := srN_spec (fun i => p (lo + i)) (hi - lo + 1).toNat
  refine ⟨by unfold lst; omega, by unfold lst; omega, fun a ha hl => ?_, fun hl => h3 (by unfold lst at hl; omega)⟩
  have := h2 (a - lo).toNat (by unfold lst at hl; omega)
  rwa [show lo + ((a - lo).toNat : Int) = a by omega] at this
theorem lst_uniq {p : Int → Prop} [DecidablePred p] {lo hi k : Int} (h0 : lo ≤ k) (h1 : k ≤ hi + 1) (h2 : ∀ a, lo ≤ a → a < k → ¬ p a) (h3 : k ≤ hi → p k) : lst p lo hi = k := by
  obtain ⟨g0, g1, g2, g3⟩ := lst_spec p (lo := lo) (hi := hi) (by omega)
  by_cases e : lst p lo hi < k
  · exact absurd (g3 (by omega)) (h2 _ g0 e)
  · by_cases e2 : k < lst p lo hi
    · exact absurd (h3 (by omega)) (g2 _ h0 e2)
    · omega
theorem dr_nn {a b : Int} (hb : 0 < b) (ha : 0 ≤ a) : dr a b = (2 * a + b) / (2 * b) := by
  unfold dr drP; rw [if_neg (by omega), if_neg (by omega)]
theorem dr_mono {a a' b : Int} (hb : 0 < b) (ha : 0 ≤ a) (h : a ≤ a') : dr a b ≤ dr a' b := by
  rw [dr_nn hb ha, dr_nn hb (by omega)]
  exact Int.ediv_le_ediv (by omega) (by omega)
theorem dr_ge0 {a b : Int} (hb : 0 < b) (ha : 0 ≤ a) : 0 ≤ dr a b := by
  rw [dr_nn hb ha]
  exact Int.ediv_nonneg (by omega) (by omega)
theorem dr_le {a b k : Int} (hb : 0 < b) (ha : 0 ≤ a) (h : a ≤ k * b) : dr a b ≤ k := by
  rw [dr_nn hb ha]
  have e : 2 * (k * b) = k * (2 * b) := by rw [Int.mul_left_comm]
  have : (2 * a + b) < (k + 1) * (2 * b) := by rw [Int.add_mul, Int.one_mul, ← e]; omega
  have := Int.ediv_lt_of_lt_mul (by omega : 0 < 2 * b) this
  omega
theorem bl_bd {x0 y0 x1 y1 : Int} (x : Int) (hx : x0 < x1) (hy : y0 ≤ y1) : y0 ≤ bl x0 y0 x1 y1 x ∧ bl x0 y0 x1 y1 x ≤ y1 := by
  unfold bl
  split
  · omega
  · split
    · omega
    · have h0 := Int.mul_nonneg (show 0 ≤ y1 - y0 by omega) (show 0 ≤ x - x0 by omega)
      have h1 := Int.mul_le_mul_of_nonneg_left (show x - x0 ≤ x1 - x0 by omega) (show 0 ≤ y1 - y0 by omega)
      have h2 := dr_ge0 (b := x1 - x0) (by omega) h0
      have h3 := dr_le (b := x1 - x0) (by omega) h0 h1
      omega
theorem bl_mono {x0 y0 x1 y1 x y : Int} (hx : x0 < x1) (hy : y0 ≤ y1) (h : x ≤ y) : bl x0 y0 x1 y1 x ≤ bl x0 y0 x1 y1 y := by
  have b1 := bl_bd x hx hy
  have b2 := bl_bd y hx hy
  by_cases h1 : x ≤ x0 ∨ x1 ≤ x0
  · have : bl x0 y0 x1 y1 x = y0 := if_pos h1
    omega
  · by_cases h2 : y ≥ x1
    · have : bl x0 y0 x1 y1 y = y1 := by unfold bl; rw [if_neg (by omega), if_pos h2]
      omega
    · unfold bl
      rw [if_neg h1, if_neg (by omega), if_neg (by omega), if_neg h2]
      have h0 := Int.mul_nonneg (show 0 ≤ y1 - y0 by omega) (show 0 ≤ x - x0 by omega)
      have h3 := Int.mul_le_mul_of_nonneg_left (show x - x0 ≤ y - x0 by omega) (show 0 ≤ y1 - y0 by omega)
      have := dr_mono (b := x1 - x0) (by omega) h0 h3
      omega
set_option maxHeartbeats 4000000 in
theorem boil_mono {x y : Int} (h : x ≤ y) : boil x ≤ boil y := by
  have a1 := bl_bd (x0 := 1000) (y0 := 700) (x1 := 2000) (y1 := 1750) x (by omega) (by omega)
  have a2 := bl_bd (x0 := 2000) (y0 := 1750) (x1 := 10000) (y1 := 4580) x (by omega) (by omega)
  have a3 := bl_bd (x0 := 10000) (y0 := 4580) (x1 := 50000) (y1 := 8135) x (by omega) (by omega)
  have a4 := bl_bd (x0 := 50000) (y0 := 8135) (x1 := 101325) (y1 := 9961) x (by omega) (by omega)
  have a5 := bl_bd (x0 := 101325) (y0 := 9961) (x1 := 200000) (y1 := 12023) x (by omega) (by omega)
  have a6 := bl_bd (x0 := 200000) (y0 := 12023) (x1 := 400000) (y1 := 14361) x (by omega) (by omega)
  have a7 := bl_bd (x0 := 400000) (y0 := 14361) (x1 := 600000) (y1 := 15883) x (by omega) (by omega)
  have a8 := bl_bd (x0 := 600000) (y0 := 15883) (x1 := 1000000) (y1 := 17988) x (by omega) (by omega)
  have a9 := bl_bd (x0 := 1000000) (y0 := 17988) (x1 := 1200000) (y1 := 18796) x (by omega) (by omega)
  have b1 := bl_bd (x0 := 1000) (y0 := 700) (x1 := 2000) (y1 := 1750) y (by omega) (by omega)
  have b2 := bl_bd (x0 := 2000) (y0 := 1750) (x1 := 10000) (y1 := 4580) y (by omega) (by omega)
  have b3 := bl_bd (x0 := 10000) (y0 := 4580) (x1 := 50000) (y1 := 8135) y (by omega) (by omega)
  have b4 := bl_bd (x0 := 50000) (y0 := 8135) (x1 := 101325) (y1 := 9961) y (by omega) (by omega)
  have b5 := bl_bd (x0 := 101325) (y0 := 9961) (x1 := 200000) (y1 := 12023) y (by omega) (by omega)
  have b6 := bl_bd (x0 := 200000) (y0 := 12023) (x1 := 400000) (y1 := 14361) y (by omega) (by omega)
  have b7 := bl_bd (x0 := 400000) (y0 := 14361) (x1 := 600000) (y1 := 15883) y (by omega) (by omega)
  have b8 := bl_bd (x0 := 600000) (y0 := 15883) (x1 := 1000000) (y1 := 17988) y (by omega) (by omega)
  have b9 := bl_bd (x0 := 1000000) (y0 := 17988) (x1 := 1200000) (y1 := 18796) y (by omega) (by omega)
  have c1 := bl_mono (x0 := 1000) (y0 := 700) (x1 := 2000) (y1 := 1750) (by omega) (by omega) h
  have c2 := bl_mono (x0 := 2000) (y0 := 1750) (x1 := 10000) (y1 := 4580) (by omega) (by omega) h
  have c3 := bl_mono (x0 := 10000) (y0 := 4580) (x1 := 50000) (y1 := 8135) (by omega) (by omega) h
  have c4 := bl_mono (x0 := 50000) (y0 := 8135) (x1 := 101325) (y1 := 9961) (by omega) (by omega) h
  have c5 := bl_mono (x0 := 101325) (y0 := 9961) (x1 := 200000) (y1 := 12023) (by omega) (by omega) h
  have c6 := bl_mono (x0 := 200000) (y0 := 12023) (x1 := 400000) (y1 := 14361) (by omega) (by omega) h
  have c7 := bl_mono (x0 := 400000) (y0 := 14361) (x1 := 600000) (y1 := 15883) (by omega) (by omega) h
  have c8 := bl_mono (x0 := 600000) (y0 := 15883) (x1 := 1000000) (y1 := 17988) (by omega) (by omega) h
  have c9 := bl_mono (x0 := 1000000) (y0 := 17988) (x1 := 1200000) (y1 := 18796) (by omega) (by omega) h
  unfold boil
  split <;> (first | (rw [if_pos (by omega)]; omega) | skip) <;> (repeat' split) <;> omega
theorem boil_top : boil 1200000 = 18796 := by decide
noncomputable def stm (t : Int) : Int := lst (fun n => boil n ≥ t) 1000 1200000
theorem stm_spec (t : Int) : 1000 ≤ stm t ∧ stm t ≤ 1200001 ∧ (∀ a, 1000 ≤ a → a < stm t → ¬ boil a ≥ t) ∧ (stm t ≤ 1200000 → boil (stm t) ≥ t) := by
  have := lst_spec (fun n => boil n ≥ t) (lo := 1000) (hi := 1200000) (by omega)
  exact this
theorem stm_mono {s t : Int} (h : s ≤ t) : stm s ≤ stm t := by
  obtain ⟨a1, a2, a3, a4⟩ := stm_spec s
  obtain ⟨b1, b2, b3, b4⟩ := stm_spec t
  by_cases e : stm t < stm s
  · have h1 := a3 _ b1 e
    have h2 := b4 (by omega)
    omega
  · omega
theorem stm_bd (t : Int) : 1000 ≤ stm t ∧ stm t ≤ 1200001 := ⟨(stm_spec t).1, (stm_spec t).2.1⟩
theorem stm_uniq {t h : Int} (h0 : 1000 ≤ h) (h1 : h ≤ 1200000) (h2 : ∀ a, 1000 ≤ a → a < h → ¬ boil a ≥ t) (h3 : boil h ≥ t) : stm t = h :=
  lst_uniq (p := fun n => boil n ≥ t) h0 (by omega) h2 (fun _ => h3)
noncomputable def hot (p m : Int) : Int := lst (fun n => stm n + m > p) 0 18000
theorem hot_spec (p m : Int) : 0 ≤ hot p m ∧ hot p m ≤ 18001 := by
  have := lst_spec (fun n => stm n + m > p) (lo := 0) (hi := 18000) (by omega)
  exact ⟨this.1, this.2.1⟩
theorem hot_uniq {p m k : Int} (h0 : 0 ≤ k) (h1 : k ≤ 18001) (h2 : ∀ a, 0 ≤ a → a < k → ¬ stm a + m > p) (h3 : k ≤ 18000 → stm k + m > p) : hot p m = k :=
  lst_uniq (p := fun n => stm n + m > p) h0 (by omega) h2 h3
theorem dr_mono' {a a' b : Int} (hb : 0 < b) (h : a ≤ a') : dr a b ≤ dr a' b := by
  have e : ∀ x, dr x b = if x < 0 then -((b - 2 * x) / (2 * b)) else (2 * x + b) / (2 * b) := fun x => by unfold dr drP; rw [if_neg (by omega)]
  rw [e, e]
  split
  · split
    · have := Int.ediv_le_ediv (a := b - 2 * a') (b := b - 2 * a) (c := 2 * b) (by omega) (by omega)
      omega
    · have h1 := Int.ediv_nonneg (a := b - 2 * a) (b := 2 * b) (by omega) (by omega)
      have h2 := Int.ediv_nonneg (a := 2 * a' + b) (b := 2 * b) (by omega) (by omega)
      omega
  · rw [if_neg (by omega)]
    exact Int.ediv_le_ediv (by omega) (by omega)
theorem dr_nonneg {a b : Int} (hb : 0 < b) (ha : 0 ≤ a) : 0 ≤ dr a b := by
  unfold dr drP; rw [if_neg (by omega), if_neg (by omega)]
  exact Int.ediv_nonneg (by omega) (by omega)
theorem dr_nonpos {a b : Int} (hb : 0 < b) (ha : a ≤ 0) : dr a b ≤ 0 := by
  have := dr_mono' hb ha
  have h0 : dr 0 b = 0 := by
    unfold dr drP; rw [if_neg (by omega), if_neg (by omega)]
    exact Int.ediv_eq_zero_of_lt (by omega) (by omega)
  omega
def gP (q pr b : Int) : Int := dr (q * 4186 * (pr - b)) 100000
def mdP (su re pr b : Int) : Int := dr (pr - su + b - re) 2
def cP (tr su re pr b : Int) : Int := dr (tr * mdP su re pr b) 100
def mi (a b : Int) : Int := if a < b then a else b
def mx0 (a : Int) : Int := if 0 > a then 0 else a
def lesP (tr su re pr q b : Int) : Int := mi (gP q pr b) (cP tr su re pr b)
theorem gP_anti {q pr a b : Int} (hq : 0 ≤ q) (h : a ≤ b) : gP q pr b ≤ gP q pr a :=
  dr_mono' (by omega) (Int.mul_le_mul_of_nonneg_left (by omega) (by omega))
theorem gP_nn {q pr b : Int} (hq : 0 ≤ q) (h : b ≤ pr) : 0 ≤ gP q pr b := dr_nonneg (by omega) (Int.mul_nonneg (by omega) (by omega))
theorem mdP_mono {su re pr a b : Int} (h : a ≤ b) : mdP su re pr a ≤ mdP su re pr b := dr_mono' (by omega) (by omega)
theorem cP_mono {tr su re pr a b : Int} (ht : 0 ≤ tr) (h : a ≤ b) : cP tr su re pr a ≤ cP tr su re pr b :=
  dr_mono' (by omega) (Int.mul_le_mul_of_nonneg_left (mdP_mono h) ht)
/-- The greatest place of the greatest value. -/
def IsBest (f : Int → Int) (lo hi b : Int) : Prop := (lo ≤ b ∧ b ≤ hi) ∧ (∀ a, lo ≤ a → a ≤ hi → f a ≤ f b) ∧ (∀ a, b < a → a ≤ hi → f a < f b)
theorem IsBest.uniq {f : Int → Int} {lo hi b c : Int} (h : IsBest f lo hi b) (k : IsBest f lo hi c) : b = c := by
  obtain ⟨h1, h2, h3⟩ := h
  obtain ⟨k1, k2, k3⟩ := k
  rcases Int.lt_trichotomy b c with e | e | e
  · have := h3 c e k1.2; have := k2 b h1.1 h1.2; omega
  · exact e
  · have := k3 b e h1.2; have := h2 c k1.1 k1.2; omega
def bst (f : Int → Int) (lo : Int) : Nat → Int
  | 0 => lo
  | n + 1 => if f (lo + n + 1) ≥ f (bst f lo n) then lo + n + 1 else bst f lo n
theorem bst_T {f : Int → Int} {lo : Int} {n : Nat} (h : f (lo + n + 1) ≥ f (bst f lo n)) : bst f lo (n + 1) = lo + n + 1 := if_pos h
theorem bst_F {f : Int → Int} {lo : Int} {n : Nat} (h : ¬ f (lo + n + 1) ≥ f (bst f lo n)) : bst f lo (n + 1) = bst f lo n := if_neg h
theorem bst_spec {f : Int → Int} {lo : Int} : ∀ n : Nat, IsBest f lo (lo + n) (bst f lo n)
  | 0 => ⟨by simp [bst], fun a h1 h2 => by have : a = lo := by omega
                                           subst this; exact Int.le_refl _, fun a h1 h2 => by simp [bst] at h1; omega⟩
  | n + 1 => by
    obtain ⟨h1, h2, h3⟩ := bst_spec (f := f) (lo := lo) n
    by_cases h : f (lo + n + 1) ≥ f (bst f lo n)
    · rw [bst_T h]
      refine ⟨by omega, fun a ha hb => ?_, fun a ha hb => by omega⟩
      by_cases e : a = lo + n + 1
      · subst e; exact Int.le_refl _
      · have := h2 a ha (by omega); omega
    · rw [bst_F h]
      refine ⟨by omega, fun a ha hb => ?_, fun a ha hb => ?_⟩
      · by_cases e : a = lo + n + 1
        · subst e; omega
        · exact h2 a ha (by omega)
      · by_cases e : a = lo + n + 1
        · subst e; omega
        · exact h3 a ha (by omega)
def bB (f : Int → Int) (lo hi : Int) : Int := bst f lo (hi - lo).toNat
theorem bB_best {f : Int → Int} {lo hi : Int} (h : lo ≤ hi) : IsBest f lo hi (bB f lo hi) := by
  have := bst_spec (f := f) (lo := lo) (hi - lo).toNat
  rwa [show lo + ((hi - lo).toNat : Int) = hi by omega] at this
theorem bB_uniq {f : Int → Int} {lo hi b : Int} (h : IsBest f lo hi b) : b = bB f lo hi := h.uniq (bB_best (by have := h.1; omega))
/-- Two curves that meet. -/
structure Meet (g c : Int → Int) (lo hi : Int) : Prop where
  le : lo ≤ hi
  anti : ∀ a b, lo ≤ a → a ≤ b → b ≤ hi → g b ≤ g a
  mono : ∀ a b, lo ≤ a → a ≤ b → b ≤ hi → c a ≤ c b
  nn : ∀ a, lo ≤ a → a ≤ hi → 0 ≤ g a
theorem mi_le1 {a b : Int} : mi a b ≤ a := by unfold mi; split <;> omega
theorem mi_le2 {a b : Int} : mi a b ≤ b := by unfold mi; split <;> omega
theorem mi_ge {a b x : Int} (h1 : x ≤ a) (h2 : x ≤ b) : x ≤ mi a b := by unfold mi; split <;> omega
theorem mi_cases (a b : Int) : mi a b = a ∨ mi a b = b := by unfold mi; split <;> simp
theorem mx0_ge (a : Int) : 0 ≤ mx0 a ∧ a ≤ mx0 a := by unfold mx0; split <;> omega
theorem mx0_le {a b : Int} (h : a ≤ b) : mx0 a ≤ mx0 b := by unfold mx0; split <;> split <;> omega
theorem mx0_cases (a : Int) : (a < 0 ∧ mx0 a = 0) ∨ (0 ≤ a ∧ mx0 a = a) := by unfold mx0; split <;> omega
theorem meet_top {g c : Int → Int} {lo hi l : Int} (m : Meet g c lo hi) (h1 : lo ≤ l ∧ l ≤ hi) (h2 : l = lo ∨ c l ≤ g l) (h3 : l = hi ∨ g (l + 1) < c (l + 1)) (a : Int) (ha : lo ≤ a ∧ a ≤ hi) :
    mi (g a) (c a) ≤ mi (g l) (c l) ∨ (l + 1 ≤ hi ∧ mi (g a) (c a) ≤ mi (g (l + 1)) (c (l + 1))) := by
  by_cases e : a ≤ l
  · left
    rcases h2 with h2 | h2
    · have : a = l := by omega
      rw [this]; exact Int.le_refl _
    · have h4 := m.mono a l ha.1 e h1.2
      have h5 : mi (g a) (c a) ≤ c a := mi_le2
      exact mi_ge (by omega) (by omega)
  · right
    rcases h3 with h3 | h3
    · omega
    · have h4 := m.anti (l + 1) a (by omega) (by omega) ha.2
      have h5 : mi (g a) (c a) ≤ g a := mi_le1
      exact ⟨by omega, mi_ge (by omega) (by omega)⟩
theorem meet_best {g c : Int → Int} {lo hi b v : Int} (m : Meet g c lo hi) (hb : lo ≤ b ∧ b ≤ hi) (hv : mx0 (mi (g b) (c b)) = v) (htop : ∀ a, lo ≤ a → a ≤ hi → mx0 (mi (g a) (c a)) ≤ v) (hend : b = hi ∨ mx0 (mi (g (b + 1)) (c (b + 1))) < v) :
    IsBest (fun a => mi (g a) (c a)) lo hi b := by
  have v0 : 0 ≤ v := by have := (mx0_ge (mi (g b) (c b))).1; omega
  have le : ∀ a, lo ≤ a → a ≤ hi → mi (g a) (c a) ≤ v := fun a h1 h2 => by have := (mx0_ge (mi (g a) (c a))).2; have := htop a h1 h2; omega
  by_cases hp : 0 < v
  · have eb : mi (g b) (c b) = v := by rcases mx0_cases (mi (g b) (c b)) with h | h <;> omega
    refine ⟨hb, fun a h1 h2 => by show mi (g a) (c a) ≤ mi (g b) (c b); rw [eb]; exact le a h1 h2, fun a h1 h2 => ?_⟩
    rcases hend with h | h
    · omega
    · show mi (g a) (c a) < mi (g b) (c b)
      have h3 := (mx0_ge (mi (g (b + 1)) (c (b + 1)))).2
      have h4 := m.mono b (b + 1) hb.1 (by omega) (by omega)
      have h5 : mi (g b) (c b) ≤ c b := mi_le2
      have h6 : g (b + 1) < v := by
        rcases mi_cases (g (b + 1)) (c (b + 1)) with e | e <;> omega
      have h7 := m.anti (b + 1) a (by omega) (by omega) h2
      have h8 : mi (g a) (c a) ≤ g a := mi_le1
      omega
  · have hz : v = 0 := by omega
    have hbh : b = hi := by
      rcases hend with h | h
      · exact h
      · have := (mx0_ge (mi (g (b + 1)) (c (b + 1)))).1; omega
    subst hbh
    refine ⟨hb, fun a h1 h2 => ?_, fun a h1 h2 => by omega⟩
    show mi (g a) (c a) ≤ mi (g b) (c b)
    have h3 := le a h1 h2
    have h4 := m.mono a b h1 h2 (Int.le_refl _)
    have h5 := m.nn b hb.1 (Int.le_refl _)
    have h6 : mi (g a) (c a) ≤ c a := mi_le2
    exact mi_ge (by omega) (by omega)
theorem les_meet {tr su re pr q : Int} (ht : 0 ≤ tr) (hq : 0 ≤ q) (h : re ≤ pr) : Meet (gP q pr) (cP tr su re pr) re pr :=
  ⟨h, fun a b _ h1 _ => gP_anti hq h1, fun a b _ h1 _ => cP_mono ht h1, fun a _ h1 => gP_nn hq h1⟩
def pwP (tr su re pr q : Int) : Int := if pr < re then 0 else mx0 (lesP tr su re pr q (bB (lesP tr su re pr q) re pr))
theorem pw_le {f f' : Int → Int} {lo hi hi' : Int} (h : lo ≤ hi) (h' : hi ≤ hi') (hf : ∀ b, lo ≤ b → b ≤ hi → mx0 (f b) ≤ mx0 (f' b)) : mx0 (f (bB f lo hi)) ≤ mx0 (f' (bB f' lo hi')) := by
  have b1 := bB_best (f := f) h
  have b2 := bB_best (f := f') (lo := lo) (hi := hi') (by omega)
  have h1 := hf _ b1.1.1 b1.1.2
  have h2 := b2.2.1 (bB f lo hi) b1.1.1 (by have := b1.1.2; omega)
  have h3 := mx0_le h2
  omega
theorem pw_nn {tr su re pr q : Int} : 0 ≤ pwP tr su re pr q := by
  unfold pwP
  split
  · exact Int.le_refl _
  · exact (mx0_ge _).1
theorem mi_mono {a b a' b' : Int} (h1 : a ≤ a') (h2 : b ≤ b') : mi a b ≤ mi a' b' := by unfold mi; split <;> split <;> omega
theorem gP_q {q q' pr b : Int} (h : q ≤ q') (hb : b ≤ pr) : gP q pr b ≤ gP q' pr b := dr_mono' (by omega) (Int.mul_le_mul_of_nonneg_right (by omega) (by omega))
theorem gP_p {q pr pr' b : Int} (hq : 0 ≤ q) (h : pr ≤ pr') : gP q pr b ≤ gP q pr' b := dr_mono' (by omega) (Int.mul_le_mul_of_nonneg_left (by omega) (by omega))
theorem cP_p {tr su re pr pr' b : Int} (ht : 0 ≤ tr) (h : pr ≤ pr') : cP tr su re pr b ≤ cP tr su re pr' b :=
  dr_mono' (by omega) (Int.mul_le_mul_of_nonneg_left (dr_mono' (by omega) (by omega)) ht)
theorem pw_q {tr su re pr q q' : Int} (h : q ≤ q') : pwP tr su re pr q ≤ pwP tr su re pr q' := by
  unfold pwP
  split
  · exact Int.le_refl _
  · exact pw_le (by omega) (Int.le_refl _) fun b h1 h2 => mx0_le (mi_mono (gP_q h h2) (Int.le_refl _))
theorem pw_p {tr su re pr pr' q : Int} (ht : 0 ≤ tr) (hq : 0 ≤ q) (h : pr ≤ pr') : pwP tr su re pr q ≤ pwP tr su re pr' q := by
  by_cases e : pr < re
  · rw [show pwP tr su re pr q = 0 from if_pos e]; exact pw_nn
  · unfold pwP
    rw [if_neg e, if_neg (by omega)]
    exact pw_le (by omega) h fun b h1 h2 => mx0_le (mi_mono (gP_p hq h) (cP_p ht h))
theorem pw_t {tr tr' su re pr q : Int} (ht : 0 ≤ tr) (h : tr ≤ tr') : pwP tr su re pr q ≤ pwP tr' su re pr q := by
  unfold pwP
  split
  · exact Int.le_refl _
  · refine pw_le (by omega) (Int.le_refl _) fun b h1 h2 => ?_
    by_cases hm : 0 ≤ mdP su re pr b
    · exact mx0_le (mi_mono (Int.le_refl _) (dr_mono' (by omega) (Int.mul_le_mul_of_nonneg_right h hm)))
    · have h3 : cP tr su re pr b ≤ 0 := dr_nonpos (by omega) (Int.mul_nonpos_of_nonneg_of_nonpos ht (by omega))
      have h4 : lesP tr su re pr q b ≤ cP tr su re pr b := mi_le2
      have h5 := (mx0_ge (lesP tr' su re pr q b)).1
      rcases mx0_cases (lesP tr su re pr q b) with h6 | h6 <;> omega
noncomputable def pfP (tr su re pr ld : Int) : Int := lst (fun n => pwP tr su re pr n ≥ ld) 0 100000
noncomputable def lpP (tr su re ld q : Int) : Int := lst (fun n => pwP tr su re n q ≥ ld) 0 18000
noncomputable def ltP (su re pr ld : Int) : Int := lst (fun n => pwP n su re pr 100000 ≥ ld) 1 100000
def cb (n : Int) : AV := .s (.int .u8 n)
def src (cs : List Int) (a s : Int) : List AV := [.lst 1 (cs.map cb), .s (.int .i64 a), .s (.int .u64 s)]
theorem repC {n : Nat} : List.replicate n (zelem [AV.s (.int .i64 0)]) = (List.replicate n (0 : Int)).map ci := by rw [List.map_replicate]; rfl
def byteL (cs : List Int) : Prop := ∀ x ∈ cs, 0 ≤ x ∧ x ≤ 255
theorem and255 {x n : Int} (h : n = bitsI .and .u64 x 255) : 0 ≤ n ∧ n ≤ 255 := by
  subst h
  simp only [bitsI]
  have h1 : ((BitVec.ofInt IntKind.u64.bits x) &&& (BitVec.ofInt IntKind.u64.bits 255)).toNat ≤ 255 := by
    rw [BitVec.toNat_and]
    exact Nat.le_trans Nat.and_le_right (by decide)
  generalize ((BitVec.ofInt IntKind.u64.bits x) &&& (BitVec.ofInt IntKind.u64.bits 255)).toNat = m at h1
  have e : IntKind.u64.wrap (m : Int) = (m : Int) % 18446744073709551616 := by simp [IntKind.wrap, IntKind.bits, IntKind.signed]
  rw [e]; omega
theorem dr_eqP {a b : Int} (hb : 0 < b) : dr a b = if a < 0 then -((b - 2 * a) / (2 * b)) else (2 * a + b) / (2 * b) := by unfold dr drP; rw [if_neg (by omega)]
theorem dr_neg {a b : Int} (hb : 0 < b) : dr (-a) b = - dr a b := by
  rw [dr_eqP hb, dr_eqP hb]
  by_cases h : a < 0
  · rw [if_neg (by omega), if_pos h]
    rw [show 2 * -a + b = b - 2 * a by omega]; omega
  · by_cases h0 : a = 0
    · subst h0
      rw [if_neg (by omega), if_neg (by omega)]
      have : (2 * (0 : Int) + b) / (2 * b) = 0 := Int.ediv_eq_zero_of_lt (by omega) (by omega)
      rw [show 2 * -(0 : Int) + b = 2 * 0 + b by omega, this]; rfl
    · rw [if_pos (by omega), if_neg h]
      rw [show b - 2 * -a = 2 * a + b by omega]
theorem dr_mul {k b : Int} (hb : 0 < b) : dr (k * b) b = k := by
  have key : ∀ k : Int, 0 ≤ k → dr (k * b) b = k := fun k hk => by
    have h0 := Int.mul_nonneg hk (show 0 ≤ b by omega)
    rw [dr_eqP hb, if_neg (by omega)]
    have e : 2 * b * k = 2 * (k * b) := by rw [Int.mul_assoc, Int.mul_comm b k]
    exact div_uniq (by omega) (by omega) (by omega)
  by_cases h : 0 ≤ k
  · exact key k h
  · have := key (-k) (by omega)
    rw [Int.neg_mul, dr_neg hb] at this
    omega
theorem dr_spec {a b : Int} (hb : 0 < b) : 2 * a - b ≤ 2 * (b * dr a b) ∧ 2 * (b * dr a b) ≤ 2 * a + b := by
  have key : ∀ a : Int, 0 ≤ a → 2 * a - b ≤ 2 * (b * dr a b) ∧ 2 * (b * dr a b) ≤ 2 * a + b := fun a ha => by
    rw [dr_eqP hb, if_neg (by omega)]
    have h1 := Int.mul_ediv_add_emod (2 * a + b) (2 * b)
    have h2 := Int.emod_nonneg (2 * a + b) (show 2 * b ≠ 0 by omega)
    have h3 := Int.emod_lt_of_pos (2 * a + b) (show 0 < 2 * b by omega)
    rw [Int.mul_assoc] at h1
    omega
  by_cases h : 0 ≤ a
  · exact key a h
  · have := key (-a) (by omega)
    rw [dr_neg hb] at this; simp only [Int.mul_neg] at this
    omega
def dnT : List Int := [99984, 99820, 99220, 98320, 97180, 95835, 94310, 92610, 90745, 88700]
def dA (k : Int) : Int := dnT.getD k.toNat 0
def dK (t : Int) : Int := if t / 2000 < 8 then t / 2000 else 8
def dnC : List AV := dnT.map ci
def dens (t : Int) : Int := bl (2000 * dK t) (dA (dK t)) (2000 * (dK t + 1)) (dA (dK t + 1)) t
theorem dnT_get {k : Int} (h0 : 0 ≤ k) (h : k ≤ 9) : dnT[k.toNat]? = some (dA k) := by
  have hl : k.toNat < dnT.length := by show k.toNat < 10; omega
  rw [List.getElem?_eq_getElem hl]
  simp [dA, List.getD, List.getElem?_eq_getElem hl]
theorem dn_get {k o : Nat} {q : Int} (h : dnT[k]? = some q) (ho : o = k) : dnC[o]? = some (.s (.int .i64 q)) := by subst ho; simp [dnC, h]; rfl
theorem dA_dec {k : Int} (h0 : 0 ≤ k) (h : k ≤ 8) : dA (k + 1) ≤ dA k ∧ 88700 ≤ dA (k + 1) ∧ dA k ≤ 99984 := by
  rcases (by omega : k = 0 ∨ k = 1 ∨ k = 2 ∨ k = 3 ∨ k = 4 ∨ k = 5 ∨ k = 6 ∨ k = 7 ∨ k = 8) with rfl | rfl | rfl | rfl | rfl | rfl | rfl | rfl | rfl <;> decide
theorem dA_anti {k : Int} (h0 : 0 ≤ k) : ∀ n : Nat, k + n ≤ 9 → dA (k + n) ≤ dA k
  | 0, _ => by simp
  | n + 1, h => by
    have ih := dA_anti h0 n (by omega)
    have := (dA_dec (k := k + n) (by omega) (by omega)).1
    rw [show k + ((n + 1 : Nat) : Int) = k + n + 1 by omega]; omega
theorem bl_dn {x0 y0 x1 y1 : Int} (x : Int) (hx : x0 < x1) (hy : y1 ≤ y0) : y1 ≤ bl x0 y0 x1 y1 x ∧ bl x0 y0 x1 y1 x ≤ y0 := by
  unfold bl
  split
  · omega
  · split
    · omega
    · have hb : 0 < x1 - x0 := by omega
      have h1 : (y1 - y0) * (x - x0) ≤ 0 := Int.mul_nonpos_of_nonpos_of_nonneg (by omega) (by omega)
      have h2 : (y1 - y0) * (x1 - x0) ≤ (y1 - y0) * (x - x0) := Int.mul_le_mul_of_nonpos_left (by omega) (by omega)
      have h3 := dr_mono' hb h1
      have h4 := dr_mono' hb h2
      rw [dr_mul hb] at h4
      have h5 : dr 0 (x1 - x0) = 0 := by have := dr_mul (k := 0) hb; rwa [Int.zero_mul] at this
      omega
theorem bl_anti {x0 y0 x1 y1 a b : Int} (hx : x0 < x1) (hy : y1 ≤ y0) (h : a ≤ b) : bl x0 y0 x1 y1 b ≤ bl x0 y0 x1 y1 a := by
  have ha := bl_dn a hx hy
  have hb := bl_dn b hx hy
  by_cases h1 : a ≤ x0
  · have e : bl x0 y0 x1 y1 a = y0 := by unfold bl; rw [if_pos (by omega)]
    omega
  · by_cases h2 : b ≥ x1
    · have e : bl x0 y0 x1 y1 b = y1 := by unfold bl; rw [if_neg (by omega), if_pos h2]
      omega
    · have e1 : bl x0 y0 x1 y1 a = y0 + dr ((y1 - y0) * (a - x0)) (x1 - x0) := by unfold bl; rw [if_neg (by omega), if_neg (by omega)]
      have e2 : bl x0 y0 x1 y1 b = y0 + dr ((y1 - y0) * (b - x0)) (x1 - x0) := by unfold bl; rw [if_neg (by omega), if_neg (by omega)]
      have h3 : (y1 - y0) * (b - x0) ≤ (y1 - y0) * (a - x0) := Int.mul_le_mul_of_nonpos_left (by omega) (by omega)
      have := dr_mono' (show 0 < x1 - x0 by omega) h3
      omega
theorem dK_bd {t : Int} (h0 : 0 ≤ t) : 0 ≤ dK t ∧ dK t ≤ 8 := by unfold dK; split <;> omega
theorem dens_bd {t : Int} (h0 : 0 ≤ t) : 88700 ≤ dens t ∧ dens t ≤ 99984 := by
  obtain ⟨k0, k1⟩ := dK_bd h0
  have h := dA_dec k0 k1
  have := bl_dn (x0 := 2000 * dK t) (y0 := dA (dK t)) (x1 := 2000 * (dK t + 1)) (y1 := dA (dK t + 1)) t (by omega) h.1
  unfold dens; omega
theorem dens_anti {t u : Int} (h0 : 0 ≤ t) (h : t ≤ u) : dens u ≤ dens t := by
  obtain ⟨k0, k1⟩ := dK_bd h0
  obtain ⟨j0, j1⟩ := dK_bd (show 0 ≤ u by omega)
  have hk := dA_dec k0 k1
  have hj := dA_dec j0 j1
  by_cases e : dK t = dK u
  · unfold dens; rw [← e]; exact bl_anti (by omega) hk.1 h
  · have hlt : dK t + 1 ≤ dK u := by unfold dK at e ⊢; split at e <;> split at e <;> (repeat (first | rw [if_pos (by omega)] | rw [if_neg (by omega)])) <;> omega
    have a1 := bl_dn (x0 := 2000 * dK t) (y0 := dA (dK t)) (x1 := 2000 * (dK t + 1)) (y1 := dA (dK t + 1)) t (by omega) hk.1
    have a2 := bl_dn (x0 := 2000 * dK u) (y0 := dA (dK u)) (x1 := 2000 * (dK u + 1)) (y1 := dA (dK u + 1)) u (by omega) hj.1
    have a3 := dA_anti (k := dK t + 1) (by omega) (dK u - (dK t + 1)).toNat (by omega)
    rw [show dK t + 1 + ((dK u - (dK t + 1)).toNat : Int) = dK u by omega] at a3
    unfold dens; omega
def evO (l f t : Int) : Prop := (0 ≤ l ∧ l ≤ 1000000000) ∧ (0 ≤ f ∧ f ≤ 18000) ∧ (0 ≤ t ∧ t ≤ 18000)
instance (l f t : Int) : Decidable (evO l f t) := by unfold evO; infer_instance
theorem mulL {l d : Int} (h : 0 ≤ l ∧ l ≤ 1000000000) (h2 : 88700 ≤ d ∧ d ≤ 99984) : 0 ≤ l * d ∧ l * d ≤ 1000000000 * 99984 := mulB (by omega) (by omega) (by omega) (by omega)
theorem ev_law {l f t v two s three : Int} (hv : v = if evO l f t then dr (l * dens f) (dens t) else 0) (h2 : two = if evO l f t then 0 else 2) (hs : s = if evO l f f then dr (l * dens f) (dens f) else 0) (h3 : three = if evO l f f then 0 else 2) :
    ¬ two = 0 ∨ (three = 0 ∧ s = l ∧ (t < f ∨ l ≤ v) ∧ (f < t ∨ v ≤ l)) := by
  by_cases h : evO l f t
  · right
    have h' : evO l f f := ⟨h.1, h.2.1, h.2.1⟩
    rw [if_pos h] at hv; rw [if_pos h'] at hs h3
    have df := dens_bd h.2.1.1
    have dt := dens_bd h.2.2.1
    have hl := h.1
    refine ⟨h3, by rw [hs, dr_mul (by omega)], ?_, ?_⟩
    · by_cases hft : f ≤ t
      · right
        have := dens_anti h.2.1.1 hft
        have h4 := dr_mono' (b := dens t) (by omega) (Int.mul_le_mul_of_nonneg_left this hl.1)
        rw [dr_mul (by omega)] at h4
        omega
      · left; omega
    · by_cases hft : t ≤ f
      · right
        have := dens_anti h.2.2.1 hft
        have h4 := dr_mono' (b := dens t) (by omega) (Int.mul_le_mul_of_nonneg_left this hl.1)
        rw [dr_mul (by omega)] at h4
        omega
      · left; omega
  · left; rw [if_neg h] at h2; omega
def hpO (h t : Int) : Prop := (-200000 ≤ h ∧ h ≤ 200000) ∧ (0 ≤ t ∧ t ≤ 18000)
instance (h t : Int) : Decidable (hpO h t) := by unfold hpO; infer_instance
theorem mulH {h d : Int} (hh : -200000 ≤ h ∧ h ≤ 200000) (h2 : 88700 ≤ d ∧ d ≤ 99984) : -(99984 * 200000) ≤ d * h ∧ d * h ≤ 99984 * 200000 := mulS (by omega) (by omega) (by omega) (by omega)
theorem hp_law {h t p four n five : Int} (hp : p = if hpO h t then dr (dens t * h * 981) 1000000 else 0) (h4 : four = if hpO h t then 0 else 2) (hn : n = if hpO (-h) t then dr (dens t * -h * 981) 1000000 else 0) (h5 : five = if hpO (-h) t then 0 else 2) :
    four = five ∧ p = -n ∧ -20000000000000 ≤ n ∧ n ≤ 20000000000000 := by
  by_cases h0 : hpO h t
  · have h1 : hpO (-h) t := ⟨by have := h0.1; omega, h0.2⟩
    rw [if_pos h0] at hp h4; rw [if_pos h1] at hn h5
    have hm := mulH h1.1 (dens_bd h0.2.1)
    have hb := dr_bound (a := dens t * -h * 981) (b := 1000000) (by omega)
    have e : dens t * h * 981 = -(dens t * -h * 981) := by rw [Int.mul_neg, Int.neg_mul]; omega
    rw [e, dr_neg (by omega)] at hp
    refine ⟨by omega, by omega, by omega, by omega⟩
  · have h1 : ¬ hpO (-h) t := fun h2 => h0 ⟨by have := h2.1; omega, h2.2⟩
    rw [if_neg h0] at hp h4; rw [if_neg h1] at hn h5
    omega
def enO (p m : Int) : Prop := (0 ≤ p ∧ p ≤ 100000000) ∧ (0 ≤ m ∧ m ≤ 1000000)
instance (p m : Int) : Decidable (enO p m) := by unfold enO; infer_instance
theorem mulE2 {p m : Int} (h : enO p m) : 0 ≤ p * m ∧ p * m ≤ 100000000 * 1000000 := mulB h.1.1 h.1.2 h.2.1 h.2.2
def enV (p m : Int) : Int := if enO p m then dr (p * m) 60 else 0
def enC (p m : Int) : Int := if enO p m then 0 else 2
theorem enV_bd {p m : Int} : 0 ≤ enV p m + 1 ∧ enV p m ≤ 100000000000001 := by
  unfold enV; split
  · rename_i h
    have h1 := mulE2 h
    have h2 := dr_spec (a := p * m) (b := 60) (by omega)
    omega
  · omega
theorem en_law {p m k a b c six seven eight : Int} (ha : a = enV p m) (h6 : six = enC p m) (hb : b = enV p k) (h7 : seven = enC p k) (hc : c = enV p (m - k)) (h8 : eight = enC p (m - k)) (hk : 0 ≤ m → 0 ≤ k ∧ k ≤ m) :
    (¬ six = 0 ∧ a = 0) ∨ (six = 0 ∧ seven = 0 ∧ eight = 0 ∧ -1 ≤ a - b - c ∧ a - b - c ≤ 1) := by
  unfold enV at ha hb hc; unfold enC at h6 h7 h8
  by_cases h : enO p m
  · right
    have hk2 := hk h.2.1
    have hm := h.2
    have h1 : enO p k := ⟨h.1, by omega⟩
    have h2 : enO p (m - k) := ⟨h.1, by omega⟩
    rw [if_pos h] at ha h6; rw [if_pos h1] at hb h7; rw [if_pos h2] at hc h8
    have e : p * m = p * k + p * (m - k) := by rw [← Int.mul_add]; congr 1; omega
    have a1 := dr_spec (a := p * m) (b := 60) (by omega)
    have a2 := dr_spec (a := p * k) (b := 60) (by omega)
    have a3 := dr_spec (a := p * (m - k)) (b := 60) (by omega)
    rw [← ha] at a1; rw [← hb] at a2; rw [← hc] at a3
    generalize p * m = x at *
    generalize p * k = y at *
    generalize p * (m - k) = z at *
    refine ⟨h6, h7, h8, by omega, by omega⟩
  · left
    rw [if_neg h] at ha h6
    omega
def smI (xs : List Int) : Nat → Int
  | 0 => 0
  | n + 1 => smI xs n + gd xs n
theorem smI_s {xs : List Int} {n : Nat} {u : Int} (h : xs[n]? = some u) : smI xs (n + 1) = smI xs n + u := by rw [smI, gd_eq h]
theorem smI_bd {xs : List Int} (hw : within xs 0 100000) : ∀ i : Nat, i ≤ xs.length → 0 ≤ smI xs i ∧ smI xs i ≤ i * 100000
  | 0, _ => by simp [smI]
  | i + 1, h => by
    have ih := smI_bd hw i (by omega)
    have hp : xs[i]? = some (xs[i]'(by omega)) := List.getElem?_eq_getElem (by omega)
    have := hw i _ hp
    rw [smI_s hp]; omega
def mwS (fs ts : List Int) : Nat → Int
  | 0 => 0
  | n + 1 => mwS fs ts n + gd fs n * gd ts n
theorem mwS_s {fs ts : List Int} {n : Nat} {u v : Int} (h : fs[n]? = some u) (h2 : ts[n]? = some v) : mwS fs ts (n + 1) = mwS fs ts n + u * v := by rw [mwS, gd_eq h, gd_eq h2]
theorem mul_ft {u v : Int} (h : 0 ≤ u ∧ u ≤ 100000) (h2 : 0 ≤ v ∧ v ≤ 18000) : 0 ≤ u * v ∧ u * v ≤ 100000 * 18000 := mulB h.1 h.2 h2.1 h2.2
theorem mwS_bd {fs ts : List Int} (hw : within fs 0 100000) (hw2 : within ts 0 18000) (hl : ts.length = fs.length) : ∀ i : Nat, i ≤ fs.length → 0 ≤ mwS fs ts i ∧ mwS fs ts i ≤ i * 1800000000
  | 0, _ => by simp [mwS]
  | i + 1, h => by
    have ih := mwS_bd hw hw2 hl i (by omega)
    have hp : fs[i]? = some (fs[i]'(by omega)) := List.getElem?_eq_getElem (by omega)
    have hq : ts[i]? = some (ts[i]'(by omega)) := List.getElem?_eq_getElem (by omega)
    have := mul_ft (hw i _ hp) (hw2 i _ hq)
    rw [mwS_s hp hq]; omega
theorem mwS_mid {fs ts : List Int} {lo hi : Int} (hw : within fs 0 100000) (hl : ts.length = fs.length) (hb : ∀ (j : Nat) (q : Int), ts[j]? = some q → lo ≤ q ∧ q ≤ hi) : ∀ i : Nat, i ≤ fs.length → lo * smI fs i ≤ mwS fs ts i ∧ mwS fs ts i ≤ hi * smI fs i
  | 0, _ => by simp [mwS, smI]
  | i + 1, h => by
    have ih := mwS_mid hw hl hb i (by omega)
    have hp : fs[i]? = some (fs[i]'(by omega)) := List.getElem?_eq_getElem (by omega)
    have hq : ts[i]? = some (ts[i]'(by omega)) := List.getElem?_eq_getElem (by omega)
    have h1 := hw i _ hp
    have h2 := hb i _ hq
    rw [mwS_s hp hq, smI_s hp]
    generalize fs[i]'(by omega) = u at h1
    generalize ts[i]'(by omega) = v at h2
    have a1 := Int.mul_le_mul_of_nonneg_right h2.1 h1.1
    have a2 := Int.mul_le_mul_of_nonneg_right h2.2 h1.1
    rw [Int.mul_comm v u] at a1 a2
    rw [Int.mul_add, Int.mul_add]
    omega
def mwO (fs ts : List Int) : Prop := (1 ≤ fs.length ∧ fs.length ≤ 64) ∧ ts.length = fs.length ∧ within fs 0 100000 ∧ within ts 0 18000
noncomputable instance (fs ts : List Int) : Decidable (mwO fs ts) := Classical.propDecidable _
noncomputable def mwC (fs ts : List Int) : Int := if mwO fs ts then (if smI fs fs.length = 0 then 6 else 0) else 2
noncomputable def mwV (fs ts : List Int) : Int := if mwC fs ts = 0 then dr (mwS fs ts fs.length) (smI fs fs.length) else 0
theorem mw_ok {fs ts : List Int} (h : mwC fs ts = 0) : mwO fs ts ∧ ¬ smI fs fs.length = 0 := by
  unfold mwC at h
  split at h
  · split at h
    · omega
    · exact ⟨by assumption, by assumption⟩
  · omega
theorem mw_law {fs ts : List Int} {lo hi : Int} (h : mwC fs ts = 0) (hb : ∀ (j : Nat) (q : Int), ts[j]? = some q → lo ≤ q ∧ q ≤ hi) : lo ≤ mwV fs ts ∧ mwV fs ts ≤ hi := by
  obtain ⟨⟨h1, h2, h3, h4⟩, h5⟩ := mw_ok h
  have hs := smI_bd h3 fs.length (Nat.le_refl _)
  have hm := mwS_mid h3 h2 hb fs.length (Nat.le_refl _)
  have hpos : 0 < smI fs fs.length := by omega
  have a1 := dr_mono' hpos hm.1
  have a2 := dr_mono' hpos hm.2
  rw [dr_mul hpos] at a1 a2
  unfold mwV; rw [if_pos h]
  exact ⟨a1, a2⟩
theorem tdiv2 {m : Int} : (0 ≤ m ∧ 0 ≤ m.tdiv 2 ∧ m.tdiv 2 ≤ m) ∨ (m < 0 ∧ m ≤ m.tdiv 2 ∧ m.tdiv 2 ≤ 0) := by
  by_cases h : 0 ≤ m
  · left; rw [Int.tdiv_eq_ediv_of_nonneg h]; omega
  · right
    have e : m.tdiv 2 = -((-m).tdiv 2) := by rw [Int.neg_tdiv]; omega
    rw [e, Int.tdiv_eq_ediv_of_nonneg (by omega)]; omega
theorem mmJ {T : List Int} {lo hi lo' hi' p : Int} {i : Nat} (hJ : ∀ (j : Nat) (q : Int), j < i → T[j]? = some q → lo ≤ q ∧ q ≤ hi) (hp : T[i]? = some p) (h1 : lo' ≤ lo ∧ lo' ≤ p) (h2 : hi ≤ hi' ∧ p ≤ hi') : ∀ (j : Nat) (q : Int), j < i + 1 → T[j]? = some q → lo' ≤ q ∧ q ≤ hi' := by
  intro j q hj hq
  by_cases e : j = i
  · subst e; rw [hp] at hq; cases hq; omega
  · have := hJ j q (by omega) hq; omega
theorem mmF {T : List Int} {lo hi : Int} {i : Nat} (hJ : ∀ (j : Nat) (q : Int), j < i → T[j]? = some q → lo ≤ q ∧ q ≤ hi) (hl : T.length ≤ i) : ∀ (j : Nat) (q : Int), T[j]? = some q → lo ≤ q ∧ q ≤ hi := fun j q hq => hJ j q (by have := (List.getElem?_eq_some_iff.1 hq).1; omega) hq
/-- The digits of a temperature's text, with and without its point; the text. -/
def dgD (n : Nat) : List UInt8 := Lib.decDigits (n / 100) ++ (Lib.decDigits (n / 10 % 10) ++ Lib.decDigits (n % 10))
def dgP (n : Nat) : List UInt8 := Lib.decDigits (n / 100) ++ 46 :: (Lib.decDigits (n / 10 % 10) ++ Lib.decDigits (n % 10))
def dgT (z : Int) : ByteArray := if z < 0 then tx (45 :: dgP z.natAbs) else tx (dgP z.natAbs)
def dgO (z : Int) : ByteArray := if -99999 ≤ z ∧ z ≤ 99999 then dgT z else ⟨#[]⟩
theorem dgO_y {z : Int} (h : -99999 ≤ z ∧ z ≤ 99999) : dgO z = dgT z := if_pos h
theorem dgO_n {z : Int} (h : ¬ (-99999 ≤ z ∧ z ≤ 99999)) : dgO z = ⟨#[]⟩ := if_neg h
theorem dgP_hd (n : Nat) : ∃ c l, dgP n = c :: l ∧ dig c := by
  obtain ⟨c, l, e⟩ := List.exists_cons_of_ne_nil (dec_ne (n / 100))
  exact ⟨c, l ++ 46 :: (Lib.decDigits (n / 10 % 10) ++ Lib.decDigits (n % 10)), by unfold dgP; rw [e]; rfl, dec_dig (n / 100) c (by rw [e]; simp)⟩
theorem dgT_ne (z : Int) : ¬ dgT z = ⟨#[]⟩ := by
  intro h
  have h2 : (dgT z).data.toList = [] := by rw [h]
  obtain ⟨c, l, e, -⟩ := dgP_hd z.natAbs
  unfold dgT at h2
  split at h2 <;> (rw [tx_data] at h2; first | (rw [e] at h2; cases h2) | cases h2)
theorem pre45 {c : UInt8} {l : List UInt8} (h : dig c) : Lib.hasPrefix (c :: l) [45] = false := by
  unfold dig at h
  unfold Lib.hasPrefix
  simp only [List.isPrefixOf, Bool.and_true, beq_eq_false_iff_ne]
  intro e; subst e; simp at h
theorem dgT_pre (z : Int) : Lib.hasPrefix (dgT z).data.toList [45] = decide (z < 0) := by
  obtain ⟨c, l, e, hc⟩ := dgP_hd z.natAbs
  unfold dgT
  by_cases h : z < 0
  · rw [if_pos h, tx_data]; simp [Lib.hasPrefix, h]
  · rw [if_neg h, tx_data, e, pre45 hc]; simp [h]
theorem dgT_trim (z : Int) : Lib.trimPrefix (dgT z).data.toList [45] = dgP z.natAbs := by
  have hp := dgT_pre z
  unfold Lib.trimPrefix
  rw [hp]
  unfold dgT
  by_cases h : z < 0
  · rw [if_pos h, tx_data]; simp [h]
  · rw [if_neg h, tx_data]; simp [h]
theorem idx46 : ∀ (l r : List UInt8), (∀ c ∈ l, dig c) → Lib.indexByte (l ++ 46 :: r) 46 = (l.length : Int)
  | [], r, _ => by simp [Lib.indexByte]
  | c :: l, r, h => by
    have hc := h c (by simp)
    unfold dig at hc
    have hne : (c == 46) = false := beq_eq_false_iff_ne.2 (fun e => by subst e; simp at hc)
    have ih := idx46 l r (fun x hx => h x (by simp [hx]))
    rw [List.cons_append, Lib.indexByte, hne, ih]
    have : ((l.length : Int) == -1) = false := beq_eq_false_iff_ne.2 (by omega)
    rw [this]
    simp
theorem rpl46 (l r : List UInt8) (h : ∀ c ∈ l, dig c) : Lib.replace (l ++ 46 :: r) [46] [] 1 = l ++ r := by
  have hi : Lib.index (l ++ 46 :: r) [46] = ((l.length : Nat) : Int) := by rw [Lib.index_one, idx46 l r h]
  have hc : Lib.count (l ++ 46 :: r) [46] ≥ 1 := by rw [Lib.count_one, List.count_append]; simp; omega
  unfold Lib.replace Lib.replaceNum
  rw [if_neg (by decide), if_neg (by omega)]
  show Lib.replaceK [46] [] (0 + 1) _ = _
  rw [Lib.replaceK_hit _ _ _ _ _ hi]
  simp [Lib.replaceK]
theorem dgP_rpl (n : Nat) : Lib.replace (dgP n) [46] [] 1 = dgD n := rpl46 _ _ (dec_dig _)
theorem trm_0 {c : UInt8} {l : List UInt8} (h : ¬ c.toNat = 48) : Lib.trimLeftB (c :: l) 48 = c :: l := by
  unfold Lib.trimLeftB
  rw [List.dropWhile_cons_of_neg]
  simp only [beq_iff_eq]
  intro e; subst e; exact h rfl
theorem trm_1 {l : List UInt8} : Lib.trimLeftB (48 :: l) 48 = Lib.trimLeftB l 48 := by
  unfold Lib.trimLeftB
  rw [List.dropWhile_cons_of_pos (by simp)]
theorem trm_d {u : Nat} {l : List UInt8} (h : 0 < u) : Lib.trimLeftB (Lib.decDigits u ++ l) 48 = Lib.decDigits u ++ l := by
  obtain ⟨c, r, e⟩ := List.exists_cons_of_ne_nil (dec_ne u)
  rw [e, List.cons_append]
  exact trm_0 (fun hc => by have := dec_head u (c := c) (by rw [e]; rfl) hc; omega)
theorem dec_z : Lib.decDigits 0 = [48] := by rw [Lib.decDigits, dif_pos (by omega)]; rfl
theorem dec_s {n : Nat} (h : 10 ≤ n) : Lib.decDigits n = Lib.decDigits (n / 10) ++ Lib.decDigits (n % 10) := by
  rw [Lib.decDigits_one (show n % 10 < 10 by omega)]
  conv => lhs; rw [Lib.decDigits, dif_neg (by omega)]
theorem dgD_trm (n : Nat) : Lib.trimLeftB (dgD n) 48 = if n = 0 then [] else Lib.decDigits n := by
  unfold dgD
  by_cases h100 : 100 ≤ n
  · rw [trm_d (by omega), if_neg (by omega), dec_s (show 10 ≤ n by omega)]
    have e : n / 10 / 10 = n / 100 := by omega
    rw [dec_s (show 10 ≤ n / 10 by omega), e, List.append_assoc]
  · have e1 : n / 100 = 0 := by omega
    rw [e1, dec_z, List.singleton_append, trm_1]
    by_cases h10 : 10 ≤ n
    · have e2 : n / 10 % 10 = n / 10 := by omega
      rw [e2, trm_d (by omega), if_neg (by omega), ← dec_s h10]
    · have e2 : n / 10 % 10 = 0 := by omega
      have e3 : n % 10 = n := by omega
      rw [e2, e3, dec_z, List.singleton_append, trm_1]
      by_cases h0 : n = 0
      · subst h0; rw [dec_z, trm_1, if_pos rfl]; rfl
      · have := trm_d (u := n) (l := []) (by omega)
        rw [List.append_nil] at this
        rw [this, if_neg h0]
theorem dec_nat (n : Nat) : dec (n : Int) = tx (Lib.decDigits n) := by unfold dec; rw [Lib.itoa_nonneg]
theorem rd_nat {n : Nat} (h : n ≤ 99999) : rdB (tx (Lib.decDigits n)) ∧ rdN (tx (Lib.decDigits n)) = (n : Int) := by
  rw [← dec_nat]; exact rdN_eq (by omega)
theorem rd_0 : rdB ⟨#[48]⟩ ∧ rdN ⟨#[48]⟩ = 0 := by
  have h := rd_nat (n := 0) (by omega)
  rw [dec_z] at h; exact h
theorem emp0 {n : Nat} (h : tx (if n = 0 then [] else Lib.decDigits n) = ⟨#[]⟩) : n = 0 := by
  by_cases hn : n = 0
  · exact hn
  · rw [if_neg hn] at h
    have h2 : (tx (Lib.decDigits n)).data.toList = [] := by rw [h]
    rw [tx_data] at h2
    exact absurd h2 (dec_ne n)
theorem dgO_e {x z : Int} (h : x = z) (hz : -99999 ≤ z ∧ z ≤ 99999) : dgO x = dgT z := by rw [h, dgO_y hz]
theorem dgT_of {z n : Int} {a b c : Int} (hn : n = (z.natAbs : Int)) (ha : a = n / 100) (hb : b = n / 10 % 10) (hc : c = n % 10) : dec a ++ ⟨#[46]⟩ ++ dec b ++ dec c = tx (dgP z.natAbs) := by
  have e1 : a = ((z.natAbs / 100 : Nat) : Int) := by omega
  have e2 : b = ((z.natAbs / 10 % 10 : Nat) : Int) := by omega
  have e3 : c = ((z.natAbs % 10 : Nat) : Int) := by omega
  rw [e1, e2, e3, dec_nat, dec_nat, dec_nat, show (⟨#[46]⟩ : ByteArray) = tx [46] from rfl, tx_app, tx_app, tx_app]
  unfold dgP
  simp
theorem dgT_T {z : Int} {s t : ByteArray} (h : z < 0) (hs : s = tx (dgP z.natAbs)) (ht : t = ⟨#[45]⟩ ++ s) : t = dgT z := by
  rw [ht, hs, show (⟨#[45]⟩ : ByteArray) = tx [45] from rfl, tx_app]
  unfold dgT; rw [if_pos h]; rfl
theorem dgT_F {z : Int} {s : ByteArray} (h : ¬ z < 0) (hs : s = tx (dgP z.natAbs)) : s = dgT z := by
  rw [hs]; unfold dgT; rw [if_neg h]
theorem boil_lh (p : Int) : 700 ≤ boil p ∧ boil p ≤ 18796 := by
  have b1 := bl_bd (x0 := 1000) (y0 := 700) (x1 := 2000) (y1 := 1750) p (by omega) (by omega)
  have b2 := bl_bd (x0 := 2000) (y0 := 1750) (x1 := 10000) (y1 := 4580) p (by omega) (by omega)
  have b3 := bl_bd (x0 := 10000) (y0 := 4580) (x1 := 50000) (y1 := 8135) p (by omega) (by omega)
  have b4 := bl_bd (x0 := 50000) (y0 := 8135) (x1 := 101325) (y1 := 9961) p (by omega) (by omega)
  have b5 := bl_bd (x0 := 101325) (y0 := 9961) (x1 := 200000) (y1 := 12023) p (by omega) (by omega)
  have b6 := bl_bd (x0 := 200000) (y0 := 12023) (x1 := 400000) (y1 := 14361) p (by omega) (by omega)
  have b7 := bl_bd (x0 := 400000) (y0 := 14361) (x1 := 600000) (y1 := 15883) p (by omega) (by omega)
  have b8 := bl_bd (x0 := 600000) (y0 := 15883) (x1 := 1000000) (y1 := 17988) p (by omega) (by omega)
  have b9 := bl_bd (x0 := 1000000) (y0 := 17988) (x1 := 1200000) (y1 := 18796) p (by omega) (by omega)
  unfold boil
  split
  · omega
  split
  · omega
  split
  · omega
  split
  · omega
  split
  · omega
  split
  · omega
  split
  · omega
  split <;> omega
theorem boil_lo (p : Int) : 700 ≤ boil p := (boil_lh p).1
theorem boil_hi (p : Int) : boil p ≤ 18796 := (boil_lh p).2
theorem boil_bd (p : Int) : -100000 ≤ boil p ∧ boil p ≤ 100000 := by
  rcases Int.le_total p 1200000 with h | h
  · have h1 := boil_mono h
    rw [boil_top] at h1
    have h3 : 700 ≤ boil p := boil_lo p
    omega
  · have h3 : boil p ≤ 18796 := boil_hi p
    have h4 : 700 ≤ boil p := boil_lo p
    omega
def ffO (p w c : Int) : Prop := (0 ≤ p ∧ p ≤ 100000000) ∧ (0 ≤ w ∧ w ≤ 18000) ∧ (0 ≤ c ∧ c ≤ w)
instance (p w c : Int) : Decidable (ffO p w c) := by unfold ffO; infer_instance
noncomputable def ffV (p w c : Int) : Int := lst (fun n => gP n w c ≥ p) 0 100000
noncomputable def ffC (p w c : Int) : Int := if ffO p w c then (if ffV p w c ≤ 100000 then 0 else 6) else 2
noncomputable def ffR (p w c : Int) : Int := if ffC p w c = 0 then ffV p w c else 0
theorem ff_0 {p w c : Int} (h : ffO p w c) (h2 : ffV p w c ≤ 100000) : ffC p w c = 0 ∧ ffR p w c = ffV p w c := by
  have e : ffC p w c = 0 := by unfold ffC; rw [if_pos h, if_pos h2]
  exact ⟨e, by unfold ffR; rw [if_pos e]⟩
theorem ff_6 {p w c : Int} (h : ffO p w c) (h2 : ¬ ffV p w c ≤ 100000) : ffC p w c = 6 ∧ ffR p w c = 0 := by
  have e : ffC p w c = 6 := by unfold ffC; rw [if_pos h, if_neg h2]
  exact ⟨e, by unfold ffR; rw [if_neg (by omega)]⟩
theorem ff_2 {p w c : Int} (h : ¬ ffO p w c) : ffC p w c = 2 ∧ ffR p w c = 0 := by
  have e : ffC p w c = 2 := by unfold ffC; rw [if_neg h]
  exact ⟨e, by unfold ffR; rw [if_neg (by omega)]⟩
theorem ff_law {p w c : Int} (h : ffC p w c = 0) : ffO p w c ∧ (0 ≤ ffR p w c ∧ ffR p w c ≤ 100000) ∧ gP (ffR p w c) w c ≥ p ∧ (ffR p w c > 0 → ¬ gP (ffR p w c - 1) w c ≥ p) := by
  by_cases ho : ffO p w c
  · by_cases h2 : ffV p w c ≤ 100000
    · rw [(ff_0 ho h2).2]
      obtain ⟨a, b, d, e⟩ := lst_spec (fun n => gP n w c ≥ p) (lo := 0) (hi := 100000) (by omega)
      exact ⟨ho, ⟨a, h2⟩, e h2, fun hp => d _ (by omega) (by unfold ffV at *; omega)⟩
    · have := (ff_6 ho h2).1; omega
  · have := (ff_2 ho).1; omega
theorem ifC0 {c : Prop} [Decidable c] {n : Int} (h : n = if c then 0 else 2) (h0 : n = 0) : c := by
  by_cases hc : c
  · exact hc
  · rw [if_neg hc] at h; omega
theorem fO125_0 : fOff Tryz.prog 125 0 = some 0 := by kernel_rfl
theorem fO125_1 : fOff Tryz.prog 125 1 = some 1 := by kernel_rfl
theorem fO125_2 : fOff Tryz.prog 125 2 = some 2 := by kernel_rfl
theorem hmix : Tryz.prog.follows .mixedOrders = true := by kernel_rfl
theorem pl125 : placesA Tryz.prog 125 = some [(0, 1), (1, 1), (2, 1)] := by kernel_rfl
theorem pl126 : placesA Tryz.prog 126 = some [(0, 1), (1, 1), (2, 1), (3, 1), (4, 1), (5, 1), (6, 1), (7, 1), (8, 1), (9, 1)] := by kernel_rfl
theorem pl128 : placesA Tryz.prog 128 = some [(0, 1), (1, 1)] := by kernel_rfl
theorem pl129 : placesA Tryz.prog 129 = some [(0, 2), (2, 2), (4, 2), (6, 2), (8, 2), (10, 2), (12, 2), (14, 2), (16, 2), (18, 2)] := by kernel_rfl
theorem sz123 : tSz Tryz.prog 123 = some 1 := by kernel_rfl
theorem sz126 : tSz Tryz.prog 126 = some 10 := by kernel_rfl
theorem sz129 : tSz Tryz.prog 129 = some 20 := by kernel_rfl
theorem sz3 : tSz Tryz.prog 3 = some 1 := by kernel_rfl
theorem tA123 : tAgg Tryz.prog 123 = some none := by kernel_rfl
theorem tA2 : tAgg Tryz.prog 2 = some none := by kernel_rfl
theorem tA22 : tAgg Tryz.prog 22 = some none := by kernel_rfl
theorem tA3 : tAgg Tryz.prog 3 = some none := by kernel_rfl
theorem tA5 : tAgg Tryz.prog 5 = some none := by kernel_rfl
theorem tA76 : tAgg Tryz.prog 76 = some none := by kernel_rfl
theorem tArr126 : tArr Tryz.prog 126 = some (10, 1) := by kernel_rfl
theorem tArr128 : tArr Tryz.prog 128 = some (2, 1) := by kernel_rfl
theorem tArr129 : tArr Tryz.prog 129 = some (10, 2) := by kernel_rfl
theorem tB4 : tIsBool Tryz.prog 4 = true := by kernel_rfl
theorem tE22 : tElem Tryz.prog 22 = some (5, 1) := by kernel_rfl
theorem tE50 : tElem Tryz.prog 50 = some (2, 1) := by kernel_rfl
theorem tEn126 : tElem Tryz.prog 126 = none := by kernel_rfl
theorem tEn128 : tElem Tryz.prog 128 = none := by kernel_rfl
theorem tEn129 : tElem Tryz.prog 129 = none := by kernel_rfl
theorem tEs22 : (tElem Tryz.prog 22).isSome = true := by kernel_rfl
theorem tEs50 : (tElem Tryz.prog 50).isSome = true := by kernel_rfl
theorem tIf147 : tIfc Tryz.prog 147 = true := by kernel_rfl
theorem tK123 : tKind Tryz.prog 123 = some .u64 := by kernel_rfl
theorem tK161 : tKind Tryz.prog 161 = some .u64 := by kernel_rfl
theorem tK2 : tKind Tryz.prog 2 = some .i64 := by kernel_rfl
theorem tK3 : tKind Tryz.prog 3 = some .i64 := by kernel_rfl
theorem tK5 : tKind Tryz.prog 5 = some .u8 := by kernel_rfl
theorem tStr9 : tIsStr Tryz.prog 9 = true := by kernel_rfl
theorem zA125 : zeroA Tryz.prog 125 = some [.nil, .s (.int .i64 0), .s (.int .u64 0)] := by kernel_rfl
theorem zA126 : zeroA Tryz.prog 126 = some [.s (.int .i64 0), .s (.int .i64 0), .s (.int .i64 0), .s (.int .i64 0), .s (.int .i64 0), .s (.int .i64 0), .s (.int .i64 0), .s (.int .i64 0), .s (.int .i64 0), .s (.int .i64 0)] := by kernel_rfl
theorem zA128 : zeroA Tryz.prog 128 = some [.s (.int .i64 0), .s (.int .i64 0)] := by kernel_rfl
theorem zA129 : zeroA Tryz.prog 129 = some [.s (.int .i64 0), .s (.int .i64 0), .s (.int .i64 0), .s (.int .i64 0), .s (.int .i64 0), .s (.int .i64 0), .s (.int .i64 0), .s (.int .i64 0), .s (.int .i64 0), .s (.int .i64 0), .s (.int .i64 0), .s (.int .i64 0), .s (.int .i64 0), .s (.int .i64 0), .s (.int .i64 0), .s (.int .i64 0), .s (.int .i64 0), .s (.int .i64 0), .s (.int .i64 0), .s (.int .i64 0)] := by kernel_rfl
theorem zA2 : zeroA Tryz.prog 2 = some [.s (.int .i64 0)] := by kernel_rfl

-- impl.within
theorem D_impl_within (a lo hi : Int)  : Den Tryz.prog 53 [.s (.int .i64 a), .s (.int .i64 lo), .s (.int .i64 hi)] (.s (.bool (decide (lo ≤ a ∧ a ≤ hi)))) := by
  refine den_of_good Tryz.func53 (by decide) rfl (Nat.le_of_ble_eq_true rfl) (Nat.le_of_ble_eq_true rfl) ?_
  refine good_seq fun K1 hK1 => ?_
  refine gr rfl ?_
  refine ea rfl (by conv=>lhs;whnf) ?_
  refine ev_nil (hK1 _ ?_); clear hK1
  refine good_seq fun K2 hK2 => ?_
  refine gr rfl ?_
  refine em rfl (by conv=>lhs;whnf) ?_
  refine em rfl (by conv=>lhs;whnf) ?_
  refine ei rfl rfl rfl ?_
  intro b3 hb3; cases b3
  · replace hb3 := dF hb3
    refine em rfl (by conv=>lhs;whnf) ?_
    refine ev_skip rfl ?_
    refine ev_skip rfl ?_
    refine ev_skip rfl ?_
    refine ev_q rfl (q_pickF rfl (by conv=>lhs;whnf) ?_)
    refine ea rfl (by conv=>lhs;whnf) ?_
    refine ev_nil (hK2 _ ?_); clear hK2
    refine good_ret ?_
    repeat first|refine thenQ_ret ?_|refine blockQ_ret ?_
    refine ret_tmp (st := _) rfl (by conv=>lhs;whnf) rfl ?_
    first | rfl | exact fT (by first | omega | grind) | exact fF (by first | omega | grind) | exact fT' (by first | omega | grind) | (exfalso; first | omega | grind)
  · replace hb3 := dT hb3
    refine em rfl (by conv=>lhs;whnf) ?_
    refine em rfl (by conv=>lhs;whnf) ?_
    refine em rfl (by conv=>lhs;whnf) ?_
    refine ei rfl rfl rfl ?_
    intro b4 hb4; cases b4
    · replace hb4 := dF hb4
      refine ev_q rfl (q_pickT rfl (by conv=>lhs;whnf) ?_)
      refine ea rfl (by conv=>lhs;whnf) ?_
      refine ev_nil (hK2 _ ?_); clear hK2
      refine good_ret ?_
      repeat first|refine thenQ_ret ?_|refine blockQ_ret ?_
      refine ret_tmp (st := _) rfl (by conv=>lhs;whnf) rfl ?_
      first | rfl | exact fT (by first | omega | grind) | exact fF (by first | omega | grind) | exact fT' (by first | omega | grind) | (exfalso; first | omega | grind)
    · replace hb4 := dT hb4
      refine ev_q rfl (q_pickT rfl (by conv=>lhs;whnf) ?_)
      refine ea rfl (by conv=>lhs;whnf) ?_
      refine ev_nil (hK2 _ ?_); clear hK2
      refine good_ret ?_
      repeat first|refine thenQ_ret ?_|refine blockQ_ret ?_
      refine ret_tmp (st := _) rfl (by conv=>lhs;whnf) rfl ?_
      first | rfl | exact fT (by first | omega | grind) | exact fF (by first | omega | grind) | exact fT' (by first | omega | grind) | (exfalso; first | omega | grind)

-- impl.waterOk
theorem D_impl_waterOk (a : Int)  : Den Tryz.prog 45 [.s (.int .i64 a)] (.s (.bool (decide (0 ≤ a ∧ a ≤ 18000)))) := by
  refine den_of_good Tryz.func45 (by decide) rfl (Nat.le_of_ble_eq_true rfl) (Nat.le_of_ble_eq_true rfl) ?_
  refine good_seq fun K1 hK1 => ?_
  refine gr rfl ?_
  refine ea rfl (by conv=>lhs;whnf) ?_
  refine ev_nil (hK1 _ ?_); clear hK1
  refine good_seq fun K2 hK2 => ?_
  refine gr rfl ?_
  refine em rfl (by conv=>lhs;whnf) ?_
  refine ev_q rfl (q_callB rfl rfl (rfl) (D_impl_within ..) ?_)
  intro b3 hb3; cases b3
  · first | replace hb3 := dF hb3 | skip
    refine ea rfl (by conv=>lhs;whnf) ?_
    refine ev_nil (hK2 _ ?_); clear hK2
    refine good_ret ?_
    repeat first|refine thenQ_ret ?_|refine blockQ_ret ?_
    refine ret_tmp (st := _) rfl (by conv=>lhs;whnf) rfl ?_
    first | rfl | exact fT (by first | omega | grind) | exact fF (by first | omega | grind) | exact fT' (by first | omega | grind) | (exfalso; first | omega | grind)
  · first | replace hb3 := dT hb3 | skip
    refine ea rfl (by conv=>lhs;whnf) ?_
    refine ev_nil (hK2 _ ?_); clear hK2
    refine good_ret ?_
    repeat first|refine thenQ_ret ?_|refine blockQ_ret ?_
    refine ret_tmp (st := _) rfl (by conv=>lhs;whnf) rfl ?_
    first | rfl | exact fT (by first | omega | grind) | exact fF (by first | omega | grind) | exact fT' (by first | omega | grind) | (exfalso; first | omega | grind)

-- spec.l01Div
theorem D_spec_l01Div (a b : Int) (ha : -4000000000000000000 ≤ a ∧ a ≤ 4000000000000000000) (hb : b ≠ 0 ∧ -1000000000000000000 ≤ b ∧ b ≤ 1000000000000000000) : Den Tryz.prog 177 [.s (.int .i64 a), .s (.int .i64 b)] (.s (.int .i64 (dr a b))) := by
  refine den_of_good Tryz.func177 (by decide) rfl (Nat.le_of_ble_eq_true rfl) (Nat.le_of_ble_eq_true rfl) ?_
  refine good_seq fun K1 hK1 => ?_
  refine gr rfl ?_
  refine ea rfl (by conv=>lhs;whnf) ?_
  refine ev_nil (hK1 _ ?_); clear hK1
  refine good_seq fun K2 hK2 => ?_
  refine good_seq fun K3 hK3 => ?_
  refine gr rfl ?_
  refine em rfl (by conv=>lhs;whnf) ?_
  refine ei rfl rfl rfl ?_
  intro b4 hb4; cases b4
  · replace hb4 := dF hb4
    refine ev_nil (hK3 _ ?_); clear hK3
    refine good_condF rfl ?_
    refine good_skip (hK2 _ ?_); clear hK2
    refine good_seq fun K5 hK5 => ?_
    refine good_seq fun K6 hK6 => ?_
    refine gr rfl ?_
    refine em rfl (by conv=>lhs;whnf) ?_
    refine ei rfl rfl rfl ?_
    intro b7 hb7; cases b7
    · replace hb7 := dF hb7
      refine ev_nil (hK6 _ ?_); clear hK6
      refine good_condF rfl ?_
      refine good_skip (hK5 _ ?_); clear hK5
      refine good_seq fun K8 hK8 => ?_
      refine gr rfl ?_
      refine em rfl (by conv=>lhs;whnf) ?_
      refine ei rfl rfl rfl ?_
      intro n9 hn9
      replace hn9 := in64 hn9 (by omega) (by omega)
      refine em rfl (by conv=>lhs;whnf) ?_
      refine ei rfl rfl rfl ?_
      intro n10 hn10
      replace hn10 := in64 hn10 (by omega) (by omega)
      refine em rfl (by conv=>lhs;whnf) ?_
      refine ei rfl rfl rfl ?_
      intro n11 hn11
      replace hn11 := in64 hn11 (by omega) (by omega)
      refine ei rfl rfl rfl ⟨by omega, ?_⟩
      intro n12 hn12
      first | replace hn12 := quoE hn12 (by omega) (by omega) | replace hn12 := quoT hn12 (by omega) (by omega)
      refine ea rfl (by conv=>lhs;whnf) ?_
      refine ev_nil (hK8 _ ?_); clear hK8
      refine good_ret ?_
      repeat first|refine thenQ_ret ?_|refine blockQ_ret ?_
      refine ret_tmp (st := _) rfl (by conv=>lhs;whnf) rfl ?_
      exact fI (by simp only [dr, drP]; subst_vars; first | rw [if_pos (by omega), if_pos (by omega)] | rw [if_pos (by omega), if_neg (by omega)] | rw [if_neg (by omega), if_pos (by omega)] | rw [if_neg (by omega), if_neg (by omega)])
    · replace hb7 := dT hb7
      refine ev_nil (hK6 _ ?_); clear hK6
      refine good_condT rfl ?_
      refine good_seq fun K13 hK13 => ?_
      refine gr rfl ?_
      refine em rfl (by conv=>lhs;whnf) ?_
      refine em rfl (by conv=>lhs;whnf) ?_
      refine ei rfl rfl rfl ?_
      intro n14 hn14
      replace hn14 := in64 hn14 (by omega) (by omega)
      refine ei rfl rfl rfl ?_
      intro n15 hn15
      replace hn15 := in64 hn15 (by omega) (by omega)
      refine em rfl (by conv=>lhs;whnf) ?_
      refine ei rfl rfl rfl ?_
      intro n16 hn16
      replace hn16 := in64 hn16 (by omega) (by omega)
      refine ei rfl rfl rfl ⟨by omega, ?_⟩
      intro n17 hn17
      first | replace hn17 := quoE hn17 (by omega) (by omega) | replace hn17 := quoT hn17 (by omega) (by omega)
      refine ev_q rfl (q_neg rfl ?_)
      intro n18 hn18
      have hd := divB (x := n15) (y := n16) (by omega) (by omega)
      rw [← hn17] at hd
      replace hn18 := neg64 hn18 (by omega) (by omega)
      refine ea rfl (by conv=>lhs;whnf) ?_
      refine ev_nil (hK13 _ ?_); clear hK13
      refine good_ret ?_
      repeat first|refine thenQ_ret ?_|refine blockQ_ret ?_
      refine ret_tmp (st := _) rfl (by conv=>lhs;whnf) rfl ?_
      clear hK5
      exact fI (by simp only [dr, drP]; subst_vars; first | rw [if_pos (by omega), if_pos (by omega)] | rw [if_pos (by omega), if_neg (by omega)] | rw [if_neg (by omega), if_pos (by omega)] | rw [if_neg (by omega), if_neg (by omega)])
  · replace hb4 := dT hb4
    refine ev_nil (hK3 _ ?_); clear hK3
    refine good_condT rfl ?_
    refine good_seq fun K19 hK19 => ?_
    refine gr rfl ?_
    refine em rfl (by conv=>lhs;whnf) ?_
    refine ev_q rfl (q_neg rfl ?_)
    intro n20 hn20
    replace hn20 := neg64 hn20 (by omega) (by omega)
    refine ea rfl (by conv=>lhs;whnf) ?_
    refine ev_nil (hK19 _ ?_); clear hK19
    refine gr rfl ?_
    refine em rfl (by conv=>lhs;whnf) ?_
    refine ev_q rfl (q_neg rfl ?_)
    intro n21 hn21
    replace hn21 := neg64 hn21 (by omega) (by omega)
    refine ea rfl (by conv=>lhs;whnf) ?_
    refine ev_nil (hK2 _ ?_); clear hK2
    refine good_seq fun K22 hK22 => ?_
    refine good_seq fun K23 hK23 => ?_
    refine gr rfl ?_
    refine em rfl (by conv=>lhs;whnf) ?_
    refine ei rfl rfl rfl ?_
    intro b24 hb24; cases b24
    · replace hb24 := dF hb24
      refine ev_nil (hK23 _ ?_); clear hK23
      refine good_condF rfl ?_
      refine good_skip (hK22 _ ?_); clear hK22
      refine good_seq fun K25 hK25 => ?_
      refine gr rfl ?_
      refine em rfl (by conv=>lhs;whnf) ?_
      refine ei rfl rfl rfl ?_
      intro n26 hn26
      replace hn26 := in64 hn26 (by omega) (by omega)
      refine em rfl (by conv=>lhs;whnf) ?_
      refine ei rfl rfl rfl ?_
      intro n27 hn27
      replace hn27 := in64 hn27 (by omega) (by omega)
      refine em rfl (by conv=>lhs;whnf) ?_
      refine ei rfl rfl rfl ?_
      intro n28 hn28
      replace hn28 := in64 hn28 (by omega) (by omega)
      refine ei rfl rfl rfl ⟨by omega, ?_⟩
      intro n29 hn29
      first | replace hn29 := quoE hn29 (by omega) (by omega) | replace hn29 := quoT hn29 (by omega) (by omega)
      refine ea rfl (by conv=>lhs;whnf) ?_
      refine ev_nil (hK25 _ ?_); clear hK25
      refine good_ret ?_
      repeat first|refine thenQ_ret ?_|refine blockQ_ret ?_
      refine ret_tmp (st := _) rfl (by conv=>lhs;whnf) rfl ?_
      exact fI (by simp only [dr, drP]; subst_vars; first | rw [if_pos (by omega), if_pos (by omega)] | rw [if_pos (by omega), if_neg (by omega)] | rw [if_neg (by omega), if_pos (by omega)] | rw [if_neg (by omega), if_neg (by omega)])
    · replace hb24 := dT hb24
      refine ev_nil (hK23 _ ?_); clear hK23
      refine good_condT rfl ?_
      refine good_seq fun K30 hK30 => ?_
      refine gr rfl ?_
      refine em rfl (by conv=>lhs;whnf) ?_
      refine em rfl (by conv=>lhs;whnf) ?_
      refine ei rfl rfl rfl ?_
      intro n31 hn31
      replace hn31 := in64 hn31 (by omega) (by omega)
      refine ei rfl rfl rfl ?_
      intro n32 hn32
      replace hn32 := in64 hn32 (by omega) (by omega)
      refine em rfl (by conv=>lhs;whnf) ?_
      refine ei rfl rfl rfl ?_
      intro n33 hn33
      replace hn33 := in64 hn33 (by omega) (by omega)
      refine ei rfl rfl rfl ⟨by omega, ?_⟩
      intro n34 hn34
      first | replace hn34 := quoE hn34 (by omega) (by omega) | replace hn34 := quoT hn34 (by omega) (by omega)
      refine ev_q rfl (q_neg rfl ?_)
      intro n35 hn35
      have hd := divB (x := n32) (y := n33) (by omega) (by omega)
      rw [← hn34] at hd
      replace hn35 := neg64 hn35 (by omega) (by omega)
      refine ea rfl (by conv=>lhs;whnf) ?_
      refine ev_nil (hK30 _ ?_); clear hK30
      refine good_ret ?_
      repeat first|refine thenQ_ret ?_|refine blockQ_ret ?_
      refine ret_tmp (st := _) rfl (by conv=>lhs;whnf) rfl ?_
      clear hK22
      exact fI (by simp only [dr, drP]; subst_vars; first | rw [if_pos (by omega), if_pos (by omega)] | rw [if_pos (by omega), if_neg (by omega)] | rw [if_neg (by omega), if_pos (by omega)] | rw [if_neg (by omega), if_neg (by omega)])

-- impl.abs
theorem D_impl_abs (a : Int) (h : -9223372036854775807 ≤ a ∧ a ≤ 9223372036854775807) : Den Tryz.prog 57 [.s (.int .i64 a)] (.s (.int .i64 ((a.natAbs : Int)))) := by
  refine den_of_good Tryz.func57 (by decide) rfl (Nat.le_of_ble_eq_true rfl) (Nat.le_of_ble_eq_true rfl) ?_
  refine good_seq fun K1 hK1 => ?_
  refine gr rfl ?_
  refine ea rfl (by conv=>lhs;whnf) ?_
  refine ev_nil (hK1 _ ?_); clear hK1
  refine good_seq fun K2 hK2 => ?_
  refine gr rfl ?_
  refine em rfl (by conv=>lhs;whnf) ?_
  refine em rfl (by conv=>lhs;whnf) ?_
  refine ev_q rfl (q_neg rfl ?_)
  intro n3 hn3
  replace hn3 := neg64 hn3 (by omega) (by omega)
  refine ev_q rfl (q_max rfl rfl ?_)
  intro n4 hn4; simp only [mxI, mnI] at hn4
  refine ea rfl (by conv=>lhs;whnf) ?_
  refine ev_nil (hK2 _ ?_); clear hK2
  refine good_ret ?_
  repeat first|refine thenQ_ret ?_|refine blockQ_ret ?_
  refine ret_tmp (st := _) rfl (by conv=>lhs;whnf) rfl ?_
  first | rfl | exact fI (by first | omega | grind) | (exfalso; first | omega | grind)

-- impl.divRound
theorem D_impl_divRound (a b : Int) (ha : -4000000000000000000 ≤ a ∧ a ≤ 4000000000000000000) (hb : b ≠ 0 ∧ -1000000000000000000 ≤ b ∧ b ≤ 1000000000000000000) : Den Tryz.prog 112 [.s (.int .i64 a), .s (.int .i64 b)] (.s (.int .i64 (dr a b))) := by
  refine den_of_good Tryz.func112 (by decide) rfl (Nat.le_of_ble_eq_true rfl) (Nat.le_of_ble_eq_true rfl) ?_
  refine good_seq fun K1 hK1 => ?_
  refine gr rfl ?_
  refine ea rfl (by conv=>lhs;whnf) ?_
  refine ev_nil (hK1 _ ?_); clear hK1
  refine good_seq fun K2 hK2 => ?_
  refine good_draw 9 hmix (by kernel_rfl) rfl ?_
  refine qm rfl (by conv=>lhs;whnf) ?_
  refine qm rfl (by conv=>lhs;whnf) ?_
  refine qo_q rfl (q_int rfl rfl ⟨by omega, ?_⟩)
  intro n3 hn3
  replace hn3 := quoT hn3 (by omega) (by omega)
  have ht := tdiv_le (a := a) (b := b)
  rw [← hn3] at ht
  refine qm rfl (by conv=>lhs;whnf) ?_
  refine qm rfl (by conv=>lhs;whnf) ?_
  refine qo_q rfl (q_int rfl rfl ⟨by omega, ?_⟩)
  intro n4 hn4
  have hm := tmod_lt' (a := a) (b := b) (by omega)
  rw [← hn4] at hm
  refine qo_q rfl (q_callI rfl rfl (rfl) (D_impl_abs _ (by omega)) ?_)
  intro n5 hn5
  refine qa rfl (by conv=>lhs;whnf) ?_
  refine qa rfl (by conv=>lhs;whnf) ?_
  refine qo_nil ?_
  refine ev_nil (hK2 _ ?_); clear hK2
  refine good_seq fun K6 hK6 => ?_
  refine good_seq fun K7 hK7 => ?_
  refine gr rfl ?_
  refine em rfl (by conv=>lhs;whnf) ?_
  refine em rfl (by conv=>lhs;whnf) ?_
  refine ev_q rfl (q_callI rfl rfl (rfl) (D_impl_abs _ (by omega)) ?_)
  intro n8 hn8
  refine em rfl (by conv=>lhs;whnf) ?_
  refine ei rfl rfl rfl ?_
  intro n9 hn9
  replace hn9 := in64 hn9 (by omega) (by omega)
  refine ei rfl rfl rfl ?_
  intro b10 hb10; cases b10
  · replace hb10 := dF hb10
    refine ev_nil (hK7 _ ?_); clear hK7
    refine good_condF rfl ?_
    refine good_skip (hK6 _ ?_); clear hK6
    refine good_seq fun K11 hK11 => ?_
    refine gr rfl ?_
    refine em rfl (by conv=>lhs;whnf) ?_
    refine ea rfl (by conv=>lhs;whnf) ?_
    refine ev_nil (hK11 _ ?_); clear hK11
    refine good_ret ?_
    repeat first|refine thenQ_ret ?_|refine blockQ_ret ?_
    refine ret_tmp (st := _) rfl (by conv=>lhs;whnf) rfl ?_
    exact fI (by rw [dr_eq (q := n3) (r := n5) (by omega) hn3 (by rw [hn5, hn4])]; first | (rw [if_neg (by omega)]) | (rw [if_pos (by omega)]; first | (rw [if_pos (decide_eq_decide.2 (by omega))]; omega) | (rw [if_neg (fun h => by have := decide_eq_decide.1 h; omega)]; omega)))
  · replace hb10 := dT hb10
    refine ev_nil (hK7 _ ?_); clear hK7
    refine good_condT rfl ?_
    refine good_seq fun K12 hK12 => ?_
    refine good_seq fun K13 hK13 => ?_
    refine gr rfl ?_
    refine em rfl (by conv=>lhs;whnf) ?_
    refine ei rfl rfl rfl ?_
    intro b14 hb14; cases b14
    · replace hb14 := dF hb14
      refine em rfl (by conv=>lhs;whnf) ?_
      refine ei rfl rfl rfl ?_
      intro b15 hb15; cases b15
      · replace hb15 := dF hb15
        refine ev_q rfl (q_beq tB4 rfl rfl ?_)
        intro b16 hb16; replace hb16 : b16 = true := hb16; subst hb16
        refine ev_nil (hK13 _ ?_); clear hK13
        refine good_condT rfl ?_
        refine good_seq fun K17 hK17 => ?_
        refine gr rfl ?_
        refine em rfl (by conv=>lhs;whnf) ?_
        refine ei rfl rfl rfl ?_
        intro n18 hn18
        replace hn18 := in64 hn18 (by omega) (by omega)
        refine ea rfl (by conv=>lhs;whnf) ?_
        refine ev_nil (hK17 _ ?_); clear hK17
        refine good_ret ?_
        repeat first|refine thenQ_ret ?_|refine blockQ_ret ?_
        refine ret_tmp (st := _) rfl (by conv=>lhs;whnf) rfl ?_
        clear hK6 hK12
        exact fI (by rw [dr_eq (q := n3) (r := n5) (by omega) hn3 (by rw [hn5, hn4])]; first | (rw [if_neg (by omega)]) | (rw [if_pos (by omega)]; first | (rw [if_pos (decide_eq_decide.2 (by omega))]; omega) | (rw [if_neg (fun h => by have := decide_eq_decide.1 h; omega)]; omega)))
      · replace hb15 := dT hb15
        refine ev_q rfl (q_beq tB4 rfl rfl ?_)
        intro b19 hb19; replace hb19 : b19 = false := hb19; subst hb19
        refine ev_nil (hK13 _ ?_); clear hK13
        refine good_condF rfl ?_
        refine good_skip (hK12 _ ?_); clear hK12
        refine good_seq fun K20 hK20 => ?_
        refine gr rfl ?_
        refine em rfl (by conv=>lhs;whnf) ?_
        refine ei rfl rfl rfl ?_
        intro n21 hn21
        replace hn21 := in64 hn21 (by omega) (by omega)
        refine ea rfl (by conv=>lhs;whnf) ?_
        refine ev_nil (hK20 _ ?_); clear hK20
        refine good_ret ?_
        repeat first|refine thenQ_ret ?_|refine blockQ_ret ?_
        refine ret_tmp (st := _) rfl (by conv=>lhs;whnf) rfl ?_
        clear hK6
        exact fI (by rw [dr_eq (q := n3) (r := n5) (by omega) hn3 (by rw [hn5, hn4])]; first | (rw [if_neg (by omega)]) | (rw [if_pos (by omega)]; first | (rw [if_pos (decide_eq_decide.2 (by omega))]; omega) | (rw [if_neg (fun h => by have := decide_eq_decide.1 h; omega)]; omega)))
    · replace hb14 := dT hb14
      refine em rfl (by conv=>lhs;whnf) ?_
      refine ei rfl rfl rfl ?_
      intro b22 hb22; cases b22
      · replace hb22 := dF hb22
        refine ev_q rfl (q_beq tB4 rfl rfl ?_)
        intro b23 hb23; replace hb23 : b23 = false := hb23; subst hb23
        refine ev_nil (hK13 _ ?_); clear hK13
        refine good_condF rfl ?_
        refine good_skip (hK12 _ ?_); clear hK12
        refine good_seq fun K24 hK24 => ?_
        refine gr rfl ?_
        refine em rfl (by conv=>lhs;whnf) ?_
        refine ei rfl rfl rfl ?_
        intro n25 hn25
        replace hn25 := in64 hn25 (by omega) (by omega)
        refine ea rfl (by conv=>lhs;whnf) ?_
        refine ev_nil (hK24 _ ?_); clear hK24
        refine good_ret ?_
        repeat first|refine thenQ_ret ?_|refine blockQ_ret ?_
        refine ret_tmp (st := _) rfl (by conv=>lhs;whnf) rfl ?_
        clear hK6
        exact fI (by rw [dr_eq (q := n3) (r := n5) (by omega) hn3 (by rw [hn5, hn4])]; first | (rw [if_neg (by omega)]) | (rw [if_pos (by omega)]; first | (rw [if_pos (decide_eq_decide.2 (by omega))]; omega) | (rw [if_neg (fun h => by have := decide_eq_decide.1 h; omega)]; omega)))
      · replace hb22 := dT hb22
        refine ev_q rfl (q_beq tB4 rfl rfl ?_)
        intro b26 hb26; replace hb26 : b26 = true := hb26; subst hb26
        refine ev_nil (hK13 _ ?_); clear hK13
        refine good_condT rfl ?_
        refine good_seq fun K27 hK27 => ?_
        refine gr rfl ?_
        refine em rfl (by conv=>lhs;whnf) ?_
        refine ei rfl rfl rfl ?_
        intro n28 hn28
        replace hn28 := in64 hn28 (by omega) (by omega)
        refine ea rfl (by conv=>lhs;whnf) ?_
        refine ev_nil (hK27 _ ?_); clear hK27
        refine good_ret ?_
        repeat first|refine thenQ_ret ?_|refine blockQ_ret ?_
        refine ret_tmp (st := _) rfl (by conv=>lhs;whnf) rfl ?_
        clear hK6 hK12
        exact fI (by rw [dr_eq (q := n3) (r := n5) (by omega) hn3 (by rw [hn5, hn4])]; first | (rw [if_neg (by omega)]) | (rw [if_pos (by omega)]; first | (rw [if_pos (decide_eq_decide.2 (by omega))]; omega) | (rw [if_neg (fun h => by have := decide_eq_decide.1 h; omega)]; omega)))

theorem blB {x0 y0 x1 y1 x : Int} (h0 : -10000000 ≤ x0 ∧ x0 ≤ 10000000) (h1 : -10000000 ≤ y0 ∧ y0 ≤ 10000000) (h2 : -10000000 ≤ x1 ∧ x1 ≤ 10000000) (h3 : -10000000 ≤ y1 ∧ y1 ≤ 10000000) (h4 : x0 < x) (h5 : x < x1) : (-400000000000000 ≤ (y1 - y0) * (x - x0) ∧ (y1 - y0) * (x - x0) ≤ 400000000000000) ∧ (-400000000000001 ≤ dr ((y1 - y0) * (x - x0)) (x1 - x0) ∧ dr ((y1 - y0) * (x - x0)) (x1 - x0) ≤ 400000000000001) := by
  have a1 := mulS (a := y1 - y0) (b := x - x0) (A := 20000000) (B := 20000000) (by omega) (by omega) (by omega) (by omega)
  have a2 := dr_bound (a := (y1 - y0) * (x - x0)) (b := x1 - x0) (by omega)
  exact ⟨by omega, by omega⟩

-- impl.blend
theorem D_impl_blend (x0 y0 x1 y1 x : Int) (h0 : -10000000 ≤ x0 ∧ x0 ≤ 10000000) (h1 : -10000000 ≤ y0 ∧ y0 ≤ 10000000) (h2 : -10000000 ≤ x1 ∧ x1 ≤ 10000000) (h3 : -10000000 ≤ y1 ∧ y1 ≤ 10000000) : Den Tryz.prog 107 [.s (.int .i64 x0), .s (.int .i64 y0), .s (.int .i64 x1), .s (.int .i64 y1), .s (.int .i64 x)] (.s (.int .i64 (bl x0 y0 x1 y1 x))) := by
  refine den_of_good Tryz.func107 (by decide) rfl (Nat.le_of_ble_eq_true rfl) (Nat.le_of_ble_eq_true rfl) ?_
  refine good_seq fun K1 hK1 => ?_
  refine gr rfl ?_
  refine ea rfl (by conv=>lhs;whnf) ?_
  refine ev_nil (hK1 _ ?_); clear hK1
  refine good_seq fun K2 hK2 => ?_
  refine good_block ?_
  refine good_seq fun K3 hK3 => ?_
  refine gr rfl ?_
  refine em rfl (by conv=>lhs;whnf) ?_
  refine em rfl (by conv=>lhs;whnf) ?_
  refine ei rfl rfl rfl ?_
  intro b4 hb4; cases b4
  · replace hb4 := dF hb4
    refine em rfl (by conv=>lhs;whnf) ?_
    refine em rfl (by conv=>lhs;whnf) ?_
    refine em rfl (by conv=>lhs;whnf) ?_
    refine ei rfl rfl rfl ?_
    intro b5 hb5; cases b5
    · replace hb5 := dF hb5
      refine ev_q rfl (q_pickF rfl (by conv=>lhs;whnf) ?_)
      refine ea rfl (by conv=>lhs;whnf) ?_
      refine ev_nil (hK3 _ ?_); clear hK3
      refine good_condF rfl ?_
      refine good_seq fun K6 hK6 => ?_
      refine gr rfl ?_
      refine em rfl (by conv=>lhs;whnf) ?_
      refine em rfl (by conv=>lhs;whnf) ?_
      refine ei rfl rfl rfl ?_
      intro b7 hb7; cases b7
      · replace hb7 := dF hb7
        refine ea rfl (by conv=>lhs;whnf) ?_
        refine ev_nil (hK6 _ ?_); clear hK6
        refine good_condF rfl ?_
        refine good_skip (hK2 _ ?_); clear hK2
        refine good_seq fun K8 hK8 => ?_
        refine gr rfl ?_
        refine em rfl (by conv=>lhs;whnf) ?_
        refine em rfl (by conv=>lhs;whnf) ?_
        refine em rfl (by conv=>lhs;whnf) ?_
        refine ei rfl rfl rfl ?_
        intro n9 hn9
        have hb := blB h0 h1 h2 h3 (x := x) (by omega) (by omega)
        replace hn9 := in64 hn9 (by omega) (by omega)
        refine em rfl (by conv=>lhs;whnf) ?_
        refine em rfl (by conv=>lhs;whnf) ?_
        refine ei rfl rfl rfl ?_
        intro n10 hn10
        replace hn10 := in64 hn10 (by omega) (by omega)
        refine ei rfl rfl rfl ?_
        intro n11 hn11
        rw [hn9, hn10] at hn11
        replace hn11 := in64 hn11 (by omega) (by omega)
        refine em rfl (by conv=>lhs;whnf) ?_
        refine em rfl (by conv=>lhs;whnf) ?_
        refine ei rfl rfl rfl ?_
        intro n12 hn12
        replace hn12 := in64 hn12 (by omega) (by omega)
        refine ev_q rfl (q_callI rfl rfl (rfl) (D_impl_divRound _ _ (by omega) (by omega)) ?_)
        intro n13 hn13
        rw [hn11, hn12] at hn13
        refine ei rfl rfl rfl ?_
        intro n14 hn14
        replace hn14 := in64 hn14 (by omega) (by omega)
        refine ea rfl (by conv=>lhs;whnf) ?_
        refine ev_nil (hK8 _ ?_); clear hK8
        refine good_ret ?_
        repeat first|refine thenQ_ret ?_|refine blockQ_ret ?_
        refine ret_tmp (st := _) rfl (by conv=>lhs;whnf) rfl ?_
        exact fI (by unfold bl; first | rw [if_pos (by omega)] | rw [if_neg (by omega), if_pos (by omega)] | (rw [if_neg (by omega), if_neg (by omega)]; omega))
      · replace hb7 := dT hb7
        refine ea rfl (by conv=>lhs;whnf) ?_
        refine ev_nil (hK6 _ ?_); clear hK6
        refine good_condT rfl ?_
        refine good_seq fun K15 hK15 => ?_
        refine gr rfl ?_
        refine em rfl (by conv=>lhs;whnf) ?_
        refine ea rfl (by conv=>lhs;whnf) ?_
        refine ev_nil (hK15 _ ?_); clear hK15
        refine good_ret ?_
        repeat first|refine thenQ_ret ?_|refine blockQ_ret ?_
        refine ret_tmp (st := _) rfl (by conv=>lhs;whnf) rfl ?_
        clear hK2
        exact fI (by unfold bl; first | rw [if_pos (by omega)] | rw [if_neg (by omega), if_pos (by omega)] | (rw [if_neg (by omega), if_neg (by omega)]; omega))
    · replace hb5 := dT hb5
      refine ev_q rfl (q_pickF rfl (by conv=>lhs;whnf) ?_)
      refine ea rfl (by conv=>lhs;whnf) ?_
      refine ev_nil (hK3 _ ?_); clear hK3
      refine good_condT rfl ?_
      refine good_seq fun K16 hK16 => ?_
      refine gr rfl ?_
      refine em rfl (by conv=>lhs;whnf) ?_
      refine ea rfl (by conv=>lhs;whnf) ?_
      refine ev_nil (hK16 _ ?_); clear hK16
      refine good_ret ?_
      repeat first|refine thenQ_ret ?_|refine blockQ_ret ?_
      refine ret_tmp (st := _) rfl (by conv=>lhs;whnf) rfl ?_
      clear hK2
      exact fI (by unfold bl; first | rw [if_pos (by omega)] | rw [if_neg (by omega), if_pos (by omega)] | (rw [if_neg (by omega), if_neg (by omega)]; omega))
  · replace hb4 := dT hb4
    refine em rfl (by conv=>lhs;whnf) ?_
    refine ev_skip rfl ?_
    refine ev_skip rfl ?_
    refine ev_skip rfl ?_
    refine ev_q rfl (q_pickT rfl (by conv=>lhs;whnf) ?_)
    refine ea rfl (by conv=>lhs;whnf) ?_
    refine ev_nil (hK3 _ ?_); clear hK3
    refine good_condT rfl ?_
    refine good_seq fun K17 hK17 => ?_
    refine gr rfl ?_
    refine em rfl (by conv=>lhs;whnf) ?_
    refine ea rfl (by conv=>lhs;whnf) ?_
    refine ev_nil (hK17 _ ?_); clear hK17
    refine good_ret ?_
    repeat first|refine thenQ_ret ?_|refine blockQ_ret ?_
    refine ret_tmp (st := _) rfl (by conv=>lhs;whnf) rfl ?_
    clear hK2
    exact fI (by unfold bl; first | rw [if_pos (by omega)] | rw [if_neg (by omega), if_pos (by omega)] | (rw [if_neg (by omega), if_neg (by omega)]; omega))

-- impl.waterDensity
theorem D_impl_waterDensity (x : Int) (hx : 0 ≤ x ∧ x ≤ 18000) : Den Tryz.prog 46 [.s (.int .i64 x)] (.s (.int .i64 (dens x))) := by
  have hkb := dK_bd hx.1
  have hdd := dA_dec hkb.1 hkb.2
  have hg0 := dnT_get (k := dK x) (by omega) (by omega)
  have hg1 := dnT_get (k := dK x + 1) (by omega) (by omega)
  refine den_of_good Tryz.func46 (by decide) rfl (Nat.le_of_ble_eq_true rfl) (Nat.le_of_ble_eq_true rfl) ?_
  refine good_seq fun K1 hK1 => ?_
  refine gr rfl ?_
  refine ea rfl (by conv=>lhs;whnf) ?_
  refine ev_nil (hK1 _ ?_); clear hK1
  refine good_seq fun K2 hK2 => ?_
  refine gr rfl ?_
  refine ev_k rfl (k_build (cs := dnC) zA126 pl126 (by kernel_rfl) ?_)
  refine ev_k rfl (k_alloc zA126 rfl ?_)
  refine ev_k rfl (k_store sz126 rfl (by conv=>lhs;whnf) rfl rfl rfl (Nat.le_of_ble_eq_true rfl) rfl ?_)
  refine ev_nil (hK2 _ ?_); clear hK2
  refine good_seq fun K3 hK3 => ?_
  refine gr rfl ?_
  refine em rfl (by conv=>lhs;whnf) ?_
  refine ei rfl rfl rfl ⟨by omega, ?_⟩
  intro n4 hn4
  first | replace hn4 := quoE hn4 (by omega) (by omega) | replace hn4 := quoT hn4 (by omega) (by omega)
  refine ev_q rfl (q_min rfl rfl ?_)
  intro n5 hn5; simp only [mxI, mnI] at hn5
  refine ea rfl (by conv=>lhs;whnf) ?_
  refine ev_nil (hK3 _ ?_); clear hK3
  refine good_seq fun K6 hK6 => ?_
  refine good_draw 15 hmix (by kernel_rfl) rfl ?_
  have ek : n5 = dK x := by (unfold dK; first | omega | (split <;> omega))
  refine qm rfl (by conv=>lhs;whnf) ?_
  refine qo_q rfl (q_int rfl rfl ?_)
  intro n7 hn7
  replace hn7 := in64 hn7 (by omega) (by omega)
  refine qm rfl (by conv=>lhs;whnf) ?_
  refine qo_q rfl (q_idxA tEn126 tArr126 rfl rfl (by omega) (by omega) rfl ?_)
  refine qo_q rfl (q_loadI tA2 rfl rfl (dn_get hg0 (by omega)) ?_)
  refine qm rfl (by conv=>lhs;whnf) ?_
  refine qo_q rfl (q_int rfl rfl ?_)
  intro n8 hn8
  replace hn8 := in64 hn8 (by omega) (by omega)
  refine qo_q rfl (q_int rfl rfl ?_)
  intro n9 hn9
  replace hn9 := in64 hn9 (by omega) (by omega)
  refine qm rfl (by conv=>lhs;whnf) ?_
  refine qo_q rfl (q_int rfl rfl ?_)
  intro n10 hn10
  replace hn10 := in64 hn10 (by omega) (by omega)
  refine qo_q rfl (q_idxA tEn126 tArr126 rfl rfl (by omega) (by omega) rfl ?_)
  refine qo_q rfl (q_loadI tA2 rfl rfl (dn_get hg1 (by omega)) ?_)
  refine qm rfl (by conv=>lhs;whnf) ?_
  refine qo_q rfl (q_callI rfl rfl (rfl) (D_impl_blend _ _ _ _ _ (by omega) (by omega) (by omega) (by omega)) ?_)
  intro n11 hn11
  refine qa rfl (by conv=>lhs;whnf) ?_
  refine qo_nil ?_
  refine ev_nil (hK6 _ ?_); clear hK6
  refine good_ret ?_
  repeat first|refine thenQ_ret ?_|refine blockQ_ret ?_
  refine ret_tmp (st := _) rfl (by conv=>lhs;whnf) rfl ?_
  exact fI (by rw [hn11]; unfold dens; first | (rw [hn7, hn9, hn8, ek]; done) | grind)

-- impl.WaterDensity
theorem D_impl_WaterDensity (t : Int)  : Den Tryz.prog 8 [.s (.int .i64 t)] (.tup [.s (.int .i64 (if 0 ≤ t ∧ t ≤ 18000 then dens t else 0)), .s (.int .i64 (if 0 ≤ t ∧ t ≤ 18000 then 0 else 2))]) := by
  refine den_of_good Tryz.func8 (by decide) rfl (Nat.le_of_ble_eq_true rfl) (Nat.le_of_ble_eq_true rfl) ?_
  refine good_seq fun K1 hK1 => ?_
  refine gr rfl ?_
  refine ea rfl (by conv=>lhs;whnf) ?_
  refine ea rfl (by conv=>lhs;whnf) ?_
  refine ev_nil (hK1 _ ?_); clear hK1
  refine good_seq fun K2 hK2 => ?_
  refine good_seq fun K3 hK3 => ?_
  refine gr rfl ?_
  refine em rfl (by conv=>lhs;whnf) ?_
  refine ev_q rfl (q_callB rfl rfl (rfl) (D_impl_waterOk ..) ?_)
  intro b4 hb4; cases b4
  · first | replace hb4 := dF hb4 | skip
    refine ev_q rfl (q_not rfl rfl ?_)
    refine ev_nil (hK3 _ ?_); clear hK3
    refine good_condT rfl ?_
    refine good_seq fun K5 hK5 => ?_
    refine gr rfl ?_
    refine ea rfl (by conv=>lhs;whnf) ?_
    refine ea rfl (by conv=>lhs;whnf) ?_
    refine ev_nil (hK5 _ ?_); clear hK5
    refine good_ret ?_
    repeat first|refine thenQ_ret ?_|refine blockQ_ret ?_
    refine ret_many rfl ?_
    refine res_tmp (by conv=>lhs;whnf) rfl ?_
    refine res_tmp (by conv=>lhs;whnf) rfl ?_
    refine res_nil ?_
    clear hK2
    first | exact fTup1 (fI (by rw [if_pos (by omega)]; omega)) (fTup1 (fI (by rw [if_pos (by omega)])) rfl) | exact fTup1 (fI (by rw [if_neg (by omega)])) (fTup1 (fI (by rw [if_neg (by omega)])) rfl)
  · first | replace hb4 := dT hb4 | skip
    refine ev_q rfl (q_not rfl rfl ?_)
    refine ev_nil (hK3 _ ?_); clear hK3
    refine good_condF rfl ?_
    refine good_skip (hK2 _ ?_); clear hK2
    refine good_seq fun K6 hK6 => ?_
    refine gr rfl ?_
    refine em rfl (by conv=>lhs;whnf) ?_
    refine ev_q rfl (q_callI rfl rfl (rfl) (D_impl_waterDensity _ (by omega)) ?_)
    intro n7 hn7
    refine ea rfl (by conv=>lhs;whnf) ?_
    refine ea rfl (by conv=>lhs;whnf) ?_
    refine ev_nil (hK6 _ ?_); clear hK6
    refine good_ret ?_
    repeat first|refine thenQ_ret ?_|refine blockQ_ret ?_
    refine ret_many rfl ?_
    refine res_tmp (by conv=>lhs;whnf) rfl ?_
    refine res_tmp (by conv=>lhs;whnf) rfl ?_
    refine res_nil ?_
    first | exact fTup1 (fI (by rw [if_pos (by omega)]; omega)) (fTup1 (fI (by rw [if_pos (by omega)])) rfl) | exact fTup1 (fI (by rw [if_neg (by omega)])) (fTup1 (fI (by rw [if_neg (by omega)])) rfl)

-- impl.steamOk
theorem D_impl_steamOk (a : Int)  : Den Tryz.prog 48 [.s (.int .i64 a)] (.s (.bool (decide (1000 ≤ a ∧ a ≤ 1200000)))) := by
  refine den_of_good Tryz.func48 (by decide) rfl (Nat.le_of_ble_eq_true rfl) (Nat.le_of_ble_eq_true rfl) ?_
  refine good_seq fun K1 hK1 => ?_
  refine gr rfl ?_
  refine ea rfl (by conv=>lhs;whnf) ?_
  refine ev_nil (hK1 _ ?_); clear hK1
  refine good_seq fun K2 hK2 => ?_
  refine gr rfl ?_
  refine em rfl (by conv=>lhs;whnf) ?_
  refine ev_q rfl (q_callB rfl rfl (rfl) (D_impl_within ..) ?_)
  intro b3 hb3; cases b3
  · first | replace hb3 := dF hb3 | skip
    refine ea rfl (by conv=>lhs;whnf) ?_
    refine ev_nil (hK2 _ ?_); clear hK2
    refine good_ret ?_
    repeat first|refine thenQ_ret ?_|refine blockQ_ret ?_
    refine ret_tmp (st := _) rfl (by conv=>lhs;whnf) rfl ?_
    first | rfl | exact fT (by first | omega | grind) | exact fF (by first | omega | grind) | exact fT' (by first | omega | grind) | (exfalso; first | omega | grind)
  · first | replace hb3 := dT hb3 | skip
    refine ea rfl (by conv=>lhs;whnf) ?_
    refine ev_nil (hK2 _ ?_); clear hK2
    refine good_ret ?_
    repeat first|refine thenQ_ret ?_|refine blockQ_ret ?_
    refine ret_tmp (st := _) rfl (by conv=>lhs;whnf) rfl ?_
    first | rfl | exact fT (by first | omega | grind) | exact fF (by first | omega | grind) | exact fT' (by first | omega | grind) | (exfalso; first | omega | grind)

-- impl.boilingAt
theorem D_impl_boilingAt (x : Int) (hx : -10000000 ≤ x ∧ x ≤ 10000000) : Den Tryz.prog 49 [.s (.int .i64 x)] (.s (.int .i64 (boil x))) := by
  have hlP : tP.length = 10 := rfl
  have hlV : tV.length = 10 := rfl
  refine den_of_good Tryz.func49 (by decide) rfl (Nat.le_of_ble_eq_true rfl) (Nat.le_of_ble_eq_true rfl) ?_
  refine good_seq fun K1 hK1 => ?_
  refine gr rfl ?_
  refine ea rfl (by conv=>lhs;whnf) ?_
  refine ev_nil (hK1 _ ?_); clear hK1
  refine good_seq fun K2 hK2 => ?_
  refine gr rfl ?_
  refine ev_k rfl (k_build (cs := [.s (.int .i64 1000), .s (.int .i64 700)]) zA128 pl128 (rfl) ?_)
  refine ev_k rfl (k_build (cs := [.s (.int .i64 2000), .s (.int .i64 1750)]) zA128 pl128 (rfl) ?_)
  refine ev_k rfl (k_build (cs := [.s (.int .i64 10000), .s (.int .i64 4580)]) zA128 pl128 (rfl) ?_)
  refine ev_k rfl (k_build (cs := [.s (.int .i64 50000), .s (.int .i64 8135)]) zA128 pl128 (rfl) ?_)
  refine ev_k rfl (k_build (cs := [.s (.int .i64 101325), .s (.int .i64 9961)]) zA128 pl128 (rfl) ?_)
  refine ev_k rfl (k_build (cs := [.s (.int .i64 200000), .s (.int .i64 12023)]) zA128 pl128 (rfl) ?_)
  refine ev_k rfl (k_build (cs := [.s (.int .i64 400000), .s (.int .i64 14361)]) zA128 pl128 (rfl) ?_)
  refine ev_k rfl (k_build (cs := [.s (.int .i64 600000), .s (.int .i64 15883)]) zA128 pl128 (rfl) ?_)
  refine ev_k rfl (k_build (cs := [.s (.int .i64 1000000), .s (.int .i64 17988)]) zA128 pl128 (rfl) ?_)
  refine ev_k rfl (k_build (cs := [.s (.int .i64 1200000), .s (.int .i64 18796)]) zA128 pl128 (rfl) ?_)
  refine ev_k rfl (k_build (cs := boilC) zA129 pl129 (by kernel_rfl) ?_)
  refine ev_k rfl (k_alloc zA129 rfl ?_)
  refine ev_k rfl (k_store sz129 rfl (by conv=>lhs;whnf) rfl rfl rfl (Nat.le_of_ble_eq_true rfl) rfl ?_)
  refine ev_nil (hK2 _ ?_); clear hK2
  refine good_seq fun K3 hK3 => ?_
  refine gr rfl ?_
  refine ea rfl (by conv=>lhs;whnf) ?_
  refine ev_nil (hK3 _ ?_); clear hK3
  refine good_seq fun K4 hK4 => ?_
  refine good_block ?_
  refine good_loop (α := Nat) (fun i => { env := upd (upd (upd ((fun _ => .junk)) 0 (.s (.int .i64 x))) 3 (.ptr 3 0)) 4 (.s (.int .i64 i)), H := upd ((fun _ => none)) 3 (some (.box 129 boilC)) }) (fun i => i ≤ 8 ∧ (i = 0 ∨ ∃ q : Int, tP[i]? = some q ∧ q ≤ x)) (fun i => 8 - i) 0 ?_ ?_ ?_
  · exact ⟨by omega, .inl rfl⟩
  · refine sub_weak ?_ ?_
    · exact weakH_box (boxEq (rfl)) rfl (weakH_none _)
    · refine weakE_upd ?e4 ?r4 (weakE_upd ?e3 ?r3 (weakE_upd ?e0 ?r0 (weakE_junk _ _)))
      case e0 => first | rfl | exact fI (by omega) | (simp_all)
      case r0 => intro h hh; cases hh
      case e3 => first | rfl | exact fI (by omega) | (simp_all)
      case r3 => intro h hh; simp [refs] at hh; subst hh; rfl
      case e4 => first | rfl | exact fI (by omega) | (simp_all)
      case r4 => intro h hh; cases hh
  · rintro i ⟨hI, hJ⟩
    refine good_seq fun K5 hK5 => ?_
    refine good_seq fun K6 hK6 => ?_
    refine gr rfl ?_
    refine em rfl (by conv=>lhs;whnf) ?_
    refine ei rfl rfl rfl ?_
    intro b7 hb7; cases b7
    · replace hb7 := dF hb7
      refine em rfl (by conv=>lhs;whnf) ?_
      refine ev_skip rfl ?_
      refine ev_skip rfl ?_
      refine ev_skip rfl ?_
      refine ev_skip rfl ?_
      refine ev_skip rfl ?_
      refine ev_skip rfl ?_
      refine ev_skip rfl ?_
      refine ev_q rfl (q_pickF rfl (by conv=>lhs;whnf) ?_)
      refine ev_nil (hK6 _ ?_); clear hK6
      refine good_condF rfl ?_
      refine good_exit ?_
      repeat first|refine thenQ_exit ?_|refine blockQ_pass rfl ?_
      refine blockQ_exit (hK4 _ ?_); clear hK4
      refine good_seq fun K8 hK8 => ?_
      refine good_draw 21 hmix (by kernel_rfl) rfl ?_
      refine qm rfl (by conv=>lhs;whnf) ?_
      obtain ⟨a, ha⟩ := getL (xs := tP) (n := (i : Int)) (by omega) (by omega)
      obtain ⟨b, hb⟩ := getL (xs := tV) (n := (i : Int)) (by omega) (by omega)
      have ba := tP_bd ha
      have bb := tV_bd hb
      refine qo_q rfl (q_idxA tEn129 tArr129 rfl rfl (by omega) (by omega) rfl ?_)
      refine qo_q rfl (q_idxA tEn128 tArr128 rfl rfl (by omega) (by omega) rfl ?_)
      refine qo_q rfl (q_loadI tA2 rfl rfl (tabP ha (by omega)) ?_)
      refine qm rfl (by conv=>lhs;whnf) ?_
      refine qo_q rfl (q_idxA tEn129 tArr129 rfl rfl (by omega) (by omega) rfl ?_)
      refine qo_q rfl (q_idxA tEn128 tArr128 rfl rfl (by omega) (by omega) rfl ?_)
      refine qo_q rfl (q_loadI tA2 rfl rfl (tabV hb (by omega)) ?_)
      refine qm rfl (by conv=>lhs;whnf) ?_
      refine qo_q rfl (q_int rfl rfl ?_)
      intro n9 hn9
      replace hn9 := in64 hn9 (by omega) (by omega)
      obtain ⟨p, hp⟩ := getL (xs := tP) (n := n9) (by omega) (by omega)
      have bp := tP_bd hp
      refine qo_q rfl (q_idxA tEn129 tArr129 rfl rfl (by omega) (by omega) rfl ?_)
      refine qo_q rfl (q_idxA tEn128 tArr128 rfl rfl (by omega) (by omega) rfl ?_)
      refine qo_q rfl (q_loadI tA2 rfl rfl (tabP hp (by omega)) ?_)
      refine qm rfl (by conv=>lhs;whnf) ?_
      refine qo_q rfl (q_int rfl rfl ?_)
      intro n10 hn10
      replace hn10 := in64 hn10 (by omega) (by omega)
      obtain ⟨d, hd⟩ := getL (xs := tV) (n := n10) (by omega) (by omega)
      have bd := tV_bd hd
      refine qo_q rfl (q_idxA tEn129 tArr129 rfl rfl (by omega) (by omega) rfl ?_)
      refine qo_q rfl (q_idxA tEn128 tArr128 rfl rfl (by omega) (by omega) rfl ?_)
      refine qo_q rfl (q_loadI tA2 rfl rfl (tabV hd (by omega)) ?_)
      refine qm rfl (by conv=>lhs;whnf) ?_
      refine qo_q rfl (q_callI rfl rfl (rfl) (D_impl_blend _ _ _ _ _ (by omega) (by omega) (by omega) (by omega)) ?_)
      intro n11 hn11
      refine qa rfl (by conv=>lhs;whnf) ?_
      refine qo_nil ?_
      refine ev_nil (hK8 _ ?_); clear hK8
      refine good_ret ?_
      repeat first|refine thenQ_ret ?_|refine blockQ_ret ?_
      refine ret_tmp (st := _) rfl (by conv=>lhs;whnf) rfl ?_
      clear hK5
      exact fI (by rw [hn11]; exact boil_at2 (i := i) (by omega) (by rw [← ha]; congr 1) (by rw [← hb]; congr 1) (by rw [← hp]; congr 1; omega) (by rw [← hd]; congr 1; omega) (by rcases hJ with h | ⟨q, hq, hl⟩; exact .inl h; exact .inr (by have e : tP[i]? = some a := ha; rw [e] at hq; cases hq; exact hl)) (by first | exact .inl (by omega) | exact .inr (by have e : some p = some q0 := (by rw [← hp, ← hq0]; congr 1; omega); cases e; omega)))
    · replace hb7 := dT hb7
      refine em rfl (by conv=>lhs;whnf) ?_
      refine em rfl (by conv=>lhs;whnf) ?_
      refine em rfl (by conv=>lhs;whnf) ?_
      refine ei rfl rfl rfl ?_
      intro n12 hn12
      replace hn12 := in64 hn12 (by omega) (by omega)
      obtain ⟨q0, hq0⟩ := getL (xs := tP) (n := n12) (by omega) (by omega)
      refine ev_q rfl (q_idxA tEn129 tArr129 rfl rfl (by omega) (by omega) rfl ?_)
      refine ev_q rfl (q_idxA tEn128 tArr128 rfl rfl (by omega) (by omega) rfl ?_)
      refine ev_q rfl (q_loadI tA2 rfl rfl (tabP hq0 (by omega)) ?_)
      refine ei rfl rfl rfl ?_
      intro b13 hb13; cases b13
      · replace hb13 := dF hb13
        refine ev_q rfl (q_pickT rfl (by conv=>lhs;whnf) ?_)
        refine ev_nil (hK6 _ ?_); clear hK6
        refine good_condF rfl ?_
        refine good_exit ?_
        repeat first|refine thenQ_exit ?_|refine blockQ_pass rfl ?_
        refine blockQ_exit (hK4 _ ?_); clear hK4
        refine good_seq fun K14 hK14 => ?_
        refine good_draw 21 hmix (by kernel_rfl) rfl ?_
        refine qm rfl (by conv=>lhs;whnf) ?_
        obtain ⟨a, ha⟩ := getL (xs := tP) (n := (i : Int)) (by omega) (by omega)
        obtain ⟨b, hb⟩ := getL (xs := tV) (n := (i : Int)) (by omega) (by omega)
        have ba := tP_bd ha
        have bb := tV_bd hb
        refine qo_q rfl (q_idxA tEn129 tArr129 rfl rfl (by omega) (by omega) rfl ?_)
        refine qo_q rfl (q_idxA tEn128 tArr128 rfl rfl (by omega) (by omega) rfl ?_)
        refine qo_q rfl (q_loadI tA2 rfl rfl (tabP ha (by omega)) ?_)
        refine qm rfl (by conv=>lhs;whnf) ?_
        refine qo_q rfl (q_idxA tEn129 tArr129 rfl rfl (by omega) (by omega) rfl ?_)
        refine qo_q rfl (q_idxA tEn128 tArr128 rfl rfl (by omega) (by omega) rfl ?_)
        refine qo_q rfl (q_loadI tA2 rfl rfl (tabV hb (by omega)) ?_)
        refine qm rfl (by conv=>lhs;whnf) ?_
        refine qo_q rfl (q_int rfl rfl ?_)
        intro n15 hn15
        replace hn15 := in64 hn15 (by omega) (by omega)
        obtain ⟨p, hp⟩ := getL (xs := tP) (n := n15) (by omega) (by omega)
        have bp := tP_bd hp
        refine qo_q rfl (q_idxA tEn129 tArr129 rfl rfl (by omega) (by omega) rfl ?_)
        refine qo_q rfl (q_idxA tEn128 tArr128 rfl rfl (by omega) (by omega) rfl ?_)
        refine qo_q rfl (q_loadI tA2 rfl rfl (tabP hp (by omega)) ?_)
        refine qm rfl (by conv=>lhs;whnf) ?_
        refine qo_q rfl (q_int rfl rfl ?_)
        intro n16 hn16
        replace hn16 := in64 hn16 (by omega) (by omega)
        obtain ⟨d, hd⟩ := getL (xs := tV) (n := n16) (by omega) (by omega)
        have bd := tV_bd hd
        refine qo_q rfl (q_idxA tEn129 tArr129 rfl rfl (by omega) (by omega) rfl ?_)
        refine qo_q rfl (q_idxA tEn128 tArr128 rfl rfl (by omega) (by omega) rfl ?_)
        refine qo_q rfl (q_loadI tA2 rfl rfl (tabV hd (by omega)) ?_)
        refine qm rfl (by conv=>lhs;whnf) ?_
        refine qo_q rfl (q_callI rfl rfl (rfl) (D_impl_blend _ _ _ _ _ (by omega) (by omega) (by omega) (by omega)) ?_)
        intro n17 hn17
        refine qa rfl (by conv=>lhs;whnf) ?_
        refine qo_nil ?_
        refine ev_nil (hK14 _ ?_); clear hK14
        refine good_ret ?_
        repeat first|refine thenQ_ret ?_|refine blockQ_ret ?_
        refine ret_tmp (st := _) rfl (by conv=>lhs;whnf) rfl ?_
        clear hK5
        exact fI (by rw [hn17]; exact boil_at2 (i := i) (by omega) (by rw [← ha]; congr 1) (by rw [← hb]; congr 1) (by rw [← hp]; congr 1; omega) (by rw [← hd]; congr 1; omega) (by rcases hJ with h | ⟨q, hq, hl⟩; exact .inl h; exact .inr (by have e : tP[i]? = some a := ha; rw [e] at hq; cases hq; exact hl)) (by first | exact .inl (by omega) | exact .inr (by have e : some p = some q0 := (by rw [← hp, ← hq0]; congr 1; omega); cases e; omega)))
      · replace hb13 := dT hb13
        refine ev_q rfl (q_pickT rfl (by conv=>lhs;whnf) ?_)
        refine ev_nil (hK6 _ ?_); clear hK6
        refine good_condT rfl ?_
        refine good_skip (hK5 _ ?_); clear hK5
        refine good_block ?_
        refine gr rfl ?_
        refine em rfl (by conv=>lhs;whnf) ?_
        refine ei rfl rfl rfl ?_
        intro n18 hn18
        replace hn18 := in64 hn18 (by omega) (by omega)
        refine ea rfl (by conv=>lhs;whnf) ?_
        refine ev_nil ?_
        clear hK4
        refine ⟨i + 1, ?_, ?_, ?_⟩
        · exact ⟨by omega, .inr ⟨q0, by rw [← hq0]; congr 1; omega, by omega⟩⟩
        · first | omega | (simp only []; omega) | (dsimp only; omega)
        · refine sub_weak ?_ ?_
          · exact weakH_box (boxEq (rfl)) rfl (weakH_none _)
          · refine weakE_upd ?e4 ?r4 (weakE_upd ?e3 ?r3 (weakE_upd ?e0 ?r0 (weakE_junk _ _)))
            case e0 => first | rfl | exact fI (by omega) | (simp_all)
            case r0 => intro h hh; cases hh
            case e3 => first | rfl | exact fI (by omega) | (simp_all)
            case r3 => intro h hh; simp [refs] at hh; subst hh; rfl
            case e4 => first | rfl | exact fI (by omega) | (simp_all)
            case r4 => intro h hh; cases hh

-- impl.BoilingAt
theorem D_impl_BoilingAt (p : Int)  : Den Tryz.prog 10 [.s (.int .i64 p)] (.tup [.s (.int .i64 (if 1000 ≤ p ∧ p ≤ 1200000 then boil p else 0)), .s (.int .i64 (if 1000 ≤ p ∧ p ≤ 1200000 then 0 else 2))]) := by
  refine den_of_good Tryz.func10 (by decide) rfl (Nat.le_of_ble_eq_true rfl) (Nat.le_of_ble_eq_true rfl) ?_
  refine good_seq fun K1 hK1 => ?_
  refine gr rfl ?_
  refine ea rfl (by conv=>lhs;whnf) ?_
  refine ea rfl (by conv=>lhs;whnf) ?_
  refine ev_nil (hK1 _ ?_); clear hK1
  refine good_seq fun K2 hK2 => ?_
  refine good_seq fun K3 hK3 => ?_
  refine gr rfl ?_
  refine em rfl (by conv=>lhs;whnf) ?_
  refine ev_q rfl (q_callB rfl rfl (rfl) (D_impl_steamOk ..) ?_)
  intro b4 hb4; cases b4
  · first | replace hb4 := dF hb4 | skip
    refine ev_q rfl (q_not rfl rfl ?_)
    refine ev_nil (hK3 _ ?_); clear hK3
    refine good_condT rfl ?_
    refine good_seq fun K5 hK5 => ?_
    refine gr rfl ?_
    refine ea rfl (by conv=>lhs;whnf) ?_
    refine ea rfl (by conv=>lhs;whnf) ?_
    refine ev_nil (hK5 _ ?_); clear hK5
    refine good_ret ?_
    repeat first|refine thenQ_ret ?_|refine blockQ_ret ?_
    refine ret_many rfl ?_
    refine res_tmp (by conv=>lhs;whnf) rfl ?_
    refine res_tmp (by conv=>lhs;whnf) rfl ?_
    refine res_nil ?_
    clear hK2
    first | exact fTup1 (fI (by rw [if_pos (by omega)]; omega)) (fTup1 (fI (by rw [if_pos (by omega)])) rfl) | exact fTup1 (fI (by rw [if_neg (by omega)])) (fTup1 (fI (by rw [if_neg (by omega)])) rfl)
  · first | replace hb4 := dT hb4 | skip
    refine ev_q rfl (q_not rfl rfl ?_)
    refine ev_nil (hK3 _ ?_); clear hK3
    refine good_condF rfl ?_
    refine good_skip (hK2 _ ?_); clear hK2
    refine good_seq fun K6 hK6 => ?_
    refine gr rfl ?_
    refine em rfl (by conv=>lhs;whnf) ?_
    refine ev_q rfl (q_callI rfl rfl (rfl) (D_impl_boilingAt _ (by omega)) ?_)
    intro n7 hn7
    refine ea rfl (by conv=>lhs;whnf) ?_
    refine ea rfl (by conv=>lhs;whnf) ?_
    refine ev_nil (hK6 _ ?_); clear hK6
    refine good_ret ?_
    repeat first|refine thenQ_ret ?_|refine blockQ_ret ?_
    refine ret_many rfl ?_
    refine res_tmp (by conv=>lhs;whnf) rfl ?_
    refine res_tmp (by conv=>lhs;whnf) rfl ?_
    refine res_nil ?_
    first | exact fTup1 (fI (by rw [if_pos (by omega)]; omega)) (fTup1 (fI (by rw [if_pos (by omega)])) rfl) | exact fTup1 (fI (by rw [if_neg (by omega)])) (fTup1 (fI (by rw [if_neg (by omega)])) rfl)

-- sort.Search
theorem D_sort_Search (f : Nat) (caps : List AV) (p : Int → Prop) [DecidablePred p] (n : Nat) (hn : n ≤ 4611686018427387903) (mono : ∀ i j : Nat, i ≤ j → j < n → p i → p j) (hf : ∀ i : Nat, i < n → Den Tryz.prog f (.s (.int .i64 i) :: caps) (.s (.bool (decide (p i))))) : Den Tryz.prog 110 [.s (.int .i64 n), .fn f caps] (.s (.int .i64 (srN p n))) := by
  refine den_of_good Tryz.func110 (by decide) rfl (Nat.le_of_ble_eq_true rfl) (Nat.le_of_ble_eq_true rfl) ?_
  refine good_seq fun K1 hK1 => ?_
  refine gr rfl ?_
  refine ea rfl (by conv=>lhs;whnf) ?_
  refine ev_nil (hK1 _ ?_); clear hK1
  refine good_seq fun K2 hK2 => ?_
  refine gr rfl ?_
  refine em rfl (by conv=>lhs;whnf) ?_
  refine ea rfl (by conv=>lhs;whnf) ?_
  refine ea rfl (by conv=>lhs;whnf) ?_
  refine ev_nil (hK2 _ ?_); clear hK2
  refine good_seq fun K3 hK3 => ?_
  refine good_block ?_
  refine good_loop (α := Nat × Nat) (fun (i, j) => { env := upd (upd (upd ((fun _ => .junk)) 1 (.fn f caps)) 5 (.s (.int .i64 i))) 6 (.s (.int .i64 j)), H := fun _ => none }) (fun (i, j) => i ≤ j ∧ j ≤ n ∧ (∀ k : Nat, k < i → ¬ p k) ∧ (∀ k : Nat, j ≤ k → k < n → p k)) (fun (i, j) => j - i) (0, n) ?_ ?_ ?_
  · exact ⟨Nat.zero_le _, Nat.le_refl _, fun k h => absurd h (Nat.not_lt_zero _), fun k h1 h2 => absurd h1 (Nat.not_le_of_lt h2)⟩
  · refine sub_weak ?_ ?_
    · exact weakH_none _
    · refine weakE_upd ?e6 ?r6 (weakE_upd ?e5 ?r5 (weakE_upd ?e1 ?r1 (weakE_junk _ _)))
      case e1 => first | rfl | exact fI (by omega) | (simp_all)
      case r1 => intro h hh; cases hh
      case e5 => first | rfl | exact fI (by omega) | (simp_all)
      case r5 => intro h hh; cases hh
      case e6 => first | rfl | exact fI (by omega) | (simp_all)
      case r6 => intro h hh; cases hh
  · rintro ⟨i, j⟩ ⟨hI1, hI2, hI3, hI4⟩
    refine good_seq fun K4 hK4 => ?_
    refine good_seq fun K5 hK5 => ?_
    refine gr rfl ?_
    refine em rfl (by conv=>lhs;whnf) ?_
    refine em rfl (by conv=>lhs;whnf) ?_
    refine ei rfl rfl rfl ?_
    intro b6 hb6; cases b6
    · replace hb6 := dF hb6
      refine ev_nil (hK5 _ ?_); clear hK5
      refine good_condF rfl ?_
      refine good_exit ?_
      repeat first|refine thenQ_exit ?_|refine blockQ_pass rfl ?_
      refine blockQ_exit (hK3 _ ?_); clear hK3
      refine good_seq fun K7 hK7 => ?_
      refine gr rfl ?_
      refine em rfl (by conv=>lhs;whnf) ?_
      refine ea rfl (by conv=>lhs;whnf) ?_
      refine ev_nil (hK7 _ ?_); clear hK7
      refine good_ret ?_
      repeat first|refine thenQ_ret ?_|refine blockQ_ret ?_
      refine ret_tmp (st := _) rfl (by conv=>lhs;whnf) rfl ?_
      clear hK4
      exact fI (by rw [srN_uniq (p := p) (n := n) (k := i) (by omega) hI3 (fun h => hI4 i (by omega) h)])
    · replace hb6 := dT hb6
      refine ev_nil (hK5 _ ?_); clear hK5
      refine good_condT rfl ?_
      refine good_skip (hK4 _ ?_); clear hK4
      refine good_block ?_
      refine good_seq fun K8 hK8 => ?_
      refine gr rfl ?_
      refine em rfl (by conv=>lhs;whnf) ?_
      refine em rfl (by conv=>lhs;whnf) ?_
      refine ei rfl rfl rfl ?_
      intro n9 hn9
      replace hn9 := in64 hn9 (by omega) (by omega)
      refine ev_q rfl (q_conv tK3 tK161 rfl ?_)
      intro n10 hn10
      replace hn10 := wrapU hn10 (by omega) (by omega)
      refine ev_q rfl (q_shr rfl rfl ⟨by omega, ?_⟩)
      intro n11 hn11
      replace hn11 := shr1 hn11 (by omega)
      refine ev_q rfl (q_conv tK161 tK3 rfl ?_)
      intro n12 hn12
      replace hn12 := in64 hn12 (by omega) (by omega)
      obtain ⟨k, hk⟩ : ∃ k : Nat, n12 = (k : Int) := ⟨n12.toNat, by omega⟩
      subst hk
      have hkj : i ≤ k ∧ k < j := by omega
      refine ea rfl (by conv=>lhs;whnf) ?_
      refine ev_nil (hK8 _ ?_); clear hK8
      refine good_seq fun K13 hK13 => ?_
      refine gr rfl ?_
      refine em rfl (by conv=>lhs;whnf) ?_
      refine em rfl (by conv=>lhs;whnf) ?_
      refine ev_q rfl (q_callB rfl rfl (rfl) (hf _ (by omega)) ?_)
      intro b14 hb14; cases b14
      · first | replace hb14 := dF hb14 | skip
        refine ev_q rfl (q_not rfl rfl ?_)
        refine ev_nil (hK13 _ ?_); clear hK13
        refine good_condT rfl ?_
        refine gr rfl ?_
        refine em rfl (by conv=>lhs;whnf) ?_
        refine ei rfl rfl rfl ?_
        intro n15 hn15
        replace hn15 := in64 hn15 (by omega) (by omega)
        refine ea rfl (by conv=>lhs;whnf) ?_
        refine ev_nil ?_
        clear hK3
        refine ⟨(k + 1, j), ?_, ?_, ?_⟩
        · exact ⟨(show k + 1 ≤ j by omega), hI2, fun q hq hp => absurd (mono q k (Nat.le_of_lt_succ hq) (by omega) hp) (by assumption), hI4⟩
        · first | (show j - (k + 1) < j - i; omega) | (show k - i < j - i; omega)
        · refine sub_weak ?_ ?_
          · exact weakH_none _
          · refine weakE_upd ?e6 ?r6 (weakE_upd ?e5 ?r5 (weakE_upd ?e1 ?r1 (weakE_junk _ _)))
            case e1 => first | rfl | exact fI (by omega) | (simp_all)
            case r1 => intro h hh; cases hh
            case e5 => first | rfl | exact fI (by omega) | (simp_all)
            case r5 => intro h hh; cases hh
            case e6 => first | rfl | exact fI (by omega) | (simp_all)
            case r6 => intro h hh; cases hh
      · first | replace hb14 := dT hb14 | skip
        refine ev_q rfl (q_not rfl rfl ?_)
        refine ev_nil (hK13 _ ?_); clear hK13
        refine good_condF rfl ?_
        refine gr rfl ?_
        refine em rfl (by conv=>lhs;whnf) ?_
        refine ea rfl (by conv=>lhs;whnf) ?_
        refine ev_nil ?_
        clear hK3
        refine ⟨(i, k), ?_, ?_, ?_⟩
        · exact ⟨hkj.1, (show k ≤ n by omega), hI3, fun q hq hqn => mono k q hq hqn (by assumption)⟩
        · first | (show j - (k + 1) < j - i; omega) | (show k - i < j - i; omega)
        · refine sub_weak ?_ ?_
          · exact weakH_none _
          · refine weakE_upd ?e6 ?r6 (weakE_upd ?e5 ?r5 (weakE_upd ?e1 ?r1 (weakE_junk _ _)))
            case e1 => first | rfl | exact fI (by omega) | (simp_all)
            case r1 => intro h hh; cases hh
            case e5 => first | rfl | exact fI (by omega) | (simp_all)
            case r5 => intro h hh; cases hh
            case e6 => first | rfl | exact fI (by omega) | (simp_all)
            case r6 => intro h hh; cases hh

-- impl.firstIn$1
theorem D_impl_firstIn_1 (f : Nat) (caps : List AV) (p : Int → Prop) [DecidablePred p] (i lo : Int) (h1 : -4000000000000 ≤ i ∧ i ≤ 4000000000000) (h2 : -1000000000000 ≤ lo ∧ lo ≤ 1000000000000) (hf : Den Tryz.prog f (.s (.int .i64 (lo + i)) :: caps) (.s (.bool (decide (p (lo + i)))))) : Den Tryz.prog 111 [.s (.int .i64 i), .rp [.fn f caps], .rp [.s (.int .i64 lo)]] (.s (.bool (decide (p (lo + i))))) := by
  refine den_of_good Tryz.func111 (by decide) rfl (Nat.le_of_ble_eq_true rfl) (Nat.le_of_ble_eq_true rfl) ?_
  refine good_seq fun K1 hK1 => ?_
  refine gr rfl ?_
  refine ea rfl (by conv=>lhs;whnf) ?_
  refine ev_nil (hK1 _ ?_); clear hK1
  refine good_seq fun K2 hK2 => ?_
  refine gr rfl ?_
  refine ev_q rfl (q_load tA76 rfl ?_)
  refine ev_q rfl (q_load tA2 rfl ?_)
  refine em rfl (by conv=>lhs;whnf) ?_
  refine ei rfl rfl rfl ?_
  intro n3 hn3
  replace hn3 := in64 hn3 (by omega) (by omega)
  subst hn3
  refine ev_q rfl (q_callB rfl rfl (rfl) hf ?_)
  intro b4 hb4; cases b4
  · first | replace hb4 := dF hb4 | skip
    refine ea rfl (by conv=>lhs;whnf) ?_
    refine ev_nil (hK2 _ ?_); clear hK2
    refine good_ret ?_
    repeat first|refine thenQ_ret ?_|refine blockQ_ret ?_
    refine ret_tmp (st := _) rfl (by conv=>lhs;whnf) rfl ?_
    first | exact fT (by assumption) | exact fF (by assumption)
  · first | replace hb4 := dT hb4 | skip
    refine ea rfl (by conv=>lhs;whnf) ?_
    refine ev_nil (hK2 _ ?_); clear hK2
    refine good_ret ?_
    repeat first|refine thenQ_ret ?_|refine blockQ_ret ?_
    refine ret_tmp (st := _) rfl (by conv=>lhs;whnf) rfl ?_
    first | exact fT (by assumption) | exact fF (by assumption)

-- impl.firstIn
theorem D_impl_firstIn (f : Nat) (caps : List AV) (p : Int → Prop) [DecidablePred p] (lo hi : Int) (h1 : -1000000000000 ≤ lo ∧ lo ≤ 1000000000000) (h2 : -1000000000000 ≤ hi ∧ hi ≤ 1000000000000) (h3 : lo ≤ hi + 1) (mono : ∀ a b : Int, lo ≤ a → a ≤ b → b ≤ hi → p a → p b) (hf : ∀ a : Int, lo ≤ a → a ≤ hi → Den Tryz.prog f (.s (.int .i64 a) :: caps) (.s (.bool (decide (p a))))) : Den Tryz.prog 54 [.s (.int .i64 lo), .s (.int .i64 hi), .fn f caps] (.tup [.s (.int .i64 (lst p lo hi)), .s (.bool (decide (lst p lo hi ≤ hi)))]) := by
  have hs := lst_spec p h3
  obtain ⟨m, hm⟩ : ∃ m : Nat, hi - lo + 1 = (m : Int) := ⟨(hi - lo + 1).toNat, by omega⟩
  have hm2 : (hi - lo + 1).toNat = m := by omega
  have hl : lst p lo hi = lo + srN (fun i => p (lo + i)) m := by unfold lst; rw [hm2]
  refine den_of_good Tryz.func54 (by decide) rfl (Nat.le_of_ble_eq_true rfl) (Nat.le_of_ble_eq_true rfl) ?_
  refine good_seq fun K1 hK1 => ?_
  refine gr rfl ?_
  refine ev_k rfl (k_box (by conv=>lhs;whnf) rfl rfl rfl ?_)
  refine ev_k rfl (k_box (by conv=>lhs;whnf) rfl rfl rfl ?_)
  refine ea rfl (by conv=>lhs;whnf) ?_
  refine ea rfl (by conv=>lhs;whnf) ?_
  refine ev_nil (hK1 _ ?_); clear hK1
  refine good_seq fun K2 hK2 => ?_
  refine gr rfl ?_
  refine em rfl (by conv=>lhs;whnf) ?_
  refine ev_q rfl (q_load tA2 rfl ?_)
  refine ei rfl rfl rfl ?_
  intro n3 hn3
  replace hn3 := in64 hn3 (by omega) (by omega)
  refine ei rfl rfl rfl ?_
  intro n4 hn4
  replace hn4 := in64 hn4 (by omega) (by omega)
  rw [hn3, hm] at hn4
  subst hn4
  refine ea rfl (by conv=>lhs;whnf) ?_
  refine ev_nil (hK2 _ ?_); clear hK2
  refine good_seq fun K5 hK5 => ?_
  refine gr rfl ?_
  refine em rfl (by conv=>lhs;whnf) ?_
  refine ev_q rfl (q_clo rfl rfl ?_)
  refine ev_q rfl (q_callI rfl rfl (rfl) (D_sort_Search _ _ (fun i => p (lo + i)) m (by omega) (fun i j h1 h2 h3 => mono _ _ (by omega) (by omega) (by omega) h3) (fun i h => D_impl_firstIn_1 f caps p i lo (by omega) (by omega) (hf _ (by omega) (by omega)))) ?_)
  intro n6 hn6
  refine ea rfl (by conv=>lhs;whnf) ?_
  refine ev_nil (hK5 _ ?_); clear hK5
  refine good_seq fun K7 hK7 => ?_
  refine gr rfl ?_
  refine ev_q rfl (q_load tA2 rfl ?_)
  refine em rfl (by conv=>lhs;whnf) ?_
  refine ei rfl rfl rfl ?_
  intro n8 hn8
  replace hn8 := in64 hn8 (by omega) (by omega)
  refine em rfl (by conv=>lhs;whnf) ?_
  refine em rfl (by conv=>lhs;whnf) ?_
  refine ei rfl rfl rfl ?_
  intro b9 hb9; cases b9
  · replace hb9 := dF hb9
    refine ea rfl (by conv=>lhs;whnf) ?_
    refine ea rfl (by conv=>lhs;whnf) ?_
    refine ev_nil (hK7 _ ?_); clear hK7
    refine good_ret ?_
    repeat first|refine thenQ_ret ?_|refine blockQ_ret ?_
    refine ret_many rfl ?_
    refine res_tmp (by conv=>lhs;whnf) rfl ?_
    refine res_tmp (by conv=>lhs;whnf) rfl ?_
    refine res_nil ?_
    exact fTup1 (by first | rfl | exact fI (by first | omega | grind) | (exfalso; first | omega | grind)) (fTup1 (by first | rfl | exact fT (by first | omega | grind) | exact fF (by first | omega | grind) | exact fT' (by first | omega | grind) | (exfalso; first | omega | grind)) (rfl))
  · replace hb9 := dT hb9
    refine ea rfl (by conv=>lhs;whnf) ?_
    refine ea rfl (by conv=>lhs;whnf) ?_
    refine ev_nil (hK7 _ ?_); clear hK7
    refine good_ret ?_
    repeat first|refine thenQ_ret ?_|refine blockQ_ret ?_
    refine ret_many rfl ?_
    refine res_tmp (by conv=>lhs;whnf) rfl ?_
    refine res_tmp (by conv=>lhs;whnf) rfl ?_
    refine res_nil ?_
    exact fTup1 (by first | rfl | exact fI (by first | omega | grind) | (exfalso; first | omega | grind)) (fTup1 (by first | rfl | exact fT (by first | omega | grind) | exact fF (by first | omega | grind) | exact fT' (by first | omega | grind) | (exfalso; first | omega | grind)) (rfl))

-- impl.steamPressure$1
theorem D_impl_steamPressure_1 (n t : Int) (h : -10000000 ≤ n ∧ n ≤ 10000000) : Den Tryz.prog 108 [.s (.int .i64 n), .rp [.s (.int .i64 t)]] (.s (.bool (decide (boil n ≥ t)))) := by
  refine den_of_good Tryz.func108 (by decide) rfl (Nat.le_of_ble_eq_true rfl) (Nat.le_of_ble_eq_true rfl) ?_
  refine good_seq fun K1 hK1 => ?_
  refine gr rfl ?_
  refine ea rfl (by conv=>lhs;whnf) ?_
  refine ev_nil (hK1 _ ?_); clear hK1
  refine good_seq fun K2 hK2 => ?_
  refine good_draw 5 hmix (by kernel_rfl) rfl ?_
  refine qm rfl (by conv=>lhs;whnf) ?_
  refine qo_q rfl (q_callI rfl rfl (rfl) (D_impl_boilingAt _ h) ?_)
  intro n3 hn3
  refine qo_q rfl (q_load tA2 rfl ?_)
  refine qo_q rfl (q_int rfl rfl ?_)
  intro b4 hb4; cases b4
  · replace hb4 := dF hb4
    refine qa rfl (by conv=>lhs;whnf) ?_
    refine qo_nil ?_
    refine ev_nil (hK2 _ ?_); clear hK2
    refine good_ret ?_
    repeat first|refine thenQ_ret ?_|refine blockQ_ret ?_
    refine ret_tmp (st := _) rfl (by conv=>lhs;whnf) rfl ?_
    first | rfl | exact fT (by first | omega | grind) | exact fF (by first | omega | grind) | exact fT' (by first | omega | grind) | (exfalso; first | omega | grind)
  · replace hb4 := dT hb4
    refine qa rfl (by conv=>lhs;whnf) ?_
    refine qo_nil ?_
    refine ev_nil (hK2 _ ?_); clear hK2
    refine good_ret ?_
    repeat first|refine thenQ_ret ?_|refine blockQ_ret ?_
    refine ret_tmp (st := _) rfl (by conv=>lhs;whnf) rfl ?_
    first | rfl | exact fT (by first | omega | grind) | exact fF (by first | omega | grind) | exact fT' (by first | omega | grind) | (exfalso; first | omega | grind)

-- impl.steamPressure
theorem D_impl_steamPressure (t : Int)  : Den Tryz.prog 47 [.s (.int .i64 t)] (.s (.int .i64 (stm t))) := by
  refine den_of_good Tryz.func47 (by decide) rfl (Nat.le_of_ble_eq_true rfl) (Nat.le_of_ble_eq_true rfl) ?_
  refine good_seq fun K1 hK1 => ?_
  refine gr rfl ?_
  refine ev_k rfl (k_box (by conv=>lhs;whnf) rfl rfl rfl ?_)
  refine ea rfl (by conv=>lhs;whnf) ?_
  refine ev_nil (hK1 _ ?_); clear hK1
  refine good_seq fun K2 hK2 => ?_
  refine gr rfl ?_
  refine ev_q rfl (q_clo rfl rfl ?_)
  refine ev_q rfl (q_call rfl rfl (rfl) (D_impl_firstIn _ _ (fun n => boil n ≥ t) 1000 1200000 (by omega) (by omega) (by omega) (fun a b h1 h2 h3 h4 => Int.le_trans h4 (boil_mono h2)) (fun a h1 h2 => D_impl_steamPressure_1 a t (by omega))) rfl ?_)
  refine em rfl (by conv=>lhs;whnf) ?_
  refine ev_q rfl (q_extractI rfl rfl ?_)
  intro n3 hn3
  refine ev_q rfl (q_extractB rfl rfl ?_)
  intro b4 hb4; cases b4
  · first | replace hb4 := dF hb4 | skip
    refine ea rfl (by conv=>lhs;whnf) ?_
    refine ea rfl (by conv=>lhs;whnf) ?_
    refine ev_nil (hK2 _ ?_); clear hK2
    refine good_seq fun K5 hK5 => ?_
    refine gr rfl ?_
    refine em rfl (by conv=>lhs;whnf) ?_
    refine ea rfl (by conv=>lhs;whnf) ?_
    refine ev_nil (hK5 _ ?_); clear hK5
    refine good_ret ?_
    repeat first|refine thenQ_ret ?_|refine blockQ_ret ?_
    refine ret_tmp (st := _) rfl (by conv=>lhs;whnf) rfl ?_
    exact fI hn3
  · first | replace hb4 := dT hb4 | skip
    refine ea rfl (by conv=>lhs;whnf) ?_
    refine ea rfl (by conv=>lhs;whnf) ?_
    refine ev_nil (hK2 _ ?_); clear hK2
    refine good_seq fun K6 hK6 => ?_
    refine gr rfl ?_
    refine em rfl (by conv=>lhs;whnf) ?_
    refine ea rfl (by conv=>lhs;whnf) ?_
    refine ev_nil (hK6 _ ?_); clear hK6
    refine good_ret ?_
    repeat first|refine thenQ_ret ?_|refine blockQ_ret ?_
    refine ret_tmp (st := _) rfl (by conv=>lhs;whnf) rfl ?_
    exact fI hn3

-- impl.SteamPressure
theorem D_impl_SteamPressure (t : Int)  : Den Tryz.prog 9 [.s (.int .i64 t)] (.tup [.s (.int .i64 (if 0 ≤ t ∧ t ≤ 18000 then stm t else 0)), .s (.int .i64 (if 0 ≤ t ∧ t ≤ 18000 then 0 else 2))]) := by
  refine den_of_good Tryz.func9 (by decide) rfl (Nat.le_of_ble_eq_true rfl) (Nat.le_of_ble_eq_true rfl) ?_
  refine good_seq fun K1 hK1 => ?_
  refine gr rfl ?_
  refine ea rfl (by conv=>lhs;whnf) ?_
  refine ea rfl (by conv=>lhs;whnf) ?_
  refine ev_nil (hK1 _ ?_); clear hK1
  refine good_seq fun K2 hK2 => ?_
  refine good_seq fun K3 hK3 => ?_
  refine gr rfl ?_
  refine em rfl (by conv=>lhs;whnf) ?_
  refine ev_q rfl (q_callB rfl rfl (rfl) (D_impl_waterOk ..) ?_)
  intro b4 hb4; cases b4
  · first | replace hb4 := dF hb4 | skip
    refine ev_q rfl (q_not rfl rfl ?_)
    refine ev_nil (hK3 _ ?_); clear hK3
    refine good_condT rfl ?_
    refine good_seq fun K5 hK5 => ?_
    refine gr rfl ?_
    refine ea rfl (by conv=>lhs;whnf) ?_
    refine ea rfl (by conv=>lhs;whnf) ?_
    refine ev_nil (hK5 _ ?_); clear hK5
    refine good_ret ?_
    repeat first|refine thenQ_ret ?_|refine blockQ_ret ?_
    refine ret_many rfl ?_
    refine res_tmp (by conv=>lhs;whnf) rfl ?_
    refine res_tmp (by conv=>lhs;whnf) rfl ?_
    refine res_nil ?_
    clear hK2
    first | exact fTup1 (fI (by rw [if_pos (by omega)]; omega)) (fTup1 (fI (by rw [if_pos (by omega)])) rfl) | exact fTup1 (fI (by rw [if_neg (by omega)])) (fTup1 (fI (by rw [if_neg (by omega)])) rfl)
  · first | replace hb4 := dT hb4 | skip
    refine ev_q rfl (q_not rfl rfl ?_)
    refine ev_nil (hK3 _ ?_); clear hK3
    refine good_condF rfl ?_
    refine good_skip (hK2 _ ?_); clear hK2
    refine good_seq fun K6 hK6 => ?_
    refine gr rfl ?_
    refine em rfl (by conv=>lhs;whnf) ?_
    refine ev_q rfl (q_callI rfl rfl (rfl) (D_impl_steamPressure _) ?_)
    intro n7 hn7
    refine ea rfl (by conv=>lhs;whnf) ?_
    refine ea rfl (by conv=>lhs;whnf) ?_
    refine ev_nil (hK6 _ ?_); clear hK6
    refine good_ret ?_
    repeat first|refine thenQ_ret ?_|refine blockQ_ret ?_
    refine ret_many rfl ?_
    refine res_tmp (by conv=>lhs;whnf) rfl ?_
    refine res_tmp (by conv=>lhs;whnf) rfl ?_
    refine res_nil ?_
    first | exact fTup1 (fI (by rw [if_pos (by omega)]; omega)) (fTup1 (fI (by rw [if_pos (by omega)])) rfl) | exact fTup1 (fI (by rw [if_neg (by omega)])) (fTup1 (fI (by rw [if_neg (by omega)])) rfl)

-- impl.MarginTo
theorem D_impl_MarginTo (p t : Int)  : Den Tryz.prog 11 [.s (.int .i64 p), .s (.int .i64 t)] (.tup [.s (.int .i64 (if (1000 ≤ p ∧ p ≤ 1200000) ∧ (0 ≤ t ∧ t ≤ 18000) then (boil p - t) else 0)), .s (.int .i64 (if (1000 ≤ p ∧ p ≤ 1200000) ∧ (0 ≤ t ∧ t ≤ 18000) then 0 else 2))]) := by
  refine den_of_good Tryz.func11 (by decide) rfl (Nat.le_of_ble_eq_true rfl) (Nat.le_of_ble_eq_true rfl) ?_
  refine good_seq fun K1 hK1 => ?_
  refine gr rfl ?_
  refine ea rfl (by conv=>lhs;whnf) ?_
  refine ea rfl (by conv=>lhs;whnf) ?_
  refine ev_nil (hK1 _ ?_); clear hK1
  refine good_seq fun K2 hK2 => ?_
  refine good_seq fun K3 hK3 => ?_
  refine gr rfl ?_
  refine em rfl (by conv=>lhs;whnf) ?_
  refine ev_q rfl (q_callB rfl rfl (rfl) (D_impl_steamOk ..) ?_)
  intro b4 hb4; cases b4
  · first | replace hb4 := dF hb4 | skip
    refine ev_q rfl (q_not rfl rfl ?_)
    refine em rfl (by conv=>lhs;whnf) ?_
    refine ev_skip rfl ?_
    refine ev_skip rfl ?_
    refine ev_skip rfl ?_
    refine ev_q rfl (q_pickT rfl (by conv=>lhs;whnf) ?_)
    refine ev_nil (hK3 _ ?_); clear hK3
    refine good_condT rfl ?_
    refine good_seq fun K5 hK5 => ?_
    refine gr rfl ?_
    refine ea rfl (by conv=>lhs;whnf) ?_
    refine ea rfl (by conv=>lhs;whnf) ?_
    refine ev_nil (hK5 _ ?_); clear hK5
    refine good_ret ?_
    repeat first|refine thenQ_ret ?_|refine blockQ_ret ?_
    refine ret_many rfl ?_
    refine res_tmp (by conv=>lhs;whnf) rfl ?_
    refine res_tmp (by conv=>lhs;whnf) rfl ?_
    refine res_nil ?_
    clear hK2
    first | exact fTup1 (fI (by rw [if_pos (by omega)]; omega)) (fTup1 (fI (by rw [if_pos (by omega)])) rfl) | exact fTup1 (fI (by rw [if_neg (by omega)])) (fTup1 (fI (by rw [if_neg (by omega)])) rfl)
  · first | replace hb4 := dT hb4 | skip
    refine ev_q rfl (q_not rfl rfl ?_)
    refine em rfl (by conv=>lhs;whnf) ?_
    refine em rfl (by conv=>lhs;whnf) ?_
    refine ev_q rfl (q_callB rfl rfl (rfl) (D_impl_waterOk ..) ?_)
    intro b6 hb6; cases b6
    · first | replace hb6 := dF hb6 | skip
      refine ev_q rfl (q_not rfl rfl ?_)
      refine ev_q rfl (q_pickF rfl (by conv=>lhs;whnf) ?_)
      refine ev_nil (hK3 _ ?_); clear hK3
      refine good_condT rfl ?_
      refine good_seq fun K7 hK7 => ?_
      refine gr rfl ?_
      refine ea rfl (by conv=>lhs;whnf) ?_
      refine ea rfl (by conv=>lhs;whnf) ?_
      refine ev_nil (hK7 _ ?_); clear hK7
      refine good_ret ?_
      repeat first|refine thenQ_ret ?_|refine blockQ_ret ?_
      refine ret_many rfl ?_
      refine res_tmp (by conv=>lhs;whnf) rfl ?_
      refine res_tmp (by conv=>lhs;whnf) rfl ?_
      refine res_nil ?_
      clear hK2
      first | exact fTup1 (fI (by rw [if_pos (by omega)]; omega)) (fTup1 (fI (by rw [if_pos (by omega)])) rfl) | exact fTup1 (fI (by rw [if_neg (by omega)])) (fTup1 (fI (by rw [if_neg (by omega)])) rfl)
    · first | replace hb6 := dT hb6 | skip
      refine ev_q rfl (q_not rfl rfl ?_)
      refine ev_q rfl (q_pickF rfl (by conv=>lhs;whnf) ?_)
      refine ev_nil (hK3 _ ?_); clear hK3
      refine good_condF rfl ?_
      refine good_skip (hK2 _ ?_); clear hK2
      refine good_seq fun K8 hK8 => ?_
      refine gr rfl ?_
      refine em rfl (by conv=>lhs;whnf) ?_
      refine ev_q rfl (q_callI rfl rfl (rfl) (D_impl_boilingAt _ (by omega)) ?_)
      intro n9 hn9
      refine em rfl (by conv=>lhs;whnf) ?_
      have hbb := boil_bd p
      refine ei rfl rfl rfl ?_
      intro n10 hn10
      replace hn10 := in64 hn10 (by omega) (by omega)
      refine ea rfl (by conv=>lhs;whnf) ?_
      refine ea rfl (by conv=>lhs;whnf) ?_
      refine ev_nil (hK8 _ ?_); clear hK8
      refine good_ret ?_
      repeat first|refine thenQ_ret ?_|refine blockQ_ret ?_
      refine ret_many rfl ?_
      refine res_tmp (by conv=>lhs;whnf) rfl ?_
      refine res_tmp (by conv=>lhs;whnf) rfl ?_
      refine res_nil ?_
      first | exact fTup1 (fI (by rw [if_pos (by omega)]; omega)) (fTup1 (fI (by rw [if_pos (by omega)])) rfl) | exact fTup1 (fI (by rw [if_neg (by omega)])) (fTup1 (fI (by rw [if_neg (by omega)])) rfl)

theorem gB {q pr b : Int} (h1 : 0 ≤ q ∧ q ≤ 100000) (h2 : 0 ≤ pr ∧ pr ≤ 18000) (h3 : 0 ≤ b ∧ b ≤ 18001) : (-7600000000000 ≤ q * 4186 * (pr - b) ∧ q * 4186 * (pr - b) ≤ 7600000000000) ∧ (-7600000000001 ≤ gP q pr b ∧ gP q pr b ≤ 7600000000001) := by
  have a1 := mulS (a := q * 4186) (b := pr - b) (A := 418600000) (B := 18001) (by omega) (by omega) (by omega) (by omega)
  have a2 := dr_bound (a := q * 4186 * (pr - b)) (b := 100000) (by omega)
  exact ⟨by omega, by unfold gP; omega⟩
theorem cB {tr su re pr b : Int} (h1 : 0 ≤ tr ∧ tr ≤ 100000) (h2 : 0 ≤ pr ∧ pr ≤ 18000) (h3 : 0 ≤ b ∧ b ≤ 18001) (h4 : 0 ≤ su ∧ su ≤ 18000) (h5 : 0 ≤ re ∧ re ≤ 18000) : (-40000 ≤ mdP su re pr b ∧ mdP su re pr b ≤ 40000) ∧ (-4000000000 ≤ tr * mdP su re pr b ∧ tr * mdP su re pr b ≤ 4000000000) ∧ (-4000000001 ≤ cP tr su re pr b ∧ cP tr su re pr b ≤ 4000000001) := by
  have a0 := dr_bound (a := pr - su + b - re) (b := 2) (by omega)
  have a1 : -40000 ≤ mdP su re pr b ∧ mdP su re pr b ≤ 40000 := by unfold mdP; omega
  have a2 := mulS (a := tr) (b := mdP su re pr b) (A := 100000) (B := 40000) (by omega) (by omega) (by omega) (by omega)
  have a3 := dr_bound (a := tr * mdP su re pr b) (b := 100) (by omega)
  exact ⟨a1, by omega, by unfold cP; omega⟩

-- impl.heatPower
theorem D_impl_heatPower (q pr b : Int) (hq : 0 ≤ q ∧ q ≤ 100000) (hp : 0 ≤ pr ∧ pr ≤ 18000) (hb : 0 ≤ b ∧ b ≤ 18001) : Den Tryz.prog 56 [.s (.int .i64 q), .s (.int .i64 pr), .s (.int .i64 b)] (.s (.int .i64 (gP q pr b))) := by
  have hg := gB hq hp hb
  refine den_of_good Tryz.func56 (by decide) rfl (Nat.le_of_ble_eq_true rfl) (Nat.le_of_ble_eq_true rfl) ?_
  refine good_seq fun K1 hK1 => ?_
  refine gr rfl ?_
  refine ea rfl (by conv=>lhs;whnf) ?_
  refine ev_nil (hK1 _ ?_); clear hK1
  refine good_seq fun K2 hK2 => ?_
  refine gr rfl ?_
  refine em rfl (by conv=>lhs;whnf) ?_
  refine ei rfl rfl rfl ?_
  intro n3 hn3
  replace hn3 := in64 hn3 (by omega) (by omega)
  refine em rfl (by conv=>lhs;whnf) ?_
  refine em rfl (by conv=>lhs;whnf) ?_
  refine ei rfl rfl rfl ?_
  intro n4 hn4
  replace hn4 := in64 hn4 (by omega) (by omega)
  refine ei rfl rfl rfl ?_
  intro n5 hn5
  rw [hn3, hn4] at hn5
  replace hn5 := in64 hn5 (by omega) (by omega)
  refine ev_q rfl (q_callI rfl rfl (rfl) (D_impl_divRound _ _ (by omega) (by omega)) ?_)
  intro n6 hn6
  rw [hn5] at hn6
  refine ea rfl (by conv=>lhs;whnf) ?_
  refine ev_nil (hK2 _ ?_); clear hK2
  refine good_ret ?_
  repeat first|refine thenQ_ret ?_|refine blockQ_ret ?_
  refine ret_tmp (st := _) rfl (by conv=>lhs;whnf) rfl ?_
  exact fI (by assumption)

-- impl.HeatPower
theorem D_impl_HeatPower (q w c : Int)  : Den Tryz.prog 14 [.s (.int .i64 q), .s (.int .i64 w), .s (.int .i64 c)] (.tup [.s (.int .i64 (if (0 ≤ q ∧ q ≤ 100000) ∧ (0 ≤ w ∧ w ≤ 18000) ∧ (0 ≤ c ∧ c ≤ w) then gP q w c else 0)), .s (.int .i64 (if (0 ≤ q ∧ q ≤ 100000) ∧ (0 ≤ w ∧ w ≤ 18000) ∧ (0 ≤ c ∧ c ≤ w) then 0 else 2))]) := by
  refine den_of_good Tryz.func14 (by decide) rfl (Nat.le_of_ble_eq_true rfl) (Nat.le_of_ble_eq_true rfl) ?_
  refine good_seq fun K1 hK1 => ?_
  refine gr rfl ?_
  refine ea rfl (by conv=>lhs;whnf) ?_
  refine ea rfl (by conv=>lhs;whnf) ?_
  refine ev_nil (hK1 _ ?_); clear hK1
  refine good_seq fun K2 hK2 => ?_
  refine good_seq fun K3 hK3 => ?_
  refine gr rfl ?_
  refine em rfl (by conv=>lhs;whnf) ?_
  refine ev_q rfl (q_callB rfl rfl (rfl) (D_impl_within ..) ?_)
  intro b4 hb4; cases b4
  · first | replace hb4 := dF hb4 | skip
    refine ev_q rfl (q_not rfl rfl ?_)
    refine em rfl (by conv=>lhs;whnf) ?_
    refine ev_skip rfl ?_
    refine ev_skip rfl ?_
    refine ev_skip rfl ?_
    refine ev_q rfl (q_pickT rfl (by conv=>lhs;whnf) ?_)
    refine em rfl (by conv=>lhs;whnf) ?_
    refine ev_skip rfl ?_
    refine ev_skip rfl ?_
    refine ev_skip rfl ?_
    refine ev_skip rfl ?_
    refine ev_q rfl (q_pickT rfl (by conv=>lhs;whnf) ?_)
    refine ev_nil (hK3 _ ?_); clear hK3
    refine good_condT rfl ?_
    refine good_seq fun K5 hK5 => ?_
    refine gr rfl ?_
    refine ea rfl (by conv=>lhs;whnf) ?_
    refine ea rfl (by conv=>lhs;whnf) ?_
    refine ev_nil (hK5 _ ?_); clear hK5
    refine good_ret ?_
    repeat first|refine thenQ_ret ?_|refine blockQ_ret ?_
    refine ret_many rfl ?_
    refine res_tmp (by conv=>lhs;whnf) rfl ?_
    refine res_tmp (by conv=>lhs;whnf) rfl ?_
    refine res_nil ?_
    clear hK2
    first | exact fTup1 (fI (by rw [if_pos (by omega)]; omega)) (fTup1 (fI (by rw [if_pos (by omega)])) rfl) | exact fTup1 (fI (by rw [if_neg (by omega)])) (fTup1 (fI (by rw [if_neg (by omega)])) rfl)
  · first | replace hb4 := dT hb4 | skip
    refine ev_q rfl (q_not rfl rfl ?_)
    refine em rfl (by conv=>lhs;whnf) ?_
    refine em rfl (by conv=>lhs;whnf) ?_
    refine ev_q rfl (q_callB rfl rfl (rfl) (D_impl_waterOk ..) ?_)
    intro b6 hb6; cases b6
    · first | replace hb6 := dF hb6 | skip
      refine ev_q rfl (q_not rfl rfl ?_)
      refine ev_q rfl (q_pickF rfl (by conv=>lhs;whnf) ?_)
      refine em rfl (by conv=>lhs;whnf) ?_
      refine ev_skip rfl ?_
      refine ev_skip rfl ?_
      refine ev_skip rfl ?_
      refine ev_skip rfl ?_
      refine ev_q rfl (q_pickT rfl (by conv=>lhs;whnf) ?_)
      refine ev_nil (hK3 _ ?_); clear hK3
      refine good_condT rfl ?_
      refine good_seq fun K7 hK7 => ?_
      refine gr rfl ?_
      refine ea rfl (by conv=>lhs;whnf) ?_
      refine ea rfl (by conv=>lhs;whnf) ?_
      refine ev_nil (hK7 _ ?_); clear hK7
      refine good_ret ?_
      repeat first|refine thenQ_ret ?_|refine blockQ_ret ?_
      refine ret_many rfl ?_
      refine res_tmp (by conv=>lhs;whnf) rfl ?_
      refine res_tmp (by conv=>lhs;whnf) rfl ?_
      refine res_nil ?_
      clear hK2
      first | exact fTup1 (fI (by rw [if_pos (by omega)]; omega)) (fTup1 (fI (by rw [if_pos (by omega)])) rfl) | exact fTup1 (fI (by rw [if_neg (by omega)])) (fTup1 (fI (by rw [if_neg (by omega)])) rfl)
    · first | replace hb6 := dT hb6 | skip
      refine ev_q rfl (q_not rfl rfl ?_)
      refine ev_q rfl (q_pickF rfl (by conv=>lhs;whnf) ?_)
      refine em rfl (by conv=>lhs;whnf) ?_
      refine em rfl (by conv=>lhs;whnf) ?_
      refine em rfl (by conv=>lhs;whnf) ?_
      refine ev_q rfl (q_callB rfl rfl (rfl) (D_impl_within ..) ?_)
      intro b8 hb8; cases b8
      · first | replace hb8 := dF hb8 | skip
        refine ev_q rfl (q_not rfl rfl ?_)
        refine ev_q rfl (q_pickF rfl (by conv=>lhs;whnf) ?_)
        refine ev_nil (hK3 _ ?_); clear hK3
        refine good_condT rfl ?_
        refine good_seq fun K9 hK9 => ?_
        refine gr rfl ?_
        refine ea rfl (by conv=>lhs;whnf) ?_
        refine ea rfl (by conv=>lhs;whnf) ?_
        refine ev_nil (hK9 _ ?_); clear hK9
        refine good_ret ?_
        repeat first|refine thenQ_ret ?_|refine blockQ_ret ?_
        refine ret_many rfl ?_
        refine res_tmp (by conv=>lhs;whnf) rfl ?_
        refine res_tmp (by conv=>lhs;whnf) rfl ?_
        refine res_nil ?_
        clear hK2
        first | exact fTup1 (fI (by rw [if_pos (by omega)]; omega)) (fTup1 (fI (by rw [if_pos (by omega)])) rfl) | exact fTup1 (fI (by rw [if_neg (by omega)])) (fTup1 (fI (by rw [if_neg (by omega)])) rfl)
      · first | replace hb8 := dT hb8 | skip
        refine ev_q rfl (q_not rfl rfl ?_)
        refine ev_q rfl (q_pickF rfl (by conv=>lhs;whnf) ?_)
        refine ev_nil (hK3 _ ?_); clear hK3
        refine good_condF rfl ?_
        refine good_skip (hK2 _ ?_); clear hK2
        refine good_seq fun K10 hK10 => ?_
        refine gr rfl ?_
        refine em rfl (by conv=>lhs;whnf) ?_
        refine em rfl (by conv=>lhs;whnf) ?_
        refine em rfl (by conv=>lhs;whnf) ?_
        refine ev_q rfl (q_callI rfl rfl (rfl) (D_impl_heatPower _ _ _ (by omega) (by omega) (by omega)) ?_)
        intro n11 hn11
        refine ea rfl (by conv=>lhs;whnf) ?_
        refine ea rfl (by conv=>lhs;whnf) ?_
        refine ev_nil (hK10 _ ?_); clear hK10
        refine good_ret ?_
        repeat first|refine thenQ_ret ?_|refine blockQ_ret ?_
        refine ret_many rfl ?_
        refine res_tmp (by conv=>lhs;whnf) rfl ?_
        refine res_tmp (by conv=>lhs;whnf) rfl ?_
        refine res_nil ?_
        first | exact fTup1 (fI (by rw [if_pos (by omega)]; omega)) (fTup1 (fI (by rw [if_pos (by omega)])) rfl) | exact fTup1 (fI (by rw [if_neg (by omega)])) (fTup1 (fI (by rw [if_neg (by omega)])) rfl)

-- impl.FlowForPower$1
theorem D_impl_FlowForPower_1 (n w c p : Int) (hn : 0 ≤ n ∧ n ≤ 100000) (hw : 0 ≤ w ∧ w ≤ 18000) (hc : 0 ≤ c ∧ c ≤ w) : Den Tryz.prog 55 [.s (.int .i64 n), .rp [.s (.int .i64 w)], .rp [.s (.int .i64 c)], .rp [.s (.int .i64 p)]] (.s (.bool (decide (gP n w c ≥ p)))) := by
  refine den_of_good Tryz.func55 (by decide) rfl (Nat.le_of_ble_eq_true rfl) (Nat.le_of_ble_eq_true rfl) ?_
  refine good_seq fun K1 hK1 => ?_
  refine gr rfl ?_
  refine ea rfl (by conv=>lhs;whnf) ?_
  refine ev_nil (hK1 _ ?_); clear hK1
  refine good_seq fun K2 hK2 => ?_
  refine good_draw 7 hmix (by kernel_rfl) rfl ?_
  refine qm rfl (by conv=>lhs;whnf) ?_
  refine qo_q rfl (q_load tA2 rfl ?_)
  refine qo_q rfl (q_load tA2 rfl ?_)
  refine qo_q rfl (q_callI rfl rfl (rfl) (D_impl_heatPower _ _ _ (by omega) (by omega) (by omega)) ?_)
  intro n3 hn3
  refine qo_q rfl (q_load tA2 rfl ?_)
  refine qo_q rfl (q_int rfl rfl ?_)
  intro b4 hb4; cases b4
  · replace hb4 := dF hb4
    refine qa rfl (by conv=>lhs;whnf) ?_
    refine qo_nil ?_
    refine ev_nil (hK2 _ ?_); clear hK2
    refine good_ret ?_
    repeat first|refine thenQ_ret ?_|refine blockQ_ret ?_
    refine ret_tmp (st := _) rfl (by conv=>lhs;whnf) rfl ?_
    first | rfl | exact fT (by first | omega | grind) | exact fF (by first | omega | grind) | exact fT' (by first | omega | grind) | (exfalso; first | omega | grind)
  · replace hb4 := dT hb4
    refine qa rfl (by conv=>lhs;whnf) ?_
    refine qo_nil ?_
    refine ev_nil (hK2 _ ?_); clear hK2
    refine good_ret ?_
    repeat first|refine thenQ_ret ?_|refine blockQ_ret ?_
    refine ret_tmp (st := _) rfl (by conv=>lhs;whnf) rfl ?_
    first | rfl | exact fT (by first | omega | grind) | exact fF (by first | omega | grind) | exact fT' (by first | omega | grind) | (exfalso; first | omega | grind)

-- impl.FlowForPower
theorem D_impl_FlowForPower (p w c : Int)  : Den Tryz.prog 13 [.s (.int .i64 p), .s (.int .i64 w), .s (.int .i64 c)] (.tup [.s (.int .i64 (ffR p w c)), .s (.int .i64 (ffC p w c))]) := by
  refine den_of_good Tryz.func13 (by decide) rfl (Nat.le_of_ble_eq_true rfl) (Nat.le_of_ble_eq_true rfl) ?_
  refine good_seq fun K1 hK1 => ?_
  refine gr rfl ?_
  refine ev_k rfl (k_box (by conv=>lhs;whnf) rfl rfl rfl ?_)
  refine ev_k rfl (k_box (by conv=>lhs;whnf) rfl rfl rfl ?_)
  refine ev_k rfl (k_box (by conv=>lhs;whnf) rfl rfl rfl ?_)
  refine ea rfl (by conv=>lhs;whnf) ?_
  refine ea rfl (by conv=>lhs;whnf) ?_
  refine ev_nil (hK1 _ ?_); clear hK1
  refine good_seq fun K2 hK2 => ?_
  refine good_seq fun K3 hK3 => ?_
  refine gr rfl ?_
  refine ev_q rfl (q_load tA2 rfl ?_)
  refine ev_q rfl (q_callB rfl rfl (rfl) (D_impl_within ..) ?_)
  intro b4 hb4; cases b4
  · first | replace hb4 := dF hb4 | skip
    refine ev_q rfl (q_not rfl rfl ?_)
    refine em rfl (by conv=>lhs;whnf) ?_
    refine ev_skip rfl ?_
    refine ev_skip rfl ?_
    refine ev_skip rfl ?_
    refine ev_q rfl (q_pickT rfl (by conv=>lhs;whnf) ?_)
    refine em rfl (by conv=>lhs;whnf) ?_
    refine ev_skip rfl ?_
    refine ev_skip rfl ?_
    refine ev_skip rfl ?_
    refine ev_skip rfl ?_
    refine ev_q rfl (q_pickT rfl (by conv=>lhs;whnf) ?_)
    refine ev_nil (hK3 _ ?_); clear hK3
    refine good_condT rfl ?_
    refine good_seq fun K5 hK5 => ?_
    refine gr rfl ?_
    refine ea rfl (by conv=>lhs;whnf) ?_
    refine ea rfl (by conv=>lhs;whnf) ?_
    refine ev_nil (hK5 _ ?_); clear hK5
    refine good_ret ?_
    repeat first|refine thenQ_ret ?_|refine blockQ_ret ?_
    refine ret_many rfl ?_
    refine res_tmp (by conv=>lhs;whnf) rfl ?_
    refine res_tmp (by conv=>lhs;whnf) rfl ?_
    refine res_nil ?_
    clear hK2
    first | (have e := ff_0 (p := p) (w := w) (c := c) ⟨by omega, by omega, by omega⟩ (by unfold ffV; assumption); exact fTup1 (fI (by rw [e.2]; unfold ffV; omega)) (fTup1 (fI e.1.symm) rfl)) | (have e := ff_6 (p := p) (w := w) (c := c) ⟨by omega, by omega, by omega⟩ (by unfold ffV; assumption); exact fTup1 (fI e.2.symm) (fTup1 (fI e.1.symm) rfl)) | (have e := ff_2 (p := p) (w := w) (c := c) (fun h => by have h1 := h.1; have h2 := h.2.1; have h3 := h.2.2; omega); exact fTup1 (fI e.2.symm) (fTup1 (fI e.1.symm) rfl))
  · first | replace hb4 := dT hb4 | skip
    refine ev_q rfl (q_not rfl rfl ?_)
    refine em rfl (by conv=>lhs;whnf) ?_
    refine ev_q rfl (q_load tA2 rfl ?_)
    refine ev_q rfl (q_callB rfl rfl (rfl) (D_impl_waterOk ..) ?_)
    intro b6 hb6; cases b6
    · first | replace hb6 := dF hb6 | skip
      refine ev_q rfl (q_not rfl rfl ?_)
      refine ev_q rfl (q_pickF rfl (by conv=>lhs;whnf) ?_)
      refine em rfl (by conv=>lhs;whnf) ?_
      refine ev_skip rfl ?_
      refine ev_skip rfl ?_
      refine ev_skip rfl ?_
      refine ev_skip rfl ?_
      refine ev_q rfl (q_pickT rfl (by conv=>lhs;whnf) ?_)
      refine ev_nil (hK3 _ ?_); clear hK3
      refine good_condT rfl ?_
      refine good_seq fun K7 hK7 => ?_
      refine gr rfl ?_
      refine ea rfl (by conv=>lhs;whnf) ?_
      refine ea rfl (by conv=>lhs;whnf) ?_
      refine ev_nil (hK7 _ ?_); clear hK7
      refine good_ret ?_
      repeat first|refine thenQ_ret ?_|refine blockQ_ret ?_
      refine ret_many rfl ?_
      refine res_tmp (by conv=>lhs;whnf) rfl ?_
      refine res_tmp (by conv=>lhs;whnf) rfl ?_
      refine res_nil ?_
      clear hK2
      first | (have e := ff_0 (p := p) (w := w) (c := c) ⟨by omega, by omega, by omega⟩ (by unfold ffV; assumption); exact fTup1 (fI (by rw [e.2]; unfold ffV; omega)) (fTup1 (fI e.1.symm) rfl)) | (have e := ff_6 (p := p) (w := w) (c := c) ⟨by omega, by omega, by omega⟩ (by unfold ffV; assumption); exact fTup1 (fI e.2.symm) (fTup1 (fI e.1.symm) rfl)) | (have e := ff_2 (p := p) (w := w) (c := c) (fun h => by have h1 := h.1; have h2 := h.2.1; have h3 := h.2.2; omega); exact fTup1 (fI e.2.symm) (fTup1 (fI e.1.symm) rfl))
    · first | replace hb6 := dT hb6 | skip
      refine ev_q rfl (q_not rfl rfl ?_)
      refine ev_q rfl (q_pickF rfl (by conv=>lhs;whnf) ?_)
      refine em rfl (by conv=>lhs;whnf) ?_
      refine ev_q rfl (q_load tA2 rfl ?_)
      refine ev_q rfl (q_load tA2 rfl ?_)
      refine ev_q rfl (q_callB rfl rfl (rfl) (D_impl_within ..) ?_)
      intro b8 hb8; cases b8
      · first | replace hb8 := dF hb8 | skip
        refine ev_q rfl (q_not rfl rfl ?_)
        refine ev_q rfl (q_pickF rfl (by conv=>lhs;whnf) ?_)
        refine ev_nil (hK3 _ ?_); clear hK3
        refine good_condT rfl ?_
        refine good_seq fun K9 hK9 => ?_
        refine gr rfl ?_
        refine ea rfl (by conv=>lhs;whnf) ?_
        refine ea rfl (by conv=>lhs;whnf) ?_
        refine ev_nil (hK9 _ ?_); clear hK9
        refine good_ret ?_
        repeat first|refine thenQ_ret ?_|refine blockQ_ret ?_
        refine ret_many rfl ?_
        refine res_tmp (by conv=>lhs;whnf) rfl ?_
        refine res_tmp (by conv=>lhs;whnf) rfl ?_
        refine res_nil ?_
        clear hK2
        first | (have e := ff_0 (p := p) (w := w) (c := c) ⟨by omega, by omega, by omega⟩ (by unfold ffV; assumption); exact fTup1 (fI (by rw [e.2]; unfold ffV; omega)) (fTup1 (fI e.1.symm) rfl)) | (have e := ff_6 (p := p) (w := w) (c := c) ⟨by omega, by omega, by omega⟩ (by unfold ffV; assumption); exact fTup1 (fI e.2.symm) (fTup1 (fI e.1.symm) rfl)) | (have e := ff_2 (p := p) (w := w) (c := c) (fun h => by have h1 := h.1; have h2 := h.2.1; have h3 := h.2.2; omega); exact fTup1 (fI e.2.symm) (fTup1 (fI e.1.symm) rfl))
      · first | replace hb8 := dT hb8 | skip
        refine ev_q rfl (q_not rfl rfl ?_)
        refine ev_q rfl (q_pickF rfl (by conv=>lhs;whnf) ?_)
        refine ev_nil (hK3 _ ?_); clear hK3
        refine good_condF rfl ?_
        refine good_skip (hK2 _ ?_); clear hK2
        refine good_seq fun K10 hK10 => ?_
        refine gr rfl ?_
        refine ev_q rfl (q_clo rfl rfl ?_)
        refine ev_q rfl (q_call rfl rfl (rfl) (D_impl_firstIn _ _ (fun n => gP n w c ≥ p) 0 100000 (by omega) (by omega) (by omega) (fun a b h1 h2 h3 h4 => Int.le_trans h4 (gP_q h2 (by omega))) (fun a h1 h2 => D_impl_FlowForPower_1 a w c p (by omega) (by omega) (by omega))) rfl ?_)
        refine em rfl (by conv=>lhs;whnf) ?_
        refine ev_q rfl (q_extractI rfl rfl ?_)
        intro n11 hn11
        refine ev_q rfl (q_extractB rfl rfl ?_)
        intro b12 hb12; cases b12
        · first | replace hb12 := dF hb12 | skip
          refine ea rfl (by conv=>lhs;whnf) ?_
          refine ea rfl (by conv=>lhs;whnf) ?_
          refine ev_nil (hK10 _ ?_); clear hK10
          refine good_seq fun K13 hK13 => ?_
          refine good_seq fun K14 hK14 => ?_
          refine gr rfl ?_
          refine em rfl (by conv=>lhs;whnf) ?_
          refine ev_q rfl (q_not rfl rfl ?_)
          refine ev_nil (hK14 _ ?_); clear hK14
          refine good_condT rfl ?_
          refine good_seq fun K15 hK15 => ?_
          refine gr rfl ?_
          refine ea rfl (by conv=>lhs;whnf) ?_
          refine ea rfl (by conv=>lhs;whnf) ?_
          refine ev_nil (hK15 _ ?_); clear hK15
          refine good_ret ?_
          repeat first|refine thenQ_ret ?_|refine blockQ_ret ?_
          refine ret_many rfl ?_
          refine res_tmp (by conv=>lhs;whnf) rfl ?_
          refine res_tmp (by conv=>lhs;whnf) rfl ?_
          refine res_nil ?_
          clear hK13
          first | (have e := ff_0 (p := p) (w := w) (c := c) ⟨by omega, by omega, by omega⟩ (by unfold ffV; assumption); exact fTup1 (fI (by rw [e.2]; unfold ffV; omega)) (fTup1 (fI e.1.symm) rfl)) | (have e := ff_6 (p := p) (w := w) (c := c) ⟨by omega, by omega, by omega⟩ (by unfold ffV; assumption); exact fTup1 (fI e.2.symm) (fTup1 (fI e.1.symm) rfl)) | (have e := ff_2 (p := p) (w := w) (c := c) (fun h => by have h1 := h.1; have h2 := h.2.1; have h3 := h.2.2; omega); exact fTup1 (fI e.2.symm) (fTup1 (fI e.1.symm) rfl))
        · first | replace hb12 := dT hb12 | skip
          refine ea rfl (by conv=>lhs;whnf) ?_
          refine ea rfl (by conv=>lhs;whnf) ?_
          refine ev_nil (hK10 _ ?_); clear hK10
          refine good_seq fun K16 hK16 => ?_
          refine good_seq fun K17 hK17 => ?_
          refine gr rfl ?_
          refine em rfl (by conv=>lhs;whnf) ?_
          refine ev_q rfl (q_not rfl rfl ?_)
          refine ev_nil (hK17 _ ?_); clear hK17
          refine good_condF rfl ?_
          refine good_skip (hK16 _ ?_); clear hK16
          refine good_seq fun K18 hK18 => ?_
          refine gr rfl ?_
          refine em rfl (by conv=>lhs;whnf) ?_
          refine ea rfl (by conv=>lhs;whnf) ?_
          refine ea rfl (by conv=>lhs;whnf) ?_
          refine ev_nil (hK18 _ ?_); clear hK18
          refine good_ret ?_
          repeat first|refine thenQ_ret ?_|refine blockQ_ret ?_
          refine ret_many rfl ?_
          refine res_tmp (by conv=>lhs;whnf) rfl ?_
          refine res_tmp (by conv=>lhs;whnf) rfl ?_
          refine res_nil ?_
          first | (have e := ff_0 (p := p) (w := w) (c := c) ⟨by omega, by omega, by omega⟩ (by unfold ffV; assumption); exact fTup1 (fI (by rw [e.2]; unfold ffV; omega)) (fTup1 (fI e.1.symm) rfl)) | (have e := ff_6 (p := p) (w := w) (c := c) ⟨by omega, by omega, by omega⟩ (by unfold ffV; assumption); exact fTup1 (fI e.2.symm) (fTup1 (fI e.1.symm) rfl)) | (have e := ff_2 (p := p) (w := w) (c := c) (fun h => by have h1 := h.1; have h2 := h.2.1; have h3 := h.2.2; omega); exact fTup1 (fI e.2.symm) (fTup1 (fI e.1.symm) rfl))

theorem D_fmt (n : Int) (h : inI n) : Den Tryz.prog 113 [.s (.int .i64 n), .s (.int .i64 10)] (.s (.string (dec n))) := by
  obtain ⟨g, hg⟩ := Option.isSome_iff_exists.1 (show (Tryz.prog.globalNamed "internal/strconv.uint64pow10").isSome = true by kernel_rfl)
  exact den_fmt ⟨_, Tryz.func113, rfl, rfl⟩ hg (fun n h0 h1 w ht => Tryz.strconv_FormatInt_10 n h0 h1 w ht) n h.1 h.2

-- impl.Decimal
theorem D_impl_Decimal (n : Int) (h : inI n) : Den Tryz.prog 58 [.s (.int .i64 n)] (.s (.string (dec n))) := by
  refine den_of_good Tryz.func58 (by decide) rfl (Nat.le_of_ble_eq_true rfl) (Nat.le_of_ble_eq_true rfl) ?_
  refine good_seq fun K1 hK1 => ?_
  refine gr rfl ?_
  refine ea rfl (by conv=>lhs;whnf) ?_
  refine ev_nil (hK1 _ ?_); clear hK1
  refine good_seq fun K2 hK2 => ?_
  refine gr rfl ?_
  refine em rfl (by conv=>lhs;whnf) ?_
  refine ev_q rfl (q_call rfl rfl (rfl) (D_fmt n h) rfl ?_)
  refine ea rfl (by conv=>lhs;whnf) ?_
  refine ev_nil (hK2 _ ?_); clear hK2
  refine good_ret ?_
  repeat first|refine thenQ_ret ?_|refine blockQ_ret ?_
  refine ret_tmp (st := _) rfl (by conv=>lhs;whnf) rfl ?_
  rfl

-- impl.DegreesText
theorem D_impl_DegreesText (z : Int) (hz : -100000000000 ≤ z ∧ z ≤ 100000000000) : Den Tryz.prog 16 [.s (.int .i64 z)] (.s (.string (dgO z))) := by
  refine den_of_good Tryz.func16 (by decide) rfl (Nat.le_of_ble_eq_true rfl) (Nat.le_of_ble_eq_true rfl) ?_
  refine good_seq fun K1 hK1 => ?_
  refine gr rfl ?_
  refine ea rfl (by conv=>lhs;whnf) ?_
  refine ev_nil (hK1 _ ?_); clear hK1
  refine good_seq fun K2 hK2 => ?_
  refine good_seq fun K3 hK3 => ?_
  refine gr rfl ?_
  refine em rfl (by conv=>lhs;whnf) ?_
  refine ev_q rfl (q_callB rfl rfl (rfl) (D_impl_within ..) ?_)
  intro b4 hb4; cases b4
  · first | replace hb4 := dF hb4 | skip
    refine ev_q rfl (q_not rfl rfl ?_)
    refine ev_nil (hK3 _ ?_); clear hK3
    refine good_condT rfl ?_
    refine good_seq fun K5 hK5 => ?_
    refine gr rfl ?_
    refine ea rfl (by conv=>lhs;whnf) ?_
    refine ev_nil (hK5 _ ?_); clear hK5
    refine good_ret ?_
    repeat first|refine thenQ_ret ?_|refine blockQ_ret ?_
    refine ret_tmp (st := _) rfl (by conv=>lhs;whnf) rfl ?_
    clear hK2
    first | exact fS (dgO_n (by omega)).symm | (rw [dgO_y (by omega)]; exact fS (dgT_T (s := ?t22) (by omega) (by rw [h?t22, h?t18, h?t13]; exact dgT_of h?t9 (by omega) (by omega) (by omega)) (by assumption))) | (rw [dgO_y (by omega)]; exact fS (dgT_F (s := ?t22) (by omega) (by rw [h?t22, h?t18, h?t13]; exact dgT_of h?t9 (by omega) (by omega) (by omega))))
  · first | replace hb4 := dT hb4 | skip
    refine ev_q rfl (q_not rfl rfl ?_)
    refine ev_nil (hK3 _ ?_); clear hK3
    refine good_condF rfl ?_
    refine good_skip (hK2 _ ?_); clear hK2
    refine good_seq fun K6 hK6 => ?_
    refine gr rfl ?_
    refine em rfl (by conv=>lhs;whnf) ?_
    refine ev_q rfl (q_callI rfl rfl (rfl) (D_impl_abs _ (by omega)) ?_)
    intro n7 hn7
    refine ea rfl (by conv=>lhs;whnf) ?_
    refine ev_nil (hK6 _ ?_); clear hK6
    refine good_seq fun K8 hK8 => ?_
    refine gr rfl ?_
    refine em rfl (by conv=>lhs;whnf) ?_
    refine ei rfl rfl rfl ⟨by omega, ?_⟩
    intro n9 hn9
    first | replace hn9 := quoE hn9 (by omega) (by omega) | replace hn9 := quoT hn9 (by omega) (by omega)
    refine ev_q rfl (q_call rfl rfl (rfl) (D_impl_Decimal _ ⟨by omega, by omega⟩) rfl ?_)
    have z1 := dec_size (n := n9) (by omega) (by omega)
    have z0 : (⟨#[46]⟩ : ByteArray).size = 1 := rfl
    refine ev_q rfl (q_str rfl rfl ⟨by omega, ?_⟩)
    intro s10 hs10
    refine em rfl (by conv=>lhs;whnf) ?_
    refine ei rfl rfl rfl ⟨by omega, ?_⟩
    intro n11 hn11
    first | replace hn11 := quoE hn11 (by omega) (by omega) | replace hn11 := quoT hn11 (by omega) (by omega)
    refine ei rfl rfl rfl ⟨by omega, ?_⟩
    intro n12 hn12
    first | replace hn12 := remE hn12 (by omega) | skip
    refine ev_q rfl (q_call rfl rfl (rfl) (D_impl_Decimal _ ⟨by omega, by omega⟩) rfl ?_)
    have y1 := sz_app hs10
    have z2 := dec_size (n := n12) (by omega) (by omega)
    refine ev_q rfl (q_str rfl rfl ⟨by omega, ?_⟩)
    intro s13 hs13
    refine em rfl (by conv=>lhs;whnf) ?_
    refine ei rfl rfl rfl ⟨by omega, ?_⟩
    intro n14 hn14
    first | replace hn14 := remE hn14 (by omega) | skip
    refine ev_q rfl (q_call rfl rfl (rfl) (D_impl_Decimal _ ⟨by omega, by omega⟩) rfl ?_)
    have y2 := sz_app hs13
    have z3 := dec_size (n := n14) (by omega) (by omega)
    refine ev_q rfl (q_str rfl rfl ⟨by omega, ?_⟩)
    intro s15 hs15
    refine ea rfl (by conv=>lhs;whnf) ?_
    refine ev_nil (hK8 _ ?_); clear hK8
    refine good_seq fun K16 hK16 => ?_
    refine good_seq fun K17 hK17 => ?_
    refine gr rfl ?_
    refine em rfl (by conv=>lhs;whnf) ?_
    refine ei rfl rfl rfl ?_
    intro b18 hb18; cases b18
    · replace hb18 := dF hb18
      refine ev_nil (hK17 _ ?_); clear hK17
      refine good_condF rfl ?_
      refine good_skip (hK16 _ ?_); clear hK16
      refine good_seq fun K19 hK19 => ?_
      refine gr rfl ?_
      refine em rfl (by conv=>lhs;whnf) ?_
      refine ea rfl (by conv=>lhs;whnf) ?_
      refine ev_nil (hK19 _ ?_); clear hK19
      refine good_ret ?_
      repeat first|refine thenQ_ret ?_|refine blockQ_ret ?_
      refine ret_tmp (st := _) rfl (by conv=>lhs;whnf) rfl ?_
      first | exact fS (dgO_n (by omega)).symm | (rw [dgO_y (by omega)]; exact fS (dgT_T (s := s15) (by omega) (by rw [hs15, hs13, hs10]; exact dgT_of hn7 (by omega) (by omega) (by omega)) (by assumption))) | (rw [dgO_y (by omega)]; exact fS (dgT_F (s := s15) (by omega) (by rw [hs15, hs13, hs10]; exact dgT_of hn7 (by omega) (by omega) (by omega))))
    · replace hb18 := dT hb18
      refine ev_nil (hK17 _ ?_); clear hK17
      refine good_condT rfl ?_
      refine good_seq fun K20 hK20 => ?_
      refine gr rfl ?_
      refine em rfl (by conv=>lhs;whnf) ?_
      have y3 := sz_app hs15
      have z4 : (⟨#[45]⟩ : ByteArray).size = 1 := rfl
      refine ev_q rfl (q_str rfl rfl ⟨by omega, ?_⟩)
      intro s21 hs21
      refine ea rfl (by conv=>lhs;whnf) ?_
      refine ev_nil (hK20 _ ?_); clear hK20
      refine good_ret ?_
      repeat first|refine thenQ_ret ?_|refine blockQ_ret ?_
      refine ret_tmp (st := _) rfl (by conv=>lhs;whnf) rfl ?_
      clear hK16
      first | exact fS (dgO_n (by omega)).symm | (rw [dgO_y (by omega)]; exact fS (dgT_T (s := s15) (by omega) (by rw [hs15, hs13, hs10]; exact dgT_of hn7 (by omega) (by omega) (by omega)) (by assumption))) | (rw [dgO_y (by omega)]; exact fS (dgT_F (s := s15) (by omega) (by rw [hs15, hs13, hs10]; exact dgT_of hn7 (by omega) (by omega) (by omega))))

theorem D_parse (s : ByteArray) (v : Int) (hs : s.size ≤ 1048576) (hp : Lib.parseIntB 64 s.data.toList = .ok v) : Den Tryz.prog 125 [.s (.string s), .s (.int .i64 10), .s (.int .i64 64)] (.tup [.s (.int .i64 v), .s .nilIface]) :=
  den_parse (te := _) ⟨_, Tryz.func125, rfl, rfl⟩ s v (fun w => Tryz.strconv_ParseInt_10_at64_ok s (by omega) v hp w)
theorem D_parseN (s : ByteArray) (hs : s.size ≤ 1048576) (hno : ∀ v, Lib.parseIntB 64 s.data.toList ≠ .ok v) : DenR Tryz.prog 125 [.s (.string s), .s (.int .i64 10), .s (.int .i64 64)] (τ := Int × Nat) (fun _ => True) (fun x => .tup [.s (.int .i64 x.1), .s (.iface 207 (.pointer (some ⟨x.2, 0, none⟩)))]) :=
  denR_parse ⟨_, Tryz.func125, rfl, rfl⟩ s (by kernel_rfl) (by kernel_rfl) hno
    (fun h ev w hv hev => (Tryz.strconv_ParseInt_10_at64_syntax s (by omega) h ev w hv hev).mono fun e w' ⟨N, he, _, _, hb⟩ => ⟨_, N, he, hb⟩)
    (fun h ev w hv hev => (Tryz.strconv_ParseInt_10_at64_range s (by omega) h ev w hv hev).mono fun e w' ⟨N, he, _, _, hb⟩ => ⟨_, N, he, hb⟩)
theorem D_trim45 (s : ByteArray) : Den Tryz.prog 61 [.s (.string s), .s (.string ⟨#[45]⟩)] (.s (.string (tx (Lib.trimPrefix s.data.toList [45])))) :=
  den_trim ⟨_, Tryz.func61, rfl, rfl⟩ (fun s p w => Tryz.strings_TrimPrefix s p w) s ⟨#[45]⟩

-- impl.ReadDecimal
theorem D_impl_ReadDecimal_ok (s : ByteArray) (v : Int) (hs : s.size ≤ 1048576) (hp : Lib.parseIntB 64 s.data.toList = .ok v) : Den Tryz.prog 62 [.s (.string s)] (.tup [.s (.int .i64 (rdN s)), .s (.bool (decide (rdB s)))]) := by
  have hv := parse_in hp
  refine den_of_good Tryz.func62 (by decide) rfl (Nat.le_of_ble_eq_true rfl) (Nat.le_of_ble_eq_true rfl) ?_
  refine good_seq fun K1 hK1 => ?_
  refine gr rfl ?_
  refine ea rfl (by conv=>lhs;whnf) ?_
  refine ea rfl (by conv=>lhs;whnf) ?_
  refine ev_nil (hK1 _ ?_); clear hK1
  refine good_seq fun K2 hK2 => ?_
  refine gr rfl ?_
  refine em rfl (by conv=>lhs;whnf) ?_
  refine ev_q rfl (q_call rfl rfl (rfl) (D_parse s v hs hp) rfl ?_)
  refine em rfl (by conv=>lhs;whnf) ?_
  refine ev_q rfl (q_extractI rfl rfl ?_)
  intro n3 hn3
  have h9 := hn3
  refine ev_q rfl (q_extract rfl rfl ?_)
  refine ea rfl (by conv=>lhs;whnf) ?_
  refine ea rfl (by conv=>lhs;whnf) ?_
  refine ev_nil (hK2 _ ?_); clear hK2
  refine good_seq fun K4 hK4 => ?_
  refine good_seq fun K5 hK5 => ?_
  refine gr rfl ?_
  refine em rfl (by conv=>lhs;whnf) ?_
  refine ev_q rfl (q_neN0 tIf147 rfl ?_)
  refine em rfl (by conv=>lhs;whnf) ?_
  refine em rfl (by conv=>lhs;whnf) ?_
  refine ev_q rfl (q_call rfl rfl (rfl) (D_trim45 s) rfl ?_)
  refine ev_q rfl (q_lenS tStr9 rfl ?_)
  intro n6 hn6
  refine ei rfl rfl rfl ?_
  intro b7 hb7; cases b7
  · replace hb7 := dF hb7
    have h18 : (tx (Lib.trimPrefix s.data.toList [45])).size ≤ 18 := by omega
    refine ev_q rfl (q_pickF rfl (by conv=>lhs;whnf) ?_)
    refine em rfl (by conv=>lhs;whnf) ?_
    refine em rfl (by conv=>lhs;whnf) ?_
    refine ev_q rfl (q_call rfl rfl (rfl) (D_impl_Decimal n3 (by rw [h9]; exact hv)) rfl ?_)
    refine em rfl (by conv=>lhs;whnf) ?_
    refine ev_q rfl (q_str rfl rfl ?_)
    intro b8 hb8; cases b8
    · replace hb8 := snF hb8
      have hy := rd_c3 (s := s) (v := v) (by rw [← h9]; exact hb8) h18
      refine ev_q rfl (q_pickF rfl (by conv=>lhs;whnf) ?_)
      refine ev_nil (hK5 _ ?_); clear hK5
      refine good_condF rfl ?_
      refine good_skip (hK4 _ ?_); clear hK4
      refine good_seq fun K9 hK9 => ?_
      refine gr rfl ?_
      refine em rfl (by conv=>lhs;whnf) ?_
      refine ea rfl (by conv=>lhs;whnf) ?_
      refine ea rfl (by conv=>lhs;whnf) ?_
      refine ev_nil (hK9 _ ?_); clear hK9
      refine good_ret ?_
      repeat first|refine thenQ_ret ?_|refine blockQ_ret ?_
      refine ret_many rfl ?_
      refine res_tmp (by conv=>lhs;whnf) rfl ?_
      refine res_tmp (by conv=>lhs;whnf) rfl ?_
      refine res_nil ?_
      first | exact fTup1 (fI (rdN_no hc).symm) (fTup1 (fF hc) rfl) | exact fTup1 (fI (h9.trans hy.2.symm)) (fTup1 (fT hy.1) rfl)
    · replace hb8 := snT hb8
      have hc := rd_c2 hp (by rw [← h9]; exact hb8)
      refine ev_q rfl (q_pickF rfl (by conv=>lhs;whnf) ?_)
      refine ev_nil (hK5 _ ?_); clear hK5
      refine good_condT rfl ?_
      refine good_seq fun K10 hK10 => ?_
      refine gr rfl ?_
      refine ea rfl (by conv=>lhs;whnf) ?_
      refine ea rfl (by conv=>lhs;whnf) ?_
      refine ev_nil (hK10 _ ?_); clear hK10
      refine good_ret ?_
      repeat first|refine thenQ_ret ?_|refine blockQ_ret ?_
      refine ret_many rfl ?_
      refine res_tmp (by conv=>lhs;whnf) rfl ?_
      refine res_tmp (by conv=>lhs;whnf) rfl ?_
      refine res_nil ?_
      clear hK4
      first | exact fTup1 (fI (rdN_no hc).symm) (fTup1 (fF hc) rfl) | exact fTup1 (fI (h9.trans hy.2.symm)) (fTup1 (fT hy.1) rfl)
  · replace hb7 := dT hb7
    have hc := rd_c1 hp (by omega)
    refine ev_q rfl (q_pickF rfl (by conv=>lhs;whnf) ?_)
    refine em rfl (by conv=>lhs;whnf) ?_
    refine ev_skip rfl ?_
    refine ev_skip rfl ?_
    refine ev_skip rfl ?_
    refine ev_skip rfl ?_
    refine ev_q rfl (q_pickT rfl (by conv=>lhs;whnf) ?_)
    refine ev_nil (hK5 _ ?_); clear hK5
    refine good_condT rfl ?_
    refine good_seq fun K11 hK11 => ?_
    refine gr rfl ?_
    refine ea rfl (by conv=>lhs;whnf) ?_
    refine ea rfl (by conv=>lhs;whnf) ?_
    refine ev_nil (hK11 _ ?_); clear hK11
    refine good_ret ?_
    repeat first|refine thenQ_ret ?_|refine blockQ_ret ?_
    refine ret_many rfl ?_
    refine res_tmp (by conv=>lhs;whnf) rfl ?_
    refine res_tmp (by conv=>lhs;whnf) rfl ?_
    refine res_nil ?_
    clear hK4
    first | exact fTup1 (fI (rdN_no hc).symm) (fTup1 (fF hc) rfl) | exact fTup1 (fI (h9.trans hy.2.symm)) (fTup1 (fT hy.1) rfl)

-- impl.ReadDecimal
theorem D_impl_ReadDecimal_no (s : ByteArray) (hs : s.size ≤ 1048576) (hno : ∀ v, Lib.parseIntB 64 s.data.toList ≠ .ok v) : Den Tryz.prog 62 [.s (.string s)] (.tup [.s (.int .i64 (rdN s)), .s (.bool (decide (rdB s)))]) := by
  have hc := rd_c0 hno
  refine den_of_good Tryz.func62 (by decide) rfl (Nat.le_of_ble_eq_true rfl) (Nat.le_of_ble_eq_true rfl) ?_
  refine good_seq fun K1 hK1 => ?_
  refine gr rfl ?_
  refine ea rfl (by conv=>lhs;whnf) ?_
  refine ea rfl (by conv=>lhs;whnf) ?_
  refine ev_nil (hK1 _ ?_); clear hK1
  refine good_seq fun K2 hK2 => ?_
  refine gr rfl ?_
  refine em rfl (by conv=>lhs;whnf) ?_
  refine ev_k rfl (k_callR [] (D_parseN s hs hno) rfl (rfl) (rfl) trivial rfl (by rintro ⟨n3, e3⟩ hx3_0; exact ⟨trivial, rfl⟩) rfl rfl ?_)
  rintro ⟨n3, e3⟩ hx3_0
  refine em rfl (by conv=>lhs;whnf) ?_
  refine ev_q rfl (q_extractI rfl rfl ?_)
  intro n4 hn4
  refine ev_q rfl (q_extract rfl rfl ?_)
  refine ea rfl (by conv=>lhs;whnf) ?_
  refine ea rfl (by conv=>lhs;whnf) ?_
  refine ev_nil (hK2 _ ?_); clear hK2
  refine good_seq fun K5 hK5 => ?_
  refine good_seq fun K6 hK6 => ?_
  refine gr rfl ?_
  refine em rfl (by conv=>lhs;whnf) ?_
  refine ev_q rfl (q_neN tIf147 rfl ?_)
  refine em rfl (by conv=>lhs;whnf) ?_
  refine ev_skip rfl ?_
  refine ev_skip rfl ?_
  refine ev_skip rfl ?_
  refine ev_skip rfl ?_
  refine ev_q rfl (q_pickT rfl (by conv=>lhs;whnf) ?_)
  refine em rfl (by conv=>lhs;whnf) ?_
  refine ev_skip rfl ?_
  refine ev_skip rfl ?_
  refine ev_skip rfl ?_
  refine ev_skip rfl ?_
  refine ev_q rfl (q_pickT rfl (by conv=>lhs;whnf) ?_)
  refine ev_nil (hK6 _ ?_); clear hK6
  refine good_condT rfl ?_
  refine good_seq fun K7 hK7 => ?_
  refine gr rfl ?_
  refine ea rfl (by conv=>lhs;whnf) ?_
  refine ea rfl (by conv=>lhs;whnf) ?_
  refine ev_nil (hK7 _ ?_); clear hK7
  refine good_ret ?_
  repeat first|refine thenQ_ret ?_|refine blockQ_ret ?_
  refine ret_many rfl ?_
  refine res_tmp (by conv=>lhs;whnf) rfl ?_
  refine res_tmp (by conv=>lhs;whnf) rfl ?_
  refine res_nil ?_
  clear hK5
  exact fTup1 (fI (rdN_no hc).symm) (fTup1 (fF hc) rfl)

theorem D_impl_ReadDecimal (s : ByteArray) (hs : s.size ≤ 1048576) : Den Tryz.prog 62 [.s (.string s)] (.tup [.s (.int .i64 (rdN s)), .s (.bool (decide (rdB s)))]) := by
  cases hp : Lib.parseIntB 64 s.data.toList with
  | ok v => exact D_impl_ReadDecimal_ok s v hs hp
  | «syntax» => exact D_impl_ReadDecimal_no s hs (fun v h => by rw [hp] at h; cases h)
  | range => exact D_impl_ReadDecimal_no s hs (fun v h => by rw [hp] at h; cases h)

theorem D_haspW (s : ByteArray) : Den Tryz.prog 63 [.s (.string s), .s (.string ⟨#[45]⟩)] (.s (.bool (Lib.hasPrefix s.data.toList [45]))) := by
  refine ⟨⟨_, Tryz.func63, rfl, rfl⟩, fun w ok vs hglb hvs => ?_⟩
  cases hvs with
  | cons a t => cases a; cases t with
    | cons b u =>
      cases b; cases u
      refine (Tryz.strings_HasPrefix s ⟨#[45]⟩ w).mono ?_
      rintro e w' ⟨rfl, rfl⟩
      exact ⟨_, rfl, Below.refl _ _, .s rfl⟩
theorem D_trimlW (s : ByteArray) : Den Tryz.prog 59 [.s (.string s), .s (.string ⟨#[48]⟩)] (.s (.string (tx (Lib.trimLeftB s.data.toList 48)))) := by
  refine ⟨⟨_, Tryz.func59, rfl, rfl⟩, fun w ok vs hglb hvs => ?_⟩
  cases hvs with
  | cons a t => cases a; cases t with
    | cons b u =>
      cases b; cases u
      refine (Tryz.strings_TrimLeft_one s 48 (by decide) w).mono ?_
      rintro e w' ⟨rfl, rfl⟩
      exact ⟨_, rfl, Below.refl _ _, .s rfl⟩
theorem D_rplW (s : ByteArray) (hs : s.size ≤ 1048576) : Den Tryz.prog 60 [.s (.string s), .s (.string ⟨#[46]⟩), .s (.string ⟨#[]⟩), .s (.int .i64 1)] (.s (.string (tx (Lib.replace s.data.toList [46] [] 1)))) := by
  obtain ⟨g, hg⟩ : ∃ g, Tryz.prog.globalNamed "internal/bytealg.MaxLen" = some g := Option.isSome_iff_exists.1 (by kernel_rfl)
  have hg0 : Tryz.prog.globalNamed "internal/bytealg.MaxLen" = some 0 := by kernel_rfl
  refine ⟨⟨_, Tryz.func60, rfl, rfl⟩, fun w ok vs hglb hvs => ?_⟩
  obtain ⟨m, hm⟩ := glb_len hglb hg0
  cases hvs with
  | cons a t => cases a; cases t with
    | cons b u => cases b; cases u with
      | cons c v => cases c; cases v with
        | cons d x =>
          cases d; cases x
          refine (Tryz.strings_Replace s ⟨#[46]⟩ ⟨#[]⟩ 1 m w (by omega) hm (by decide) (by show s.size + _ * 0 ≤ _; omega)).mono ?_
          rintro e w' ⟨rfl, hb⟩
          exact ⟨_, rfl, hb, .s rfl⟩
theorem D_trimE : Den Tryz.prog 61 [.s (.string ⟨#[]⟩), .s (.string ⟨#[45]⟩)] (.s (.string ⟨#[]⟩)) := D_trim45 ⟨#[]⟩
theorem D_rplE : Den Tryz.prog 60 [.s (.string ⟨#[]⟩), .s (.string ⟨#[46]⟩), .s (.string ⟨#[]⟩), .s (.int .i64 1)] (.s (.string ⟨#[]⟩)) := D_rplW ⟨#[]⟩ (by decide)
theorem D_trimlE : Den Tryz.prog 59 [.s (.string ⟨#[]⟩), .s (.string ⟨#[48]⟩)] (.s (.string ⟨#[]⟩)) := D_trimlW ⟨#[]⟩
theorem D_haspE : Den Tryz.prog 63 [.s (.string ⟨#[]⟩), .s (.string ⟨#[45]⟩)] (.s (.bool false)) := D_haspW ⟨#[]⟩
theorem D_trimZ (z : Int) : Den Tryz.prog 61 [.s (.string (dgT z)), .s (.string ⟨#[45]⟩)] (.s (.string (tx (dgP z.natAbs)))) := by
  have h := D_trim45 (dgT z)
  rwa [dgT_trim] at h
theorem D_rplZ (n : Nat) (h : n ≤ 99999) : Den Tryz.prog 60 [.s (.string (tx (dgP n))), .s (.string ⟨#[46]⟩), .s (.string ⟨#[]⟩), .s (.int .i64 1)] (.s (.string (tx (dgD n)))) := by
  have h2 := D_rplW (tx (dgP n)) (by
    rw [tx_size]; unfold dgP
    have h1 : n / 100 < 1000000000000000000 := by omega
    have h3 : n / 10 % 10 < 1000000000000000000 := by omega
    have h4 : n % 10 < 1000000000000000000 := by omega
    have h1 := dec_len18.1 h1
    have h3 := dec_len18.1 h3
    have h4 := dec_len18.1 h4
    simp only [List.length_append, List.length_cons]
    omega)
  rwa [tx_data, dgP_rpl] at h2
theorem D_trimlZ (n : Nat) : Den Tryz.prog 59 [.s (.string (tx (dgD n))), .s (.string ⟨#[48]⟩)] (.s (.string (tx (if n = 0 then [] else Lib.decDigits n)))) := by
  have h := D_trimlW (tx (dgD n))
  rwa [tx_data, dgD_trm] at h
theorem D_haspZ (z : Int) : Den Tryz.prog 63 [.s (.string (dgT z)), .s (.string ⟨#[45]⟩)] (.s (.bool (decide (z < 0)))) := by
  have h := D_haspW (dgT z)
  rwa [dgT_pre] at h

-- impl.ReadDegrees
theorem D_impl_ReadDegrees_z (z : Int) (hz : -99999 ≤ z ∧ z ≤ 99999) : Den Tryz.prog 17 [.s (.string (dgT z))] (.tup [.s (.int .i64 z), .s (.bool true)]) := by
  refine den_of_good Tryz.func17 (by decide) rfl (Nat.le_of_ble_eq_true rfl) (Nat.le_of_ble_eq_true rfl) ?_
  refine good_seq fun K1 hK1 => ?_
  refine gr rfl ?_
  refine ea rfl (by conv=>lhs;whnf) ?_
  refine ea rfl (by conv=>lhs;whnf) ?_
  refine ev_nil (hK1 _ ?_); clear hK1
  refine good_seq fun K2 hK2 => ?_
  refine gr rfl ?_
  refine em rfl (by conv=>lhs;whnf) ?_
  refine ev_q rfl (q_call rfl rfl (rfl) (D_trimZ z) rfl ?_)
  refine ev_q rfl (q_call rfl rfl (rfl) (D_rplZ z.natAbs (by omega)) rfl ?_)
  refine ev_q rfl (q_call rfl rfl (rfl) (D_trimlZ z.natAbs) rfl ?_)
  refine ea rfl (by conv=>lhs;whnf) ?_
  refine ev_nil (hK2 _ ?_); clear hK2
  refine good_seq fun K3 hK3 => ?_
  refine good_seq fun K4 hK4 => ?_
  refine gr rfl ?_
  refine em rfl (by conv=>lhs;whnf) ?_
  refine ev_q rfl (q_str rfl rfl ?_)
  intro b5 hb5; cases b5
  · replace hb5 := seF hb5
    have hz0 : ¬ z.natAbs = 0 := fun e => hb5 (by rw [if_pos e]; rfl)
    refine ev_nil (hK4 _ ?_); clear hK4
    refine good_condF rfl ?_
    refine good_skip (hK3 _ ?_); clear hK3
    refine good_seq fun K6 hK6 => ?_
    refine gr rfl ?_
    refine em rfl (by conv=>lhs;whnf) ?_
    refine ev_q rfl (q_call rfl rfl (rfl) (by first | exact (D_impl_ReadDecimal ⟨#[48]⟩ (by decide)) | exact (D_impl_ReadDecimal _ (by rw [if_neg hz0, tx_size]; have := dec_len18.1 (show z.natAbs < 1000000000000000000 by omega); omega))) rfl ?_)
    refine em rfl (by conv=>lhs;whnf) ?_
    refine ev_q rfl (q_extractI rfl rfl ?_)
    intro n7 hn7
    first | replace hn7 : n7 = (z.natAbs : Int) := hn7.trans (rd_0.2.trans (by omega)) | replace hn7 : n7 = (z.natAbs : Int) := hn7.trans (by rw [if_neg hz0]; exact (rd_nat (by omega)).2)
    refine ev_q rfl (q_extractB rfl rfl ?_)
    intro b8 hb8; cases b8
    · first | replace hb8 := dF hb8 | skip
      exfalso; first | exact hb8 rd_0.1 | exact hb8 (by rw [if_neg hz0]; exact (rd_nat (by omega)).1)
    first | replace hb8 := dT hb8 | skip
    refine ea rfl (by conv=>lhs;whnf) ?_
    refine ea rfl (by conv=>lhs;whnf) ?_
    refine ev_nil (hK6 _ ?_); clear hK6
    refine good_seq fun K9 hK9 => ?_
    refine good_seq fun K10 hK10 => ?_
    refine gr rfl ?_
    refine em rfl (by conv=>lhs;whnf) ?_
    refine ev_q rfl (q_callB rfl rfl (rfl) (D_haspZ z) ?_)
    intro b11 hb11; cases b11
    · first | replace hb11 := dF hb11 | skip
      refine ev_nil (hK10 _ ?_); clear hK10
      refine good_condF rfl ?_
      refine good_skip (hK9 _ ?_); clear hK9
      refine good_seq fun K12 hK12 => ?_
      refine good_seq fun K13 hK13 => ?_
      refine gr rfl ?_
      refine em rfl (by conv=>lhs;whnf) ?_
      refine ev_q rfl (q_not rfl rfl ?_)
      refine em rfl (by conv=>lhs;whnf) ?_
      refine em rfl (by conv=>lhs;whnf) ?_
      refine ev_q rfl (q_call rfl rfl (rfl) (D_impl_DegreesText _ (by omega)) rfl ?_)
      refine em rfl (by conv=>lhs;whnf) ?_
      refine ev_q rfl (q_str rfl rfl ?_)
      intro b14 hb14; cases b14
      rotate_left
      · replace hb14 := snT hb14
        exfalso; exact hb14 (dgO_e (by omega) hz)
      replace hb14 := snF hb14
      refine ev_q rfl (q_pickF rfl (by conv=>lhs;whnf) ?_)
      refine ev_nil (hK13 _ ?_); clear hK13
      refine good_condF rfl ?_
      refine good_skip (hK12 _ ?_); clear hK12
      refine good_seq fun K15 hK15 => ?_
      refine gr rfl ?_
      refine em rfl (by conv=>lhs;whnf) ?_
      refine ea rfl (by conv=>lhs;whnf) ?_
      refine ea rfl (by conv=>lhs;whnf) ?_
      refine ev_nil (hK15 _ ?_); clear hK15
      refine good_ret ?_
      repeat first|refine thenQ_ret ?_|refine blockQ_ret ?_
      refine ret_many rfl ?_
      refine res_tmp (by conv=>lhs;whnf) rfl ?_
      refine res_tmp (by conv=>lhs;whnf) rfl ?_
      refine res_nil ?_
      exact fTup1 (fI (by omega)) rfl
    · first | replace hb11 := dT hb11 | skip
      refine ev_nil (hK10 _ ?_); clear hK10
      refine good_condT rfl ?_
      refine gr rfl ?_
      refine em rfl (by conv=>lhs;whnf) ?_
      refine ev_q rfl (q_neg rfl ?_)
      intro n16 hn16
      replace hn16 := neg64 hn16 (by omega) (by omega)
      refine ea rfl (by conv=>lhs;whnf) ?_
      refine ev_nil (hK9 _ ?_); clear hK9
      refine good_seq fun K17 hK17 => ?_
      refine good_seq fun K18 hK18 => ?_
      refine gr rfl ?_
      refine em rfl (by conv=>lhs;whnf) ?_
      refine ev_q rfl (q_not rfl rfl ?_)
      refine em rfl (by conv=>lhs;whnf) ?_
      refine em rfl (by conv=>lhs;whnf) ?_
      refine ev_q rfl (q_call rfl rfl (rfl) (D_impl_DegreesText _ (by omega)) rfl ?_)
      refine em rfl (by conv=>lhs;whnf) ?_
      refine ev_q rfl (q_str rfl rfl ?_)
      intro b19 hb19; cases b19
      rotate_left
      · replace hb19 := snT hb19
        exfalso; exact hb19 (dgO_e (by omega) hz)
      replace hb19 := snF hb19
      refine ev_q rfl (q_pickF rfl (by conv=>lhs;whnf) ?_)
      refine ev_nil (hK18 _ ?_); clear hK18
      refine good_condF rfl ?_
      refine good_skip (hK17 _ ?_); clear hK17
      refine good_seq fun K20 hK20 => ?_
      refine gr rfl ?_
      refine em rfl (by conv=>lhs;whnf) ?_
      refine ea rfl (by conv=>lhs;whnf) ?_
      refine ea rfl (by conv=>lhs;whnf) ?_
      refine ev_nil (hK20 _ ?_); clear hK20
      refine good_ret ?_
      repeat first|refine thenQ_ret ?_|refine blockQ_ret ?_
      refine ret_many rfl ?_
      refine res_tmp (by conv=>lhs;whnf) rfl ?_
      refine res_tmp (by conv=>lhs;whnf) rfl ?_
      refine res_nil ?_
      exact fTup1 (fI (by omega)) rfl
  · replace hb5 := seT hb5
    have hz0 := emp0 hb5
    refine ev_nil (hK4 _ ?_); clear hK4
    refine good_condT rfl ?_
    refine gr rfl ?_
    refine ea rfl (by conv=>lhs;whnf) ?_
    refine ev_nil (hK3 _ ?_); clear hK3
    refine good_seq fun K21 hK21 => ?_
    refine gr rfl ?_
    refine em rfl (by conv=>lhs;whnf) ?_
    refine ev_q rfl (q_call rfl rfl (rfl) (by first | exact (D_impl_ReadDecimal ⟨#[48]⟩ (by decide)) | exact (D_impl_ReadDecimal _ (by rw [if_neg hz0, tx_size]; have := dec_len18.1 (show z.natAbs < 1000000000000000000 by omega); omega))) rfl ?_)
    refine em rfl (by conv=>lhs;whnf) ?_
    refine ev_q rfl (q_extractI rfl rfl ?_)
    intro n22 hn22
    first | replace hn22 : n22 = (z.natAbs : Int) := hn22.trans (rd_0.2.trans (by omega)) | replace hn22 : n22 = (z.natAbs : Int) := hn22.trans (by rw [if_neg hz0]; exact (rd_nat (by omega)).2)
    refine ev_q rfl (q_extractB rfl rfl ?_)
    intro b23 hb23; cases b23
    · first | replace hb23 := dF hb23 | skip
      exfalso; first | exact hb23 rd_0.1 | exact hb23 (by rw [if_neg hz0]; exact (rd_nat (by omega)).1)
    first | replace hb23 := dT hb23 | skip
    refine ea rfl (by conv=>lhs;whnf) ?_
    refine ea rfl (by conv=>lhs;whnf) ?_
    refine ev_nil (hK21 _ ?_); clear hK21
    refine good_seq fun K24 hK24 => ?_
    refine good_seq fun K25 hK25 => ?_
    refine gr rfl ?_
    refine em rfl (by conv=>lhs;whnf) ?_
    refine ev_q rfl (q_callB rfl rfl (rfl) (D_haspZ z) ?_)
    intro b26 hb26; cases b26
    · first | replace hb26 := dF hb26 | skip
      refine ev_nil (hK25 _ ?_); clear hK25
      refine good_condF rfl ?_
      refine good_skip (hK24 _ ?_); clear hK24
      refine good_seq fun K27 hK27 => ?_
      refine good_seq fun K28 hK28 => ?_
      refine gr rfl ?_
      refine em rfl (by conv=>lhs;whnf) ?_
      refine ev_q rfl (q_not rfl rfl ?_)
      refine em rfl (by conv=>lhs;whnf) ?_
      refine em rfl (by conv=>lhs;whnf) ?_
      refine ev_q rfl (q_call rfl rfl (rfl) (D_impl_DegreesText _ (by omega)) rfl ?_)
      refine em rfl (by conv=>lhs;whnf) ?_
      refine ev_q rfl (q_str rfl rfl ?_)
      intro b29 hb29; cases b29
      rotate_left
      · replace hb29 := snT hb29
        exfalso; exact hb29 (dgO_e (by omega) hz)
      replace hb29 := snF hb29
      refine ev_q rfl (q_pickF rfl (by conv=>lhs;whnf) ?_)
      refine ev_nil (hK28 _ ?_); clear hK28
      refine good_condF rfl ?_
      refine good_skip (hK27 _ ?_); clear hK27
      refine good_seq fun K30 hK30 => ?_
      refine gr rfl ?_
      refine em rfl (by conv=>lhs;whnf) ?_
      refine ea rfl (by conv=>lhs;whnf) ?_
      refine ea rfl (by conv=>lhs;whnf) ?_
      refine ev_nil (hK30 _ ?_); clear hK30
      refine good_ret ?_
      repeat first|refine thenQ_ret ?_|refine blockQ_ret ?_
      refine ret_many rfl ?_
      refine res_tmp (by conv=>lhs;whnf) rfl ?_
      refine res_tmp (by conv=>lhs;whnf) rfl ?_
      refine res_nil ?_
      exact fTup1 (fI (by omega)) rfl
    · first | replace hb26 := dT hb26 | skip
      refine ev_nil (hK25 _ ?_); clear hK25
      refine good_condT rfl ?_
      refine gr rfl ?_
      refine em rfl (by conv=>lhs;whnf) ?_
      refine ev_q rfl (q_neg rfl ?_)
      intro n31 hn31
      replace hn31 := neg64 hn31 (by omega) (by omega)
      refine ea rfl (by conv=>lhs;whnf) ?_
      refine ev_nil (hK24 _ ?_); clear hK24
      refine good_seq fun K32 hK32 => ?_
      refine good_seq fun K33 hK33 => ?_
      refine gr rfl ?_
      refine em rfl (by conv=>lhs;whnf) ?_
      refine ev_q rfl (q_not rfl rfl ?_)
      refine em rfl (by conv=>lhs;whnf) ?_
      refine em rfl (by conv=>lhs;whnf) ?_
      refine ev_q rfl (q_call rfl rfl (rfl) (D_impl_DegreesText _ (by omega)) rfl ?_)
      refine em rfl (by conv=>lhs;whnf) ?_
      refine ev_q rfl (q_str rfl rfl ?_)
      intro b34 hb34; cases b34
      rotate_left
      · replace hb34 := snT hb34
        exfalso; exact hb34 (dgO_e (by omega) hz)
      replace hb34 := snF hb34
      refine ev_q rfl (q_pickF rfl (by conv=>lhs;whnf) ?_)
      refine ev_nil (hK33 _ ?_); clear hK33
      refine good_condF rfl ?_
      refine good_skip (hK32 _ ?_); clear hK32
      refine good_seq fun K35 hK35 => ?_
      refine gr rfl ?_
      refine em rfl (by conv=>lhs;whnf) ?_
      refine ea rfl (by conv=>lhs;whnf) ?_
      refine ea rfl (by conv=>lhs;whnf) ?_
      refine ev_nil (hK35 _ ?_); clear hK35
      refine good_ret ?_
      repeat first|refine thenQ_ret ?_|refine blockQ_ret ?_
      refine ret_many rfl ?_
      refine res_tmp (by conv=>lhs;whnf) rfl ?_
      refine res_tmp (by conv=>lhs;whnf) rfl ?_
      refine res_nil ?_
      exact fTup1 (fI (by omega)) rfl

-- impl.ReadDegrees
theorem D_impl_ReadDegrees_e   : Den Tryz.prog 17 [.s (.string ⟨#[]⟩)] (.tup [.s (.int .i64 0), .s (.bool false)]) := by
  refine den_of_good Tryz.func17 (by decide) rfl (Nat.le_of_ble_eq_true rfl) (Nat.le_of_ble_eq_true rfl) ?_
  refine good_seq fun K1 hK1 => ?_
  refine gr rfl ?_
  refine ea rfl (by conv=>lhs;whnf) ?_
  refine ea rfl (by conv=>lhs;whnf) ?_
  refine ev_nil (hK1 _ ?_); clear hK1
  refine good_seq fun K2 hK2 => ?_
  refine gr rfl ?_
  refine em rfl (by conv=>lhs;whnf) ?_
  refine ev_q rfl (q_call rfl rfl (rfl) D_trimE rfl ?_)
  refine ev_q rfl (q_call rfl rfl (rfl) D_rplE rfl ?_)
  refine ev_q rfl (q_call rfl rfl (rfl) D_trimlE rfl ?_)
  refine ea rfl (by conv=>lhs;whnf) ?_
  refine ev_nil (hK2 _ ?_); clear hK2
  refine good_seq fun K3 hK3 => ?_
  refine good_seq fun K4 hK4 => ?_
  refine gr rfl ?_
  refine em rfl (by conv=>lhs;whnf) ?_
  refine ev_q rfl (q_str rfl rfl ?_)
  intro b5 hb5; cases b5
  · replace hb5 := seF hb5
    exfalso; exact hb5 rfl
  replace hb5 := seT hb5
  refine ev_nil (hK4 _ ?_); clear hK4
  refine good_condT rfl ?_
  refine gr rfl ?_
  refine ea rfl (by conv=>lhs;whnf) ?_
  refine ev_nil (hK3 _ ?_); clear hK3
  refine good_seq fun K6 hK6 => ?_
  refine gr rfl ?_
  refine em rfl (by conv=>lhs;whnf) ?_
  refine ev_q rfl (q_call rfl rfl (rfl) (D_impl_ReadDecimal ⟨#[48]⟩ (by decide)) rfl ?_)
  refine em rfl (by conv=>lhs;whnf) ?_
  refine ev_q rfl (q_extractI rfl rfl ?_)
  intro n7 hn7
  replace hn7 : n7 = 0 := hn7.trans rd_0.2
  refine ev_q rfl (q_extractB rfl rfl ?_)
  intro b8 hb8; cases b8
  · first | replace hb8 := dF hb8 | skip
    exfalso; exact hb8 rd_0.1
  first | replace hb8 := dT hb8 | skip
  refine ea rfl (by conv=>lhs;whnf) ?_
  refine ea rfl (by conv=>lhs;whnf) ?_
  refine ev_nil (hK6 _ ?_); clear hK6
  refine good_seq fun K9 hK9 => ?_
  refine good_seq fun K10 hK10 => ?_
  refine gr rfl ?_
  refine em rfl (by conv=>lhs;whnf) ?_
  refine ev_q rfl (q_callB rfl rfl (rfl) D_haspE ?_)
  intro b11 hb11; cases b11
  rotate_left
  · first | replace hb11 := dT hb11 | skip
    exfalso; first | (cases hb11; done) | (simp at hb11; done) | contradiction
  first | replace hb11 := dF hb11 | skip
  refine ev_nil (hK10 _ ?_); clear hK10
  refine good_condF rfl ?_
  refine good_skip (hK9 _ ?_); clear hK9
  refine good_seq fun K12 hK12 => ?_
  refine good_seq fun K13 hK13 => ?_
  refine gr rfl ?_
  refine em rfl (by conv=>lhs;whnf) ?_
  refine ev_q rfl (q_not rfl rfl ?_)
  refine em rfl (by conv=>lhs;whnf) ?_
  refine em rfl (by conv=>lhs;whnf) ?_
  refine ev_q rfl (q_call rfl rfl (rfl) (D_impl_DegreesText _ (by omega)) rfl ?_)
  refine em rfl (by conv=>lhs;whnf) ?_
  refine ev_q rfl (q_str rfl rfl ?_)
  intro b14 hb14; cases b14
  · replace hb14 := snF hb14
    exfalso; exact dgT_ne _ ((dgO_y (by omega)).symm.trans hb14)
  replace hb14 := snT hb14
  refine ev_q rfl (q_pickF rfl (by conv=>lhs;whnf) ?_)
  refine ev_nil (hK13 _ ?_); clear hK13
  refine good_condT rfl ?_
  refine good_seq fun K15 hK15 => ?_
  refine gr rfl ?_
  refine ea rfl (by conv=>lhs;whnf) ?_
  refine ea rfl (by conv=>lhs;whnf) ?_
  refine ev_nil (hK15 _ ?_); clear hK15
  refine good_ret ?_
  repeat first|refine thenQ_ret ?_|refine blockQ_ret ?_
  refine ret_many rfl ?_
  refine res_tmp (by conv=>lhs;whnf) rfl ?_
  refine res_tmp (by conv=>lhs;whnf) rfl ?_
  refine res_nil ?_
  clear hK12
  first | rfl | exact fTup1 (fI (by omega)) rfl

theorem D_impl_ReadDegrees (z : Int) : Den Tryz.prog 17 [.s (.string (dgO z))] (.tup [.s (.int .i64 (if -99999 ≤ z ∧ z ≤ 99999 then z else 0)), .s (.bool (decide (-99999 ≤ z ∧ z ≤ 99999)))]) := by
  by_cases h : -99999 ≤ z ∧ z ≤ 99999
  · rw [dgO_y h, if_pos h, decide_eq_true h]; exact D_impl_ReadDegrees_z z h
  · rw [dgO_n h, if_neg h, decide_eq_false h]; exact D_impl_ReadDegrees_e

-- (*spec.l00Src).next
theorem D_spec_l00Src_next (cs : List Int) (a s : Int) (hc : cs.length ≤ 17592186044416) (hb : byteL cs) (ha : 0 ≤ a ∧ a ≤ 3999999999999999999)  : DenXR Tryz.prog 109 [(1000000, .box 125 (src cs a s))] [.ptr 1000000 0] (τ := Int × Int × Int) (fun (v, a1, s1) => (0 ≤ v ∧ v ≤ 255) ∧ (a ≤ a1 ∧ a1 ≤ a + 1)) (fun (v, a1, s1) => [(1000000, .box 125 (src cs a1 s1))]) (fun (v, a1, s1) => .s (.int .i64 v)) := by
  refine denXR_of_good Tryz.func109 (by decide) rfl (Nat.le_of_ble_eq_true rfl) (Nat.le_of_ble_eq_true rfl) rfl ?_
  refine good_seq fun K1 hK1 => ?_
  refine gr rfl ?_
  refine ea rfl (by conv=>lhs;whnf) ?_
  refine ev_nil (hK1 _ ?_); clear hK1
  refine good_seq fun K2 hK2 => ?_
  refine gr rfl ?_
  refine ea rfl (by conv=>lhs;whnf) ?_
  refine ev_nil (hK2 _ ?_); clear hK2
  refine good_seq fun K3 hK3 => ?_
  refine good_seq fun K4 hK4 => ?_
  refine good_draw 10 hmix (by kernel_rfl) rfl ?_
  refine qm rfl (by conv=>lhs;whnf) ?_
  refine qo_q rfl (q_nilCheck (by conv=>lhs;whnf) rfl ?_)
  refine qo_q rfl (q_fieldAddrP fO125_1 rfl rfl ?_)
  refine qo_q rfl (q_load tA3 rfl ?_)
  refine qm rfl (by conv=>lhs;whnf) ?_
  refine qo_q rfl (q_nilCheck (by conv=>lhs;whnf) rfl ?_)
  refine qo_q rfl (q_fieldAddrP fO125_0 rfl rfl ?_)
  refine qo_q rfl (q_load tA22 rfl ?_)
  refine qo_q rfl (q_len tEs22 rfl ?_)
  intro n5 hn5
  try simp only [List.length_map] at hn5
  refine qo_q rfl (q_int rfl rfl ?_)
  intro b6 hb6; cases b6
  · replace hb6 := dF hb6
    refine qo_nil ?_
    refine ev_nil (hK4 _ ?_); clear hK4
    refine good_condF rfl ?_
    refine good_skip (hK3 _ ?_); clear hK3
    refine good_seq fun K7 hK7 => ?_
    refine gr rfl ?_
    refine em rfl (by conv=>lhs;whnf) ?_
    refine ev_q rfl (q_nilCheck (by conv=>lhs;whnf) rfl ?_)
    refine ev_q rfl (q_fieldAddrP fO125_1 rfl rfl ?_)
    refine ev_q rfl (q_load tA3 rfl ?_)
    refine ei rfl rfl rfl ?_
    intro n8 hn8
    replace hn8 := in64 hn8 (by omega) (by omega)
    refine ev_q rfl (q_nilCheck (by conv=>lhs;whnf) rfl ?_)
    refine ev_q rfl (q_fieldAddrP fO125_1 rfl rfl ?_)
    refine ev_k rfl (k_store sz3 rfl (by conv=>lhs;whnf) rfl rfl rfl (Nat.le_of_ble_eq_true rfl) rfl ?_)
    refine ev_nil (hK7 _ ?_); clear hK7
    refine good_seq fun K9 hK9 => ?_
    refine gr rfl ?_
    refine em rfl (by conv=>lhs;whnf) ?_
    refine em rfl (by conv=>lhs;whnf) ?_
    refine ev_q rfl (q_nilCheck (by conv=>lhs;whnf) rfl ?_)
    refine ev_q rfl (q_fieldAddrP fO125_2 rfl rfl ?_)
    refine ev_q rfl (q_load tA123 rfl ?_)
    refine ei rfl rfl rfl ?_
    intro n10 hn10
    skip
    refine em rfl (by conv=>lhs;whnf) ?_
    refine ev_q rfl (q_conv tK3 tK123 rfl ?_)
    intro n11 hn11
    skip
    refine ei rfl rfl rfl ?_
    intro n12 hn12
    skip
    refine ei rfl rfl rfl ?_
    intro n13 hn13
    skip
    refine ev_q rfl (q_nilCheck (by conv=>lhs;whnf) rfl ?_)
    refine ev_q rfl (q_fieldAddrP fO125_2 rfl rfl ?_)
    refine ev_k rfl (k_store sz123 rfl (by conv=>lhs;whnf) rfl rfl rfl (Nat.le_of_ble_eq_true rfl) rfl ?_)
    refine ev_nil (hK9 _ ?_); clear hK9
    refine good_seq fun K14 hK14 => ?_
    refine good_seq fun K15 hK15 => ?_
    refine good_draw 10 hmix (by kernel_rfl) rfl ?_
    refine qm rfl (by conv=>lhs;whnf) ?_
    refine qo_q rfl (q_nilCheck (by conv=>lhs;whnf) rfl ?_)
    refine qo_q rfl (q_fieldAddrP fO125_1 rfl rfl ?_)
    refine qo_q rfl (q_load tA3 rfl ?_)
    refine qm rfl (by conv=>lhs;whnf) ?_
    refine qo_q rfl (q_nilCheck (by conv=>lhs;whnf) rfl ?_)
    refine qo_q rfl (q_fieldAddrP fO125_0 rfl rfl ?_)
    refine qo_q rfl (q_load tA22 rfl ?_)
    refine qo_q rfl (q_len tEs22 rfl ?_)
    intro n16 hn16
    try simp only [List.length_map] at hn16
    refine qo_q rfl (q_int rfl rfl ?_)
    intro b17 hb17; cases b17
    · replace hb17 := dF hb17
      refine qo_nil ?_
      refine ev_nil (hK15 _ ?_); clear hK15
      refine good_condF rfl ?_
      refine good_skip (hK14 _ ?_); clear hK14
      refine good_seq fun K18 hK18 => ?_
      refine gr rfl ?_
      refine em rfl (by conv=>lhs;whnf) ?_
      refine ev_q rfl (q_nilCheck (by conv=>lhs;whnf) rfl ?_)
      refine ev_q rfl (q_fieldAddrP fO125_2 rfl rfl ?_)
      refine ev_q rfl (q_load tA123 rfl ?_)
      refine ev_q rfl (q_shr rfl rfl ⟨by omega, ?_⟩)
      intro n19 hn19
      skip
      refine ei rfl rfl rfl ?_
      intro n20 hn20
      have hv := and255 hn20
      refine ev_q rfl (q_conv tK123 tK2 rfl ?_)
      intro n21 hn21
      replace hn21 := in64 hn21 (by omega) (by omega)
      refine ea rfl (by conv=>lhs;whnf) ?_
      refine ev_nil (hK18 _ ?_); clear hK18
      refine good_ret ?_
      repeat first|refine thenQ_ret ?_|refine blockQ_ret ?_
      apply ex_3
      case hF =>
        refine fx_tmp rfl (by conv=>lhs;whnf) ?_
        exact ⟨_, conv_eq (by first | rfl | exact fI (by first | omega | grind) | (exfalso; first | omega | grind)), weakH_box (boxEq (by first | rfl | (rw [e]; done) | (rw [e]; rfl) | (simp_all; done))) rfl (weakH_none _), refsIn_ok rfl⟩
      case hR =>
        exact ⟨by omega, by omega⟩
    · replace hb17 := dT hb17
      refine qo_nil ?_
      refine ev_nil (hK15 _ ?_); clear hK15
      refine good_condT rfl ?_
      refine good_seq fun K22 hK22 => ?_
      refine gr rfl ?_
      refine em rfl (by conv=>lhs;whnf) ?_
      refine ea rfl (by conv=>lhs;whnf) ?_
      refine ev_nil (hK22 _ ?_); clear hK22
      refine good_ret ?_
      repeat first|refine thenQ_ret ?_|refine blockQ_ret ?_
      clear hK14
      apply ex_3
      case hF =>
        refine fx_tmp rfl (by conv=>lhs;whnf) ?_
        exact ⟨_, conv_eq (by first | rfl | exact fI (by first | omega | grind) | (exfalso; first | omega | grind)), weakH_box (boxEq (by first | rfl | (rw [e]; done) | (rw [e]; rfl) | (simp_all; done))) rfl (weakH_none _), refsIn_ok rfl⟩
      case hR =>
        exact ⟨by omega, by omega⟩
  · replace hb6 := dT hb6
    obtain ⟨p, hp⟩ := getL (xs := cs) (n := a) (by omega) (by omega)
    have hpb := hb p (List.mem_of_getElem? hp)
    refine qo_nil ?_
    refine ev_nil (hK4 _ ?_); clear hK4
    refine good_condT rfl ?_
    refine good_draw 12 hmix (by kernel_rfl) rfl ?_
    refine qm rfl (by conv=>lhs;whnf) ?_
    refine qo_q rfl (q_nilCheck (by conv=>lhs;whnf) rfl ?_)
    refine qo_q rfl (q_fieldAddrP fO125_0 rfl rfl ?_)
    refine qo_q rfl (q_load tA22 rfl ?_)
    refine qm rfl (by conv=>lhs;whnf) ?_
    refine qo_q rfl (q_nilCheck (by conv=>lhs;whnf) rfl ?_)
    refine qo_q rfl (q_fieldAddrP fO125_1 rfl rfl ?_)
    refine qo_q rfl (q_load tA3 rfl ?_)
    refine qo_q rfl (q_idx tE22 rfl rfl (by omega) (by exact map_get hp) rfl ?_)
    refine qo_q rfl (q_load tA5 rfl ?_)
    refine qo_q rfl (q_conv tK5 tK3 rfl ?_)
    intro n23 hn23
    replace hn23 := in64 hn23 (by omega) (by omega)
    refine qa rfl (by conv=>lhs;whnf) ?_
    refine qo_nil ?_
    refine ev_nil (hK3 _ ?_); clear hK3
    refine good_seq fun K24 hK24 => ?_
    refine gr rfl ?_
    refine em rfl (by conv=>lhs;whnf) ?_
    refine ev_q rfl (q_nilCheck (by conv=>lhs;whnf) rfl ?_)
    refine ev_q rfl (q_fieldAddrP fO125_1 rfl rfl ?_)
    refine ev_q rfl (q_load tA3 rfl ?_)
    refine ei rfl rfl rfl ?_
    intro n25 hn25
    replace hn25 := in64 hn25 (by omega) (by omega)
    refine ev_q rfl (q_nilCheck (by conv=>lhs;whnf) rfl ?_)
    refine ev_q rfl (q_fieldAddrP fO125_1 rfl rfl ?_)
    refine ev_k rfl (k_store sz3 rfl (by conv=>lhs;whnf) rfl rfl rfl (Nat.le_of_ble_eq_true rfl) rfl ?_)
    refine ev_nil (hK24 _ ?_); clear hK24
    refine good_seq fun K26 hK26 => ?_
    refine gr rfl ?_
    refine em rfl (by conv=>lhs;whnf) ?_
    refine em rfl (by conv=>lhs;whnf) ?_
    refine ev_q rfl (q_nilCheck (by conv=>lhs;whnf) rfl ?_)
    refine ev_q rfl (q_fieldAddrP fO125_2 rfl rfl ?_)
    refine ev_q rfl (q_load tA123 rfl ?_)
    refine ei rfl rfl rfl ?_
    intro n27 hn27
    skip
    refine em rfl (by conv=>lhs;whnf) ?_
    refine ev_q rfl (q_conv tK3 tK123 rfl ?_)
    intro n28 hn28
    skip
    refine ei rfl rfl rfl ?_
    intro n29 hn29
    skip
    refine ei rfl rfl rfl ?_
    intro n30 hn30
    skip
    refine ev_q rfl (q_nilCheck (by conv=>lhs;whnf) rfl ?_)
    refine ev_q rfl (q_fieldAddrP fO125_2 rfl rfl ?_)
    refine ev_k rfl (k_store sz123 rfl (by conv=>lhs;whnf) rfl rfl rfl (Nat.le_of_ble_eq_true rfl) rfl ?_)
    refine ev_nil (hK26 _ ?_); clear hK26
    refine good_seq fun K31 hK31 => ?_
    refine good_seq fun K32 hK32 => ?_
    refine good_draw 10 hmix (by kernel_rfl) rfl ?_
    refine qm rfl (by conv=>lhs;whnf) ?_
    refine qo_q rfl (q_nilCheck (by conv=>lhs;whnf) rfl ?_)
    refine qo_q rfl (q_fieldAddrP fO125_1 rfl rfl ?_)
    refine qo_q rfl (q_load tA3 rfl ?_)
    refine qm rfl (by conv=>lhs;whnf) ?_
    refine qo_q rfl (q_nilCheck (by conv=>lhs;whnf) rfl ?_)
    refine qo_q rfl (q_fieldAddrP fO125_0 rfl rfl ?_)
    refine qo_q rfl (q_load tA22 rfl ?_)
    refine qo_q rfl (q_len tEs22 rfl ?_)
    intro n33 hn33
    try simp only [List.length_map] at hn33
    refine qo_q rfl (q_int rfl rfl ?_)
    intro b34 hb34; cases b34
    · replace hb34 := dF hb34
      refine qo_nil ?_
      refine ev_nil (hK32 _ ?_); clear hK32
      refine good_condF rfl ?_
      refine good_skip (hK31 _ ?_); clear hK31
      refine good_seq fun K35 hK35 => ?_
      refine gr rfl ?_
      refine em rfl (by conv=>lhs;whnf) ?_
      refine ev_q rfl (q_nilCheck (by conv=>lhs;whnf) rfl ?_)
      refine ev_q rfl (q_fieldAddrP fO125_2 rfl rfl ?_)
      refine ev_q rfl (q_load tA123 rfl ?_)
      refine ev_q rfl (q_shr rfl rfl ⟨by omega, ?_⟩)
      intro n36 hn36
      skip
      refine ei rfl rfl rfl ?_
      intro n37 hn37
      have hv := and255 hn37
      refine ev_q rfl (q_conv tK123 tK2 rfl ?_)
      intro n38 hn38
      replace hn38 := in64 hn38 (by omega) (by omega)
      refine ea rfl (by conv=>lhs;whnf) ?_
      refine ev_nil (hK35 _ ?_); clear hK35
      refine good_ret ?_
      repeat first|refine thenQ_ret ?_|refine blockQ_ret ?_
      apply ex_3
      case hF =>
        refine fx_tmp rfl (by conv=>lhs;whnf) ?_
        exact ⟨_, conv_eq (by first | rfl | exact fI (by first | omega | grind) | (exfalso; first | omega | grind)), weakH_box (boxEq (by first | rfl | (rw [e]; done) | (rw [e]; rfl) | (simp_all; done))) rfl (weakH_none _), refsIn_ok rfl⟩
      case hR =>
        exact ⟨by omega, by omega⟩
    · replace hb34 := dT hb34
      refine qo_nil ?_
      refine ev_nil (hK32 _ ?_); clear hK32
      refine good_condT rfl ?_
      refine good_seq fun K39 hK39 => ?_
      refine gr rfl ?_
      refine em rfl (by conv=>lhs;whnf) ?_
      refine ea rfl (by conv=>lhs;whnf) ?_
      refine ev_nil (hK39 _ ?_); clear hK39
      refine good_ret ?_
      repeat first|refine thenQ_ret ?_|refine blockQ_ret ?_
      clear hK31
      apply ex_3
      case hF =>
        refine fx_tmp rfl (by conv=>lhs;whnf) ?_
        exact ⟨_, conv_eq (by first | rfl | exact fI (by first | omega | grind) | (exfalso; first | omega | grind)), weakH_box (boxEq (by first | rfl | (rw [e]; done) | (rw [e]; rfl) | (simp_all; done))) rfl (weakH_none _), refsIn_ok rfl⟩
      case hR =>
        exact ⟨by omega, by omega⟩

-- (*spec.l00Src).pick
theorem D_spec_l00Src_pick (cs : List Int) (a s : Int) (n : Int) (hc : cs.length ≤ 17592186044416) (hb : byteL cs) (ha : 0 ≤ a ∧ a ≤ 3999999999999999998) (hn : -1000000000000 ≤ n ∧ n ≤ 1000000000000) : DenXR Tryz.prog 50 [(1000000, .box 125 (src cs a s))] [.ptr 1000000 0, .s (.int .i64 n)] (τ := Int × Int × Int) (fun (v, a1, s1) => (0 ≤ v ∧ (v = 0 ∨ v < n)) ∧ (a ≤ a1 ∧ a1 ≤ a + 2)) (fun (v, a1, s1) => [(1000000, .box 125 (src cs a1 s1))]) (fun (v, a1, s1) => .s (.int .i64 v)) := by
  refine denXR_of_good Tryz.func50 (by decide) rfl (Nat.le_of_ble_eq_true rfl) (Nat.le_of_ble_eq_true rfl) rfl ?_
  refine good_seq fun K1 hK1 => ?_
  refine gr rfl ?_
  refine ea rfl (by conv=>lhs;whnf) ?_
  refine ev_nil (hK1 _ ?_); clear hK1
  refine good_seq fun K2 hK2 => ?_
  refine good_seq fun K3 hK3 => ?_
  refine gr rfl ?_
  refine em rfl (by conv=>lhs;whnf) ?_
  refine ei rfl rfl rfl ?_
  intro b4 hb4; cases b4
  · replace hb4 := dF hb4
    refine ev_nil (hK3 _ ?_); clear hK3
    refine good_condF rfl ?_
    refine good_skip (hK2 _ ?_); clear hK2
    refine good_seq fun K5 hK5 => ?_
    refine gr rfl ?_
    refine em rfl (by conv=>lhs;whnf) ?_
    refine ev_k rfl (k_callR [(1000000, 1000000)] (D_spec_l00Src_next cs _ _  hc hb (by omega)) rfl (rfl) (rfl) ⟨rfl, trivial⟩ rfl (by rintro ⟨v6, a6, s6⟩ ⟨hx6_0, hx6_1⟩; exact ⟨⟨rfl, rfl, trivial⟩, rfl⟩) rfl rfl ?_)
    rintro ⟨v6, a6, s6⟩ ⟨hx6_0, hx6_1⟩
    refine ea rfl (by conv=>lhs;whnf) ?_
    refine ev_nil (hK5 _ ?_); clear hK5
    refine good_seq fun K7 hK7 => ?_
    refine good_seq fun K8 hK8 => ?_
    refine gr rfl ?_
    refine em rfl (by conv=>lhs;whnf) ?_
    refine ei rfl rfl rfl ?_
    intro b9 hb9; cases b9
    · replace hb9 := dF hb9
      refine ev_nil (hK8 _ ?_); clear hK8
      refine good_condF rfl ?_
      refine good_skip (hK7 _ ?_); clear hK7
      refine good_seq fun K10 hK10 => ?_
      refine gr rfl ?_
      refine em rfl (by conv=>lhs;whnf) ?_
      refine em rfl (by conv=>lhs;whnf) ?_
      refine ei rfl rfl rfl ⟨by omega, ?_⟩
      intro n11 hn11
      replace hn11 := remE hn11 (by omega)
      have hr : 0 ≤ n11 ∧ n11 < n := by rw [hn11]; exact ⟨Int.emod_nonneg _ (by omega), Int.emod_lt_of_pos _ (by omega)⟩
      refine ea rfl (by conv=>lhs;whnf) ?_
      refine ev_nil (hK10 _ ?_); clear hK10
      refine good_ret ?_
      repeat first|refine thenQ_ret ?_|refine blockQ_ret ?_
      apply ex_3
      case hF =>
        refine fx_tmp rfl (by conv=>lhs;whnf) ?_
        exact ⟨_, conv_eq (by first | rfl | exact fI (by first | omega | grind) | (exfalso; first | omega | grind)), weakH_box (boxEq (by first | rfl | (rw [e]; done) | (rw [e]; rfl) | (simp_all; done))) rfl (weakH_none _), refsIn_ok rfl⟩
      case hR =>
        exact ⟨by omega, by omega⟩
    · replace hb9 := dT hb9
      refine ev_nil (hK8 _ ?_); clear hK8
      refine good_condT rfl ?_
      refine gr rfl ?_
      refine em rfl (by conv=>lhs;whnf) ?_
      refine ei rfl rfl rfl ?_
      intro n12 hn12
      replace hn12 := in64 hn12 (by omega) (by omega)
      refine em rfl (by conv=>lhs;whnf) ?_
      refine ev_k rfl (k_callR [(1000000, 1000000)] (D_spec_l00Src_next cs _ _  hc hb (by omega)) rfl (rfl) (rfl) ⟨rfl, trivial⟩ rfl (by rintro ⟨v13, a13, s13⟩ ⟨hx13_0, hx13_1⟩; exact ⟨⟨rfl, rfl, trivial⟩, rfl⟩) rfl rfl ?_)
      rintro ⟨v13, a13, s13⟩ ⟨hx13_0, hx13_1⟩
      refine ei rfl rfl rfl ?_
      intro n14 hn14
      replace hn14 := in64 hn14 (by omega) (by omega)
      refine ea rfl (by conv=>lhs;whnf) ?_
      refine ev_nil (hK7 _ ?_); clear hK7
      refine good_seq fun K15 hK15 => ?_
      refine gr rfl ?_
      refine em rfl (by conv=>lhs;whnf) ?_
      refine em rfl (by conv=>lhs;whnf) ?_
      refine ei rfl rfl rfl ⟨by omega, ?_⟩
      intro n16 hn16
      replace hn16 := remE hn16 (by omega)
      have hr : 0 ≤ n16 ∧ n16 < n := by rw [hn16]; exact ⟨Int.emod_nonneg _ (by omega), Int.emod_lt_of_pos _ (by omega)⟩
      refine ea rfl (by conv=>lhs;whnf) ?_
      refine ev_nil (hK15 _ ?_); clear hK15
      refine good_ret ?_
      repeat first|refine thenQ_ret ?_|refine blockQ_ret ?_
      apply ex_3
      case hF =>
        refine fx_tmp rfl (by conv=>lhs;whnf) ?_
        exact ⟨_, conv_eq (by first | rfl | exact fI (by first | omega | grind) | (exfalso; first | omega | grind)), weakH_box (boxEq (by first | rfl | (rw [e]; done) | (rw [e]; rfl) | (simp_all; done))) rfl (weakH_none _), refsIn_ok rfl⟩
      case hR =>
        exact ⟨by omega, by omega⟩
  · replace hb4 := dT hb4
    refine ev_nil (hK3 _ ?_); clear hK3
    refine good_condT rfl ?_
    refine good_seq fun K17 hK17 => ?_
    refine gr rfl ?_
    refine ea rfl (by conv=>lhs;whnf) ?_
    refine ev_nil (hK17 _ ?_); clear hK17
    refine good_ret ?_
    repeat first|refine thenQ_ret ?_|refine blockQ_ret ?_
    clear hK2
    apply ex_3
    case hF =>
      refine fx_tmp rfl (by conv=>lhs;whnf) ?_
      exact ⟨_, conv_eq (by first | rfl | exact fI (by first | omega | grind) | (exfalso; first | omega | grind)), weakH_box (boxEq (by first | rfl | (rw [e]; done) | (rw [e]; rfl) | (simp_all; done))) rfl (weakH_none _), refsIn_ok rfl⟩
    case hR =>
      exact ⟨by omega, by omega⟩

-- (*spec.l00Src).one
theorem D_spec_l00Src_one (cs : List Int) (a s : Int) (n : Int) (hc : cs.length ≤ 17592186044416) (hb : byteL cs) (ha : 0 ≤ a ∧ a ≤ 3999999999999999998) (hn : -1000000000000 ≤ n ∧ n ≤ 1000000000000) : DenXR Tryz.prog 51 [(1000000, .box 125 (src cs a s))] [.ptr 1000000 0, .s (.int .i64 n)] (τ := Bool × Int × Int) (fun (v, a1, s1) => a ≤ a1 ∧ a1 ≤ a + 2) (fun (v, a1, s1) => [(1000000, .box 125 (src cs a1 s1))]) (fun (v, a1, s1) => .s (.bool v)) := by
  refine denXR_of_good Tryz.func51 (by decide) rfl (Nat.le_of_ble_eq_true rfl) (Nat.le_of_ble_eq_true rfl) rfl ?_
  refine good_seq fun K1 hK1 => ?_
  refine gr rfl ?_
  refine ea rfl (by conv=>lhs;whnf) ?_
  refine ev_nil (hK1 _ ?_); clear hK1
  refine good_seq fun K2 hK2 => ?_
  refine gr rfl ?_
  refine em rfl (by conv=>lhs;whnf) ?_
  refine em rfl (by conv=>lhs;whnf) ?_
  refine ev_k rfl (k_callR [(1000000, 1000000)] (D_spec_l00Src_pick cs _ _ _ hc hb (by omega) (by omega)) rfl (rfl) (rfl) ⟨rfl, trivial⟩ rfl (by rintro ⟨v3, a3, s3⟩ ⟨hx3_0, hx3_1⟩; exact ⟨⟨rfl, rfl, trivial⟩, rfl⟩) rfl rfl ?_)
  rintro ⟨v3, a3, s3⟩ ⟨hx3_0, hx3_1⟩
  refine ei rfl rfl rfl ?_
  intro b4 hb4; cases b4
  · replace hb4 := eqF hb4
    refine ea rfl (by conv=>lhs;whnf) ?_
    refine ev_nil (hK2 _ ?_); clear hK2
    refine good_ret ?_
    repeat first|refine thenQ_ret ?_|refine blockQ_ret ?_
    apply ex_3
    case hF =>
      refine fx_tmp rfl (by conv=>lhs;whnf) ?_
      exact ⟨_, conv_eq (by first | rfl | exact fT (by first | omega | grind) | exact fF (by first | omega | grind) | exact fT' (by first | omega | grind) | (exfalso; first | omega | grind)), weakH_box (boxEq (by first | rfl | (rw [e]; done) | (rw [e]; rfl) | (simp_all; done))) rfl (weakH_none _), refsIn_ok rfl⟩
    case hR =>
      exact ⟨by omega, by omega⟩
  · replace hb4 := eqT hb4
    refine ea rfl (by conv=>lhs;whnf) ?_
    refine ev_nil (hK2 _ ?_); clear hK2
    refine good_ret ?_
    repeat first|refine thenQ_ret ?_|refine blockQ_ret ?_
    apply ex_3
    case hF =>
      refine fx_tmp rfl (by conv=>lhs;whnf) ?_
      exact ⟨_, conv_eq (by first | rfl | exact fT (by first | omega | grind) | exact fF (by first | omega | grind) | exact fT' (by first | omega | grind) | (exfalso; first | omega | grind)), weakH_box (boxEq (by first | rfl | (rw [e]; done) | (rw [e]; rfl) | (simp_all; done))) rfl (weakH_none _), refsIn_ok rfl⟩
    case hR =>
      exact ⟨by omega, by omega⟩

-- (*spec.l00Src).among
theorem D_spec_l00Src_among (cs : List Int) (a s : Int) (xs : List Int) (hc : cs.length ≤ 17592186044416) (hb : byteL cs) (ha : 0 ≤ a ∧ a ≤ 3999999999999999998) (hx : 1 ≤ xs.length ∧ xs.length ≤ 1000000) : DenXR Tryz.prog 52 [(1000000, .box 125 (src cs a s)), (1000001, .row 2 1 (xs.map ci))] [.ptr 1000000 0, .own 1000001 xs.length] (τ := Int × Int × Int) (fun (v, a1, s1) => (v ∈ xs) ∧ (a ≤ a1 ∧ a1 ≤ a + 2)) (fun (v, a1, s1) => [(1000000, .box 125 (src cs a1 s1)), (1000001, .row 2 1 (xs.map ci))]) (fun (v, a1, s1) => .s (.int .i64 v)) := by
  refine denXR_of_good Tryz.func52 (by decide) rfl (Nat.le_of_ble_eq_true rfl) (Nat.le_of_ble_eq_true rfl) rfl ?_
  refine good_seq fun K1 hK1 => ?_
  refine gr rfl ?_
  refine ea rfl (by conv=>lhs;whnf) ?_
  refine ev_nil (hK1 _ ?_); clear hK1
  refine good_seq fun K2 hK2 => ?_
  refine gr rfl ?_
  refine em rfl (by conv=>lhs;whnf) ?_
  refine em rfl (by conv=>lhs;whnf) ?_
  refine em rfl (by conv=>lhs;whnf) ?_
  refine ev_q rfl (q_len tEs50 rfl ?_)
  intro n3 hn3
  try simp only [List.length_map] at hn3
  refine ev_k rfl (k_callR [(1000000, 1000000)] (D_spec_l00Src_pick cs _ _ _ hc hb (by omega) (by omega)) rfl (rfl) (rfl) ⟨rfl, trivial⟩ rfl (by rintro ⟨v4, a4, s4⟩ ⟨hx4_0, hx4_1⟩; exact ⟨⟨rfl, rfl, trivial⟩, rfl⟩) rfl rfl ?_)
  rintro ⟨v4, a4, s4⟩ ⟨hx4_0, hx4_1⟩
  obtain ⟨p, hp⟩ := getL (xs := xs) (n := v4) (by omega) (by omega)
  refine ev_q rfl (q_idxO tE50 rfl rfl rfl (by omega) (by omega) rfl ?_)
  refine ev_q rfl (q_loadE tA2 rfl rfl (by exact map_get hp) rfl ?_)
  refine ea rfl (by conv=>lhs;whnf) ?_
  refine ev_nil (hK2 _ ?_); clear hK2
  refine good_ret ?_
  repeat first|refine thenQ_ret ?_|refine blockQ_ret ?_
  apply ex_3
  case hF =>
    refine fx_tmp rfl (by conv=>lhs;whnf) ?_
    exact ⟨_, conv_eq (by first | rfl | exact fI (by first | omega | grind) | (exfalso; first | omega | grind)), weakH_box (boxEq (by first | rfl | (rw [e]; done) | (rw [e]; rfl) | (simp_all; done))) rfl (weakH_row (rowEq (by first | rfl | (rw [e]; done) | (rw [e]; rfl) | (simp_all; done))) (weakH_none _)), refsIn_ok rfl⟩
  case hR =>
    exact ⟨List.mem_of_getElem? hp, by omega, by omega⟩

-- spec.l00From
theorem D_spec_l00From (cs : List Int)  : DenX Tryz.prog 43 [] [.lst 1 (cs.map cb)] [(5, .box 125 (src cs 0 0))] (.ptr 5 0) := by
  refine denX_of_good Tryz.func43 (by decide) rfl (Nat.le_of_ble_eq_true rfl) (Nat.le_of_ble_eq_true rfl) rfl ?_
  refine good_seq fun K1 hK1 => ?_
  refine gr rfl ?_
  refine ea rfl (by conv=>lhs;whnf) ?_
  refine ev_nil (hK1 _ ?_); clear hK1
  refine good_seq fun K2 hK2 => ?_
  refine gr rfl ?_
  refine em rfl (by conv=>lhs;whnf) ?_
  refine ev_k rfl (k_build zA125 pl125 (rfl) ?_)
  refine ev_k rfl (k_box (by conv=>lhs;whnf) rfl rfl rfl ?_)
  refine ea rfl (by conv=>lhs;whnf) ?_
  refine ev_nil (hK2 _ ?_); clear hK2
  refine good_ret ?_
  repeat first|refine thenQ_ret ?_|refine blockQ_ret ?_
  refine fx_tmp rfl (by conv=>lhs;whnf) ?_
  exact ⟨_, conv_eq (by first | rfl | (rw [e]; done) | (rw [e]; rfl) | exact ownEq (by first | omega | simp_all)), weakH_box (boxEq (by first | rfl | (rw [e]; done) | (rw [e]; rfl) | (simp_all; done))) rfl (weakH_none _), refsIn_ok rfl⟩

-- spec.l02DrawDegrees
theorem D_spec_l02DrawDegrees (cs : List Int) (a s : Int) (hc : cs.length ≤ 17592186044416) (hb : byteL cs) (ha : 0 ≤ a ∧ a ≤ 3999999999999999996)  : DenXR Tryz.prog 44 [(1000000, .box 125 (src cs a s))] [.ptr 1000000 0] (τ := Int × Int × Int) (fun (v, a1, s1) => (-100000000000 ≤ v ∧ v ≤ 100000000000) ∧ (a ≤ a1 ∧ a1 ≤ a + 4)) (fun (v, a1, s1) => [(1000000, .box 125 (src cs a1 s1))]) (fun (v, a1, s1) => .s (.int .i64 v)) := by
  refine denXR_of_good Tryz.func44 (by decide) rfl (Nat.le_of_ble_eq_true rfl) (Nat.le_of_ble_eq_true rfl) rfl ?_
  refine good_seq fun K1 hK1 => ?_
  refine gr rfl ?_
  refine ea rfl (by conv=>lhs;whnf) ?_
  refine ev_nil (hK1 _ ?_); clear hK1
  refine good_seq fun K2 hK2 => ?_
  refine good_seq fun K3 hK3 => ?_
  refine gr rfl ?_
  refine em rfl (by conv=>lhs;whnf) ?_
  refine ev_k rfl (k_callR [(1000000, 1000000)] (D_spec_l00Src_one cs _ _ _ hc hb (by omega) (by omega)) rfl (rfl) (rfl) ⟨rfl, trivial⟩ rfl (by rintro ⟨v4, a4, s4⟩ ⟨hx4_0, hx4_1⟩; exact ⟨⟨rfl, rfl, trivial⟩, rfl⟩) rfl rfl ?_)
  rintro ⟨v4, a4, s4⟩ ⟨hx4_0, hx4_1⟩
  cases v4
  · refine ev_nil (hK3 _ ?_); clear hK3
    refine good_condF rfl ?_
    refine good_skip (hK2 _ ?_); clear hK2
    refine good_seq fun K5 hK5 => ?_
    refine gr rfl ?_
    refine em rfl (by conv=>lhs;whnf) ?_
    refine ev_k rfl (k_callR [(1000000, 1000000)] (D_spec_l00Src_pick cs _ _ _ hc hb (by omega) (by omega)) rfl (rfl) (rfl) ⟨rfl, trivial⟩ rfl (by rintro ⟨v6, a6, s6⟩ ⟨hx6_0, hx6_1⟩; exact ⟨⟨rfl, rfl, trivial⟩, rfl⟩) rfl rfl ?_)
    rintro ⟨v6, a6, s6⟩ ⟨hx6_0, hx6_1⟩
    refine ei rfl rfl rfl ?_
    intro n7 hn7
    replace hn7 := in64 hn7 (by omega) (by omega)
    refine ea rfl (by conv=>lhs;whnf) ?_
    refine ev_nil (hK5 _ ?_); clear hK5
    refine good_ret ?_
    repeat first|refine thenQ_ret ?_|refine blockQ_ret ?_
    apply ex_3
    case hF =>
      refine fx_tmp rfl (by conv=>lhs;whnf) ?_
      exact ⟨_, conv_eq (by first | rfl | exact fI (by first | omega | grind) | (exfalso; first | omega | grind)), weakH_box (boxEq (by first | rfl | (rw [e]; done) | (rw [e]; rfl) | (simp_all; done))) rfl (weakH_none _), refsIn_ok rfl⟩
    case hR =>
      exact ⟨by omega, by omega⟩
  · refine ev_nil (hK3 _ ?_); clear hK3
    refine good_condT rfl ?_
    refine good_seq fun K8 hK8 => ?_
    refine gr rfl ?_
    refine em rfl (by conv=>lhs;whnf) ?_
    refine ev_k rfl (k_lit tE50 zA2 rfl rfl (by decide) (by decide) rfl rfl rfl ?_)
    refine ev_k rfl (k_callR [(1000000, 1000000), (1000001, 6)] (D_spec_l00Src_among cs _ _ [(-1), 0, 18000, 18001, 2000, 10000] hc hb (by omega) (by decide)) rfl (rfl) (rfl) ⟨rfl, ⟨rfl, trivial⟩⟩ rfl (by rintro ⟨v9, a9, s9⟩ ⟨hx9_0, hx9_1⟩; exact ⟨⟨rfl, rfl, ⟨rfl, ⟨rfl, rfl, by first | exact Nat.le_refl _ | (simp; done) | (simp; omega)⟩, trivial⟩⟩, rfl⟩) rfl rfl ?_)
    rintro ⟨v9, a9, s9⟩ ⟨hx9_0, hx9_1⟩
    simp only [List.mem_cons, List.not_mem_nil, or_false] at hx9_0
    refine ea rfl (by conv=>lhs;whnf) ?_
    refine ev_nil (hK8 _ ?_); clear hK8
    refine good_ret ?_
    repeat first|refine thenQ_ret ?_|refine blockQ_ret ?_
    clear hK2
    apply ex_3
    case hF =>
      refine fx_tmp rfl (by conv=>lhs;whnf) ?_
      exact ⟨_, conv_eq (by first | rfl | exact fI (by first | omega | grind) | (exfalso; first | omega | grind)), weakH_box (boxEq (by first | rfl | (rw [e]; done) | (rw [e]; rfl) | (simp_all; done))) rfl (weakH_none _), refsIn_ok rfl⟩
    case hR =>
      exact ⟨by omega, by omega⟩

-- spec.DrawWaterDensity
theorem D_spec_DrawWaterDensity (cs : List Int) (hc : cs.length ≤ 17592186044416) (hb : byteL cs) : DenXR Tryz.prog 7 [] [.lst 1 (cs.map cb)] (τ := Int) (fun t => -100000000000 ≤ t ∧ t ≤ 100000000000) (fun t => []) (fun t => .s (.int .i64 t)) := by
  refine denXR_of_good Tryz.func7 (by decide) rfl (Nat.le_of_ble_eq_true rfl) (Nat.le_of_ble_eq_true rfl) rfl ?_
  refine good_seq fun K1 hK1 => ?_
  refine gr rfl ?_
  refine ea rfl (by conv=>lhs;whnf) ?_
  refine ev_nil (hK1 _ ?_); clear hK1
  refine good_seq fun K2 hK2 => ?_
  refine gr rfl ?_
  refine em rfl (by conv=>lhs;whnf) ?_
  refine ev_k rfl (k_callX [(5, 900000)] (D_spec_l00From cs) rfl (rfl) (rfl) trivial ⟨⟨rfl, show (900000 : Nat) < 1000000 by decide⟩, trivial⟩ rfl rfl rfl ?_)
  refine ea rfl (by conv=>lhs;whnf) ?_
  refine ev_nil (hK2 _ ?_); clear hK2
  refine good_seq fun K3 hK3 => ?_
  refine gr rfl ?_
  refine em rfl (by conv=>lhs;whnf) ?_
  refine ev_k rfl (k_callR [(1000000, 900000)] (D_spec_l02DrawDegrees cs _ _  hc hb (by omega)) rfl (rfl) (rfl) ⟨rfl, trivial⟩ rfl (by rintro ⟨v4, a4, s4⟩ ⟨hx4_0, hx4_1⟩; exact ⟨⟨rfl, rfl, trivial⟩, rfl⟩) rfl rfl ?_)
  rintro ⟨v4, a4, s4⟩ ⟨hx4_0, hx4_1⟩
  refine ea rfl (by conv=>lhs;whnf) ?_
  refine ev_nil (hK3 _ ?_); clear hK3
  refine good_ret ?_
  repeat first|refine thenQ_ret ?_|refine blockQ_ret ?_
  apply ex_1
  case hF =>
    refine fx_tmp rfl (by conv=>lhs;whnf) ?_
    exact ⟨_, conv_eq (by first | rfl | exact fI (by first | omega | grind) | (exfalso; first | omega | grind)), weakH_none _, refsIn_ok rfl⟩
  case hR =>
    omega

-- spec.DrawFlowForPower
theorem D_spec_DrawFlowForPower (cs : List Int) (hc : cs.length ≤ 17592186044416) (hb : byteL cs) : DenXR Tryz.prog 12 [] [.lst 1 (cs.map cb)] (τ := Int × Int × Int) (fun (p, w, c) => (-1 ≤ p ∧ p ≤ 100000001) ∧ (-100000000000 ≤ w ∧ w ≤ 100000000000) ∧ (-100000000000 ≤ c ∧ c ≤ 100000000000)) (fun (p, w, c) => []) (fun (p, w, c) => .tup [.s (.int .i64 p), .s (.int .i64 w), .s (.int .i64 c)]) := by
  refine denXR_of_good Tryz.func12 (by decide) rfl (Nat.le_of_ble_eq_true rfl) (Nat.le_of_ble_eq_true rfl) rfl ?_
  refine good_seq fun K1 hK1 => ?_
  refine gr rfl ?_
  refine ea rfl (by conv=>lhs;whnf) ?_
  refine ea rfl (by conv=>lhs;whnf) ?_
  refine ea rfl (by conv=>lhs;whnf) ?_
  refine ev_nil (hK1 _ ?_); clear hK1
  refine good_seq fun K2 hK2 => ?_
  refine gr rfl ?_
  refine em rfl (by conv=>lhs;whnf) ?_
  refine ev_k rfl (k_callX [(5, 900000)] (D_spec_l00From cs) rfl (rfl) (rfl) trivial ⟨⟨rfl, show (900000 : Nat) < 1000000 by decide⟩, trivial⟩ rfl rfl rfl ?_)
  refine ea rfl (by conv=>lhs;whnf) ?_
  refine ev_nil (hK2 _ ?_); clear hK2
  refine good_seq fun K3 hK3 => ?_
  refine gr rfl ?_
  refine em rfl (by conv=>lhs;whnf) ?_
  refine ev_k rfl (k_callR [(1000000, 900000)] (D_spec_l00Src_pick cs _ _ _ hc hb (by omega) (by omega)) rfl (rfl) (rfl) ⟨rfl, trivial⟩ rfl (by rintro ⟨v4, a4, s4⟩ ⟨hx4_0, hx4_1⟩; exact ⟨⟨rfl, rfl, trivial⟩, rfl⟩) rfl rfl ?_)
  rintro ⟨v4, a4, s4⟩ ⟨hx4_0, hx4_1⟩
  refine ei rfl rfl rfl ?_
  intro n5 hn5
  replace hn5 := in64 hn5 (by omega) (by omega)
  refine ea rfl (by conv=>lhs;whnf) ?_
  refine ev_nil (hK3 _ ?_); clear hK3
  refine good_seq fun K6 hK6 => ?_
  refine good_seq fun K7 hK7 => ?_
  refine gr rfl ?_
  refine em rfl (by conv=>lhs;whnf) ?_
  refine ev_k rfl (k_callR [(1000000, 900000)] (D_spec_l00Src_one cs _ _ _ hc hb (by omega) (by omega)) rfl (rfl) (rfl) ⟨rfl, trivial⟩ rfl (by rintro ⟨v8, a8, s8⟩ ⟨hx8_0, hx8_1⟩; exact ⟨⟨rfl, rfl, trivial⟩, rfl⟩) rfl rfl ?_)
  rintro ⟨v8, a8, s8⟩ ⟨hx8_0, hx8_1⟩
  cases v8
  · refine ev_nil (hK7 _ ?_); clear hK7
    refine good_condF rfl ?_
    refine good_skip (hK6 _ ?_); clear hK6
    refine good_seq fun K9 hK9 => ?_
    refine gr rfl ?_
    refine em rfl (by conv=>lhs;whnf) ?_
    refine ev_k rfl (k_callR [(1000000, 900000)] (D_spec_l02DrawDegrees cs _ _  hc hb (by omega)) rfl (rfl) (rfl) ⟨rfl, trivial⟩ rfl (by rintro ⟨v10, a10, s10⟩ ⟨hx10_0, hx10_1⟩; exact ⟨⟨rfl, rfl, trivial⟩, rfl⟩) rfl rfl ?_)
    rintro ⟨v10, a10, s10⟩ ⟨hx10_0, hx10_1⟩
    refine ea rfl (by conv=>lhs;whnf) ?_
    refine ev_nil (hK9 _ ?_); clear hK9
    refine good_seq fun K11 hK11 => ?_
    refine good_seq fun K12 hK12 => ?_
    refine gr rfl ?_
    refine em rfl (by conv=>lhs;whnf) ?_
    refine ev_k rfl (k_callR [(1000000, 900000)] (D_spec_l00Src_one cs _ _ _ hc hb (by omega) (by omega)) rfl (rfl) (rfl) ⟨rfl, trivial⟩ rfl (by rintro ⟨v13, a13, s13⟩ ⟨hx13_0, hx13_1⟩; exact ⟨⟨rfl, rfl, trivial⟩, rfl⟩) rfl rfl ?_)
    rintro ⟨v13, a13, s13⟩ ⟨hx13_0, hx13_1⟩
    cases v13
    · refine ev_nil (hK12 _ ?_); clear hK12
      refine good_condF rfl ?_
      refine good_skip (hK11 _ ?_); clear hK11
      refine good_seq fun K14 hK14 => ?_
      refine gr rfl ?_
      refine em rfl (by conv=>lhs;whnf) ?_
      refine em rfl (by conv=>lhs;whnf) ?_
      refine em rfl (by conv=>lhs;whnf) ?_
      refine ei rfl rfl rfl ⟨by omega, ?_⟩
      intro n15 hn15
      have hqd := tdiv2 (m := v10)
      replace hn15 := quoT hn15 (by omega) (by omega)
      rw [← hn15] at hqd
      refine ea rfl (by conv=>lhs;whnf) ?_
      refine ea rfl (by conv=>lhs;whnf) ?_
      refine ea rfl (by conv=>lhs;whnf) ?_
      refine ev_nil (hK14 _ ?_); clear hK14
      refine good_ret ?_
      repeat first|refine thenQ_ret ?_|refine blockQ_ret ?_
      apply ex_3
      case hF =>
        refine fx_many rfl ?_
        refine fxs_tmp (by conv=>lhs;whnf) ?_
        refine fxs_tmp (by conv=>lhs;whnf) ?_
        refine fxs_tmp (by conv=>lhs;whnf) ?_
        refine fx_nil ?_
        exact ⟨_, .tup (.cons (conv_eq (by first | rfl | exact fI (by first | omega | grind) | (exfalso; first | omega | grind))) (.cons (conv_eq (by first | rfl | exact fI (by first | omega | grind) | (exfalso; first | omega | grind))) (.cons (conv_eq (by first | rfl | exact fI (by first | omega | grind) | (exfalso; first | omega | grind))) (.nil)))), weakH_none _, refsIn_ok rfl⟩
      case hR =>
        exact ⟨by omega, by omega, by omega⟩
    · refine ev_nil (hK12 _ ?_); clear hK12
      refine good_condT rfl ?_
      refine good_seq fun K16 hK16 => ?_
      refine gr rfl ?_
      refine em rfl (by conv=>lhs;whnf) ?_
      refine em rfl (by conv=>lhs;whnf) ?_
      refine em rfl (by conv=>lhs;whnf) ?_
      refine ev_k rfl (k_callR [(1000000, 900000)] (D_spec_l02DrawDegrees cs _ _  hc hb (by omega)) rfl (rfl) (rfl) ⟨rfl, trivial⟩ rfl (by rintro ⟨v17, a17, s17⟩ ⟨hx17_0, hx17_1⟩; exact ⟨⟨rfl, rfl, trivial⟩, rfl⟩) rfl rfl ?_)
      rintro ⟨v17, a17, s17⟩ ⟨hx17_0, hx17_1⟩
      refine ea rfl (by conv=>lhs;whnf) ?_
      refine ea rfl (by conv=>lhs;whnf) ?_
      refine ea rfl (by conv=>lhs;whnf) ?_
      refine ev_nil (hK16 _ ?_); clear hK16
      refine good_ret ?_
      repeat first|refine thenQ_ret ?_|refine blockQ_ret ?_
      clear hK11
      apply ex_3
      case hF =>
        refine fx_many rfl ?_
        refine fxs_tmp (by conv=>lhs;whnf) ?_
        refine fxs_tmp (by conv=>lhs;whnf) ?_
        refine fxs_tmp (by conv=>lhs;whnf) ?_
        refine fx_nil ?_
        exact ⟨_, .tup (.cons (conv_eq (by first | rfl | exact fI (by first | omega | grind) | (exfalso; first | omega | grind))) (.cons (conv_eq (by first | rfl | exact fI (by first | omega | grind) | (exfalso; first | omega | grind))) (.cons (conv_eq (by first | rfl | exact fI (by first | omega | grind) | (exfalso; first | omega | grind))) (.nil)))), weakH_none _, refsIn_ok rfl⟩
      case hR =>
        exact ⟨by omega, by omega, by omega⟩
  · refine ev_nil (hK7 _ ?_); clear hK7
    refine good_condT rfl ?_
    refine gr rfl ?_
    refine em rfl (by conv=>lhs;whnf) ?_
    refine ev_k rfl (k_lit tE50 zA2 rfl rfl (by decide) (by decide) rfl rfl rfl ?_)
    refine ev_k rfl (k_callR [(1000000, 900000), (1000001, 16)] (D_spec_l00Src_among cs _ _ [(-1), 0, 100000000, 100000001] hc hb (by omega) (by decide)) rfl (rfl) (rfl) ⟨rfl, ⟨rfl, trivial⟩⟩ rfl (by rintro ⟨v18, a18, s18⟩ ⟨hx18_0, hx18_1⟩; exact ⟨⟨rfl, rfl, ⟨rfl, ⟨rfl, rfl, by first | exact Nat.le_refl _ | (simp; done) | (simp; omega)⟩, trivial⟩⟩, rfl⟩) rfl rfl ?_)
    rintro ⟨v18, a18, s18⟩ ⟨hx18_0, hx18_1⟩
    simp only [List.mem_cons, List.not_mem_nil, or_false] at hx18_0
    refine ea rfl (by conv=>lhs;whnf) ?_
    refine ev_nil (hK6 _ ?_); clear hK6
    refine good_seq fun K19 hK19 => ?_
    refine gr rfl ?_
    refine em rfl (by conv=>lhs;whnf) ?_
    refine ev_k rfl (k_callR [(1000000, 900000)] (D_spec_l02DrawDegrees cs _ _  hc hb (by omega)) rfl (rfl) (rfl) ⟨rfl, trivial⟩ rfl (by rintro ⟨v20, a20, s20⟩ ⟨hx20_0, hx20_1⟩; exact ⟨⟨rfl, rfl, trivial⟩, rfl⟩) rfl rfl ?_)
    rintro ⟨v20, a20, s20⟩ ⟨hx20_0, hx20_1⟩
    refine ea rfl (by conv=>lhs;whnf) ?_
    refine ev_nil (hK19 _ ?_); clear hK19
    refine good_seq fun K21 hK21 => ?_
    refine good_seq fun K22 hK22 => ?_
    refine gr rfl ?_
    refine em rfl (by conv=>lhs;whnf) ?_
    refine ev_k rfl (k_callR [(1000000, 900000)] (D_spec_l00Src_one cs _ _ _ hc hb (by omega) (by omega)) rfl (rfl) (rfl) ⟨rfl, trivial⟩ rfl (by rintro ⟨v23, a23, s23⟩ ⟨hx23_0, hx23_1⟩; exact ⟨⟨rfl, rfl, trivial⟩, rfl⟩) rfl rfl ?_)
    rintro ⟨v23, a23, s23⟩ ⟨hx23_0, hx23_1⟩
    cases v23
    · refine ev_nil (hK22 _ ?_); clear hK22
      refine good_condF rfl ?_
      refine good_skip (hK21 _ ?_); clear hK21
      refine good_seq fun K24 hK24 => ?_
      refine gr rfl ?_
      refine em rfl (by conv=>lhs;whnf) ?_
      refine em rfl (by conv=>lhs;whnf) ?_
      refine em rfl (by conv=>lhs;whnf) ?_
      refine ei rfl rfl rfl ⟨by omega, ?_⟩
      intro n25 hn25
      have hqd := tdiv2 (m := v20)
      replace hn25 := quoT hn25 (by omega) (by omega)
      rw [← hn25] at hqd
      refine ea rfl (by conv=>lhs;whnf) ?_
      refine ea rfl (by conv=>lhs;whnf) ?_
      refine ea rfl (by conv=>lhs;whnf) ?_
      refine ev_nil (hK24 _ ?_); clear hK24
      refine good_ret ?_
      repeat first|refine thenQ_ret ?_|refine blockQ_ret ?_
      apply ex_3
      case hF =>
        refine fx_many rfl ?_
        refine fxs_tmp (by conv=>lhs;whnf) ?_
        refine fxs_tmp (by conv=>lhs;whnf) ?_
        refine fxs_tmp (by conv=>lhs;whnf) ?_
        refine fx_nil ?_
        exact ⟨_, .tup (.cons (conv_eq (by first | rfl | exact fI (by first | omega | grind) | (exfalso; first | omega | grind))) (.cons (conv_eq (by first | rfl | exact fI (by first | omega | grind) | (exfalso; first | omega | grind))) (.cons (conv_eq (by first | rfl | exact fI (by first | omega | grind) | (exfalso; first | omega | grind))) (.nil)))), weakH_none _, refsIn_ok rfl⟩
      case hR =>
        exact ⟨by omega, by omega, by omega⟩
    · refine ev_nil (hK22 _ ?_); clear hK22
      refine good_condT rfl ?_
      refine good_seq fun K26 hK26 => ?_
      refine gr rfl ?_
      refine em rfl (by conv=>lhs;whnf) ?_
      refine em rfl (by conv=>lhs;whnf) ?_
      refine em rfl (by conv=>lhs;whnf) ?_
      refine ev_k rfl (k_callR [(1000000, 900000)] (D_spec_l02DrawDegrees cs _ _  hc hb (by omega)) rfl (rfl) (rfl) ⟨rfl, trivial⟩ rfl (by rintro ⟨v27, a27, s27⟩ ⟨hx27_0, hx27_1⟩; exact ⟨⟨rfl, rfl, trivial⟩, rfl⟩) rfl rfl ?_)
      rintro ⟨v27, a27, s27⟩ ⟨hx27_0, hx27_1⟩
      refine ea rfl (by conv=>lhs;whnf) ?_
      refine ea rfl (by conv=>lhs;whnf) ?_
      refine ea rfl (by conv=>lhs;whnf) ?_
      refine ev_nil (hK26 _ ?_); clear hK26
      refine good_ret ?_
      repeat first|refine thenQ_ret ?_|refine blockQ_ret ?_
      clear hK21
      apply ex_3
      case hF =>
        refine fx_many rfl ?_
        refine fxs_tmp (by conv=>lhs;whnf) ?_
        refine fxs_tmp (by conv=>lhs;whnf) ?_
        refine fxs_tmp (by conv=>lhs;whnf) ?_
        refine fx_nil ?_
        exact ⟨_, .tup (.cons (conv_eq (by first | rfl | exact fI (by first | omega | grind) | (exfalso; first | omega | grind))) (.cons (conv_eq (by first | rfl | exact fI (by first | omega | grind) | (exfalso; first | omega | grind))) (.cons (conv_eq (by first | rfl | exact fI (by first | omega | grind) | (exfalso; first | omega | grind))) (.nil)))), weakH_none _, refsIn_ok rfl⟩
      case hR =>
        exact ⟨by omega, by omega, by omega⟩

-- spec.DrawDegreesText
theorem D_spec_DrawDegreesText (cs : List Int) (hc : cs.length ≤ 17592186044416) (hb : byteL cs) : DenXR Tryz.prog 15 [] [.lst 1 (cs.map cb)] (τ := Int) (fun z => -100000 ≤ z ∧ z ≤ 100000) (fun z => []) (fun z => .s (.int .i64 z)) := by
  refine denXR_of_good Tryz.func15 (by decide) rfl (Nat.le_of_ble_eq_true rfl) (Nat.le_of_ble_eq_true rfl) rfl ?_
  refine good_seq fun K1 hK1 => ?_
  refine gr rfl ?_
  refine ea rfl (by conv=>lhs;whnf) ?_
  refine ev_nil (hK1 _ ?_); clear hK1
  refine good_seq fun K2 hK2 => ?_
  refine gr rfl ?_
  refine em rfl (by conv=>lhs;whnf) ?_
  refine ev_k rfl (k_callX [(5, 900000)] (D_spec_l00From cs) rfl (rfl) (rfl) trivial ⟨⟨rfl, show (900000 : Nat) < 1000000 by decide⟩, trivial⟩ rfl rfl rfl ?_)
  refine ea rfl (by conv=>lhs;whnf) ?_
  refine ev_nil (hK2 _ ?_); clear hK2
  refine good_seq fun K3 hK3 => ?_
  refine gr rfl ?_
  refine em rfl (by conv=>lhs;whnf) ?_
  refine ev_k rfl (k_callR [(1000000, 900000)] (D_spec_l00Src_pick cs _ _ _ hc hb (by omega) (by omega)) rfl (rfl) (rfl) ⟨rfl, trivial⟩ rfl (by rintro ⟨v4, a4, s4⟩ ⟨hx4_0, hx4_1⟩; exact ⟨⟨rfl, rfl, trivial⟩, rfl⟩) rfl rfl ?_)
  rintro ⟨v4, a4, s4⟩ ⟨hx4_0, hx4_1⟩
  refine ea rfl (by conv=>lhs;whnf) ?_
  refine ev_nil (hK3 _ ?_); clear hK3
  refine good_seq fun K5 hK5 => ?_
  refine gr rfl ?_
  refine em rfl (by conv=>lhs;whnf) ?_
  refine em rfl (by conv=>lhs;whnf) ?_
  refine em rfl (by conv=>lhs;whnf) ?_
  refine ev_q rfl (q_neg rfl ?_)
  intro n6 hn6
  replace hn6 := neg64 hn6 (by omega) (by omega)
  refine ev_k rfl (k_lit tE50 zA2 rfl rfl (by decide) (by decide) rfl rfl rfl ?_)
  refine ev_k rfl (k_callR [(1000000, 900000), (1000001, 13)] (D_spec_l00Src_among cs _ _ [v4, n6, 5, -5, 0, 99999, 100000, -99999, -100000] hc hb (by omega) (by simp)) rfl (rfl) (rfl) ⟨rfl, ⟨rfl, trivial⟩⟩ rfl (by rintro ⟨v7, a7, s7⟩ ⟨hx7_0, hx7_1⟩; exact ⟨⟨rfl, rfl, ⟨rfl, ⟨rfl, rfl, by first | exact Nat.le_refl _ | (simp; done) | (simp; omega)⟩, trivial⟩⟩, rfl⟩) rfl rfl ?_)
  rintro ⟨v7, a7, s7⟩ ⟨hx7_0, hx7_1⟩
  simp only [List.mem_cons, List.not_mem_nil, or_false] at hx7_0
  refine ea rfl (by conv=>lhs;whnf) ?_
  refine ev_nil (hK5 _ ?_); clear hK5
  refine good_ret ?_
  repeat first|refine thenQ_ret ?_|refine blockQ_ret ?_
  apply ex_1
  case hF =>
    refine fx_tmp rfl (by conv=>lhs;whnf) ?_
    exact ⟨_, conv_eq (by first | rfl | exact fI (by first | omega | grind) | (exfalso; first | omega | grind)), weakH_none _, refsIn_ok rfl⟩
  case hR =>
    omega

-- laws.b10Long
theorem D_laws_b10Long (cs : List Int)  : Den Tryz.prog 6 [.lst 1 (cs.map cb)] (.s (.bool (decide ((cs.length : Int) > 1048576)))) := by
  refine den_of_good Tryz.func6 (by decide) rfl (Nat.le_of_ble_eq_true rfl) (Nat.le_of_ble_eq_true rfl) ?_
  refine good_seq fun K1 hK1 => ?_
  refine gr rfl ?_
  refine ea rfl (by conv=>lhs;whnf) ?_
  refine ev_nil (hK1 _ ?_); clear hK1
  refine good_seq fun K2 hK2 => ?_
  refine gr rfl ?_
  refine em rfl (by conv=>lhs;whnf) ?_
  refine ev_q rfl (q_len tEs22 rfl ?_)
  intro n3 hn3
  try simp only [List.length_map] at hn3
  refine ei rfl rfl rfl ?_
  intro b4 hb4; cases b4
  · replace hb4 := dF hb4
    refine ea rfl (by conv=>lhs;whnf) ?_
    refine ev_nil (hK2 _ ?_); clear hK2
    refine good_ret ?_
    repeat first|refine thenQ_ret ?_|refine blockQ_ret ?_
    refine ret_tmp (st := _) rfl (by conv=>lhs;whnf) rfl ?_
    first | exact fT (by omega) | exact fF (by omega)
  · replace hb4 := dT hb4
    refine ea rfl (by conv=>lhs;whnf) ?_
    refine ev_nil (hK2 _ ?_); clear hK2
    refine good_ret ?_
    repeat first|refine thenQ_ret ?_|refine blockQ_ret ?_
    refine ret_tmp (st := _) rfl (by conv=>lhs;whnf) rfl ?_
    first | exact fT (by omega) | exact fF (by omega)

end Go.Proofs.YtdnndlalflahhaaGreatDoor.DFnWater
