/- Walks through the functions that FnBasics reaches: what each answers. -/
import Derived.Test.YtodghlkodiidaaaDoorEvO
import Derived.Test.YtodghlkodiidaaaDoorProg
import Derived.Test.YtodghlkodiidaaaDoorEvZ
import Derived.Test.YtodghlkodiidaaaDoorPlain
set_option linter.unusedVariables false
set_option linter.unusedSimpArgs false
namespace Go.Proofs.YtodghlkodiidaaaDoor.DFnBasics
open Go Go.RowKit Go.Proofs Go.Proofs.YtodghlkodiidaaaDoor Go.Proofs.YtodghlkodiidaaaDoor.Ev
def small (u : UInt8) : Bool := decide (97 ≤ u.toNat ∧ u.toNat ≤ 122)
def digit (u : UInt8) : Bool := decide (48 ≤ u.toNat ∧ u.toNat ≤ 57)
def nbc (u : UInt8) : Bool := small u || digit u
def allNb (s : ByteArray) : Bool := s.data.all nbc
def head1 (s : ByteArray) : Bool := match s[0]? with
  | some u => small u
  | none => false
def isName (s : ByteArray) : Bool := decide (1 ≤ s.size) && decide (s.size ≤ 10) && head1 s && allNb s
theorem getB {s : ByteArray} {i : Nat} (h : i < s.size) : ∃ u, s[i]? = some u := ⟨s[i], by simp [h]⟩
theorem allNb_T {s : ByteArray} (h : ∀ j u, j < s.size → s[j]? = some u → nbc u = true) : allNb s = true := by
  unfold allNb
  rw [Array.all_eq_true]
  intro i hi
  exact h i _ hi (getElem?_pos s i hi)
theorem allNb_F {s : ByteArray} {j : Nat} {u : UInt8} (h : s[j]? = some u) (hn : nbc u = false) : allNb s = false := by
  have hj : j < s.size := by
    apply Classical.byContradiction; intro hc
    rw [getElem?_neg s j hc] at h; cases h
  unfold allNb
  rw [Array.all_eq_false]
  refine ⟨j, hj, ?_⟩
  rw [getElem?_pos s j hj] at h
  cases h
  intro hc
  have hc2 : nbc s[j] = true := hc
  rw [hn] at hc2; cases hc2
theorem isName_long {s : ByteArray} (h : ¬ s.size ≤ 10) : isName s = false := by simp [isName, h]
theorem isName_none {s : ByteArray} (h : s.size = 0) : isName s = false := by simp [isName, h]
theorem isName_head {s : ByteArray} {u : UInt8} (h : s[0]? = some u) (hn : small u = false) : isName s = false := by simp [isName, head1, h, hn]
theorem isName_eq {s : ByteArray} {u : UInt8} (h1 : 1 ≤ s.size) (h2 : s.size ≤ 10) (h : s[0]? = some u) (hn : small u = true) : isName s = allNb s := by simp [isName, head1, h, hn, h1, h2]
theorem fB {b c : Bool} (h : b = c) : AV.s (.bool b) = .s (.bool c) := by rw [h]
def ci (n : Int) : AV := .s (.int .i64 n)
def within (xs : List Int) (lo hi : Int) : Prop := ∀ (j : Nat) (q : Int), xs[j]? = some q → lo ≤ q ∧ q ≤ hi
noncomputable instance (xs : List Int) (lo hi : Int) : Decidable (within xs lo hi) := Classical.propDecidable _
theorem all_extI {α : Type} {xs : List α} {i : Nat} {Q : Nat → α → Prop} {p : α} (hJ : ∀ j q, j < i → xs[j]? = some q → Q j q) (hp : xs[i]? = some p) (h : Q i p) : ∀ j q, j < i + 1 → xs[j]? = some q → Q j q := by
  intro j q hj hq
  by_cases e : j = i
  · subst e; rw [hp] at hq; cases hq; exact h
  · exact hJ j q (by omega) hq
theorem all_finI {α : Type} {xs : List α} {i : Nat} {Q : Nat → α → Prop} (hJ : ∀ j q, j < i → xs[j]? = some q → Q j q) (hi : xs.length ≤ i) : ∀ j q, xs[j]? = some q → Q j q := by
  intro j q hq
  exact hJ j q (by have := (List.getElem?_eq_some_iff.1 hq).1; omega) hq
def stp (p : Int × Int) : AV := .agg [.s (.int .i64 p.1), .s (.int .i64 p.2)]
def zst : AV := .agg [.s (.int .i64 0), .s (.int .i64 0)]
def wv (xs : List (Int × Int)) : AV := .lst 2 (xs.map stp)
def okAt (xs : List (Int × Int)) (j : Nat) (p : Int × Int) : Prop := (0 ≤ p.1 ∧ p.1 ≤ 1000000) ∧ (-5000 ≤ p.2 ∧ p.2 ≤ 20000) ∧ (j = 0 → p.1 = 0) ∧ ∀ q, 0 < j → xs[j - 1]? = some q → q.1 < p.1
def waveOk (xs : List (Int × Int)) : Prop := (1 ≤ xs.length ∧ xs.length ≤ 24) ∧ ∀ j p, xs[j]? = some p → okAt xs j p
noncomputable instance (xs : List (Int × Int)) : Decidable (waveOk xs) := Classical.propDecidable _
theorem wave_no {xs : List (Int × Int)} {i : Nat} {p : Int × Int} (h : xs[i]? = some p) (hn : ¬ okAt xs i p) : ¬ waveOk xs := fun ⟨_, h2⟩ => hn (h2 i p h)
theorem wave_iff {xs : List (Int × Int)} (h : ∀ j p, xs[j]? = some p → okAt xs j p) : (1 ≤ (xs.length : Int) ∧ (xs.length : Int) ≤ 24) ↔ waveOk xs := ⟨fun h2 => ⟨by omega, h⟩, fun ⟨h2, _⟩ => by omega⟩
theorem all_ext {xs : List (Int × Int)} {i : Nat} {Q : Nat → Int × Int → Prop} {p : Int × Int} (hJ : ∀ j q, j < i → xs[j]? = some q → Q j q) (hp : xs[i]? = some p) (h : Q i p) : ∀ j q, j < i + 1 → xs[j]? = some q → Q j q := by
  intro j q hj hq
  by_cases e : j = i
  · subst e; rw [hp] at hq; cases hq; exact h
  · exact hJ j q (by omega) hq
theorem all_fin {xs : List (Int × Int)} {i : Nat} {Q : Nat → Int × Int → Prop} (hJ : ∀ j q, j < i → xs[j]? = some q → Q j q) (hi : xs.length ≤ i) : ∀ j q, xs[j]? = some q → Q j q := by
  intro j q hq
  exact hJ j q (by have := (List.getElem?_eq_some_iff.1 hq).1; omega) hq
def dAV (n : Int) : AV := .s (.string (dec n))
def u8A (n : Int) : AV := .s (.int .u8 n)
theorem fS {a b : ByteArray} (h : a = b) : AV.s (.string a) = .s (.string b) := by rw [h]
theorem dec_0 : (⟨#[48]⟩ : ByteArray) = dec 0 := by simp [dec, tx, Lib.itoa, Lib.decDigits]
theorem sz_app {a b c : ByteArray} (h : a = b ++ c) : a.size = b.size + c.size := by rw [h, ByteArray.size_append]
theorem takeS {α : Type} {xs : List α} {i : Nat} {q : α} (h : xs[i]? = some q) : xs.take (i + 1) = xs.take i ++ [q] := by rw [List.take_add_one, h]; rfl
theorem appG {α : Type} {f : α → AV} {l l2 : List α} {p : α} {v : AV} (h : l2 = l ++ [p]) (e : v = f p) : l.map f ++ [v] = l2.map f := by subst h e; simp
theorem ltx_s1 {xs : List Int} {i : Nat} {q : Int} {s : ByteArray} (hq : xs[i]? = some q) (h : ¬ (i : Int) > 0) (h2 : s = tx (ltx (xs.take i)) ++ dec q) : s = tx (ltx (xs.take (i + 1))) := by
  have h0 : i = 0 := by omega
  subst h0
  rw [h2, ltx_take hq, if_pos rfl]
  show tx [] ++ dec q = dec q
  unfold dec; rw [tx_app]; rfl
theorem ltx_s2 {xs : List Int} {i : Nat} {q : Int} {s u : ByteArray} (hq : xs[i]? = some q) (h : (i : Int) > 0) (h1 : u = tx (ltx (xs.take i)) ++ ⟨#[44]⟩) (h2 : s = u ++ dec q) : s = tx (ltx (xs.take (i + 1))) := by
  rw [h2, h1, ltx_take hq, if_neg (by omega)]
  show tx (ltx (xs.take i)) ++ tx [44] ++ dec q = _
  unfold dec; rw [tx_app, tx_app]
theorem u8w {n m : Int} (h : n = IntKind.u8.wrap m) (h0 : 0 ≤ m) (h1 : m ≤ 255) : n = m := by
  have e : IntKind.u8.wrap m = m % 256 := by simp [IntKind.wrap, IntKind.bits, IntKind.signed]
  rw [e] at h; omega
theorem absT {m a b : Int} (h : a = Int.tmod m 10) (hb : (0 ≤ a ∧ b = a) ∨ (a < 0 ∧ b = -a)) : b = ((m.natAbs % 10 : Nat) : Int) := by
  by_cases h0 : 0 ≤ m
  · rw [tmod_pos h0] at h; omega
  · rw [tmod_neg (by omega)] at h; omega
theorem tmodB {m a : Int} (h : a = Int.tmod m 10) : -9 ≤ a ∧ a ≤ 9 := by
  by_cases h0 : 0 ≤ m
  · rw [tmod_pos h0] at h; omega
  · rw [tmod_neg (by omega)] at h; omega
theorem tdivA {m a : Int} (h : a = Int.tdiv m 10) (hm : m ≠ 0) : a.natAbs < m.natAbs := by
  by_cases h0 : 0 ≤ m
  · rw [tdiv_pos h0] at h; omega
  · rw [tdiv_neg (by omega)] at h; omega
theorem quo10 {n m : Int} (h : n = IntKind.i64.wrap (Int.tdiv m 10)) (h0 : -9223372036854775808 ≤ m) (h1 : m ≤ 9223372036854775807) : n = Int.tdiv m 10 := by
  by_cases h2 : 0 ≤ m
  · rw [tdiv_pos h2] at h ⊢; exact in64 h (by omega) (by omega)
  · rw [tdiv_neg (by omega)] at h ⊢; exact in64 h (by omega) (by omega)
def decL (n : Int) (L : List Int) : List Int := if n < 0 then L ++ [45] else L
theorem dec_end {n : Int} {L : List Int} (h : decI n 0 L) : (decL n L).reverse = itD n := by
  have e := decI_end h
  unfold decL
  by_cases hn : n < 0
  · rw [if_pos hn, itD_neg hn, e]; simp
  · rw [if_neg hn, itD_pos (by omega), e]
def revT (L : List Int) (i : Nat) : List Int := (L.drop i).reverse
theorem revT_0 {L : List Int} : revT L L.length = [] := by simp [revT]
theorem revT_s {L : List Int} {i : Nat} {q : Int} (h : L[i]? = some q) : revT L i = revT L (i + 1) ++ [q] := by
  have hl := (List.getElem?_eq_some_iff.1 h).1
  unfold revT
  rw [List.drop_eq_getElem_cons hl, List.reverse_cons]
  rw [List.getElem?_eq_getElem hl] at h
  rw [Option.some.inj h]
theorem revT_e {L : List Int} : revT L 0 = L.reverse := by simp [revT]
theorem revT_len {L : List Int} {i : Nat} : (revT L i).length = L.length - i := by simp [revT]
theorem u8s_u8A : ∀ xs : List Int, u8s (xs.map u8A) = some xs
  | [] => rfl
  | x :: xs => by simp only [List.map_cons, u8s, u8A]; rw [show u8s (xs.map u8A) = some xs from u8s_u8A xs]
theorem u8s_take {xs : List Int} {n : Nat} (h : n = xs.length) : u8s ((xs.map u8A).take n) = some xs := by subst h; rw [takeMap]; exact u8s_u8A xs
theorem decL_len {n : Int} {L : List Int} : (decL n L).length ≤ L.length + 1 := by unfold decL; split <;> simp
theorem lt_size {xs : List Int} : (lt xs).size ≤ 1400 := by
  by_cases h : fitsL xs
  · by_cases h0 : xs = []
    · subst h0; rw [lt_0, tx_size]; simp
    · rw [lt_ok h h0, tx_size]
      have := ltx_len (L := xs) (fun x hx => by have := h.2 x hx; exact ⟨by omega, by omega⟩) (i := xs.length) (Nat.le_refl _)
      rw [List.take_length] at this
      have := h.1; omega
  · rw [lt_no h, tx_size]; simp
theorem nm_size {s : ByteArray} (h : isName s = true) : 1 ≤ s.size ∧ s.size ≤ 10 := by simp [isName] at h; omega
theorem l1_size {c : UInt8} : (⟨#[c]⟩ : ByteArray).size = 1 := rfl
noncomputable def sbT (s : ByteArray) (nd tr su re : Int) : ByteArray := if isName s = true ∧ (0 ≤ nd ∧ nd ≤ 15) ∧ (1 ≤ tr ∧ tr ≤ 100000) ∧ (0 ≤ su ∧ su ≤ 18000) ∧ (0 ≤ re ∧ re ≤ su - 1) then s ++ ⟨#[32]⟩ ++ tx (ltx [nd, tr, su, re]) else tx []
theorem sbT_no {s : ByteArray} {nd tr su re : Int} (h : ¬ (isName s = true ∧ (0 ≤ nd ∧ nd ≤ 15) ∧ (1 ≤ tr ∧ tr ≤ 100000) ∧ (0 ≤ su ∧ su ≤ 18000) ∧ (0 ≤ re ∧ re ≤ su - 1))) : sbT s nd tr su re = tx [] := if_neg h
theorem sbT_ok {s : ByteArray} {nd tr su re : Int} (h : isName s = true ∧ (0 ≤ nd ∧ nd ≤ 15) ∧ (1 ≤ tr ∧ tr ≤ 100000) ∧ (0 ≤ su ∧ su ≤ 18000) ∧ (0 ≤ re ∧ re ≤ su - 1)) : sbT s nd tr su re = s ++ ⟨#[32]⟩ ++ tx (ltx [nd, tr, su, re]) := if_pos h
theorem sb_in {s : ByteArray} {nd tr su re : Int} (h : isName s = true ∧ (0 ≤ nd ∧ nd ≤ 15) ∧ (1 ≤ tr ∧ tr ≤ 100000) ∧ (0 ≤ su ∧ su ≤ 18000) ∧ (0 ≤ re ∧ re ≤ su - 1)) : ∀ x ∈ [nd, tr, su, re], -1000000000000 ≤ x ∧ x ≤ 1000000000000 := fun x hx => by
  simp only [List.mem_cons, List.not_mem_nil, or_false] at hx
  rcases hx with rfl | rfl | rfl | rfl <;> omega
theorem splitK_mem {c : UInt8} : ∀ (k : Nat) (l : List UInt8), ∀ p ∈ Lib.splitK [c] 0 k l, p.length ≤ l.length
  | 0, l, p, h => by simp [Lib.splitK] at h; subst h; exact Nat.le_refl _
  | k + 1, l, p, h => by
    rw [Lib.splitK] at h
    split at h
    · simp at h; subst h; exact Nat.le_refl _
    · rcases List.mem_cons.1 h with e | e
      · subst e; rw [List.length_take]; omega
      · have := splitK_mem k _ p e
        rw [List.length_drop] at this; omega
theorem splN_sz {c : UInt8} {k : Nat} {s q : ByteArray} (h : q ∈ splN c k s) : q.size ≤ s.size := by
  have hd := Lib.splitB_data (tx [c]) 0 (min k (s.size + 1) - 1) s
  rw [tx_data] at hd
  have := splitK_mem (c := c) (min k (s.size + 1) - 1) s.data.toList q.data.toList (by rw [← hd]; exact List.mem_map_of_mem (f := fun b : ByteArray => b.data.toList) h)
  rw [ba_len, ba_len] at this; exact this
theorem pcs_mem {c : UInt8} : ∀ (l : List UInt8), ∀ p ∈ pcs c l, p.length ≤ l.length
  | [], p, h => by simp [pcs] at h; subst h; simp
  | b :: l, p, h => by
    have ih := pcs_mem (c := c) l
    rw [pcs] at h
    split at h
    · rcases List.mem_cons.1 h with e | e
      · subst e; simp
      · have := ih p e; simp; omega
    · split at h
      · rename_i x xs e
        rw [e] at ih
        rcases List.mem_cons.1 h with e2 | e2
        · subst e2; have := ih x (by simp); simp; omega
        · have := ih p (by simp [e2]); simp; omega
      · simp at h; subst h; simp
theorem pc_sz {c : UInt8} {s q : ByteArray} (h : q ∈ pieces c s) : q.size ≤ s.size := by
  obtain ⟨p, hp, rfl⟩ := List.mem_map.1 h
  have := pcs_mem _ p hp
  rw [ba_len] at this
  rw [tx_size]; exact this
theorem rlP_no1 {s q : ByteArray} (hq : q ∈ splN 44 65 s) (h : ¬ rdB q) : ¬ rlP s := fun hp => h (hp.2 q (by rw [← splN_mem hp]; exact hq)).1
theorem rl_y2 {s : ByteArray} (h : ¬ s = tx [45]) (h2 : rlP s) : rlB s ∧ rlL s = (splN 44 65 s).map rdN := by
  have e := rl_y h h2
  rw [splN_mem h2]; exact e
def pAV (p : List UInt8) : AV := .s (.string (tx p))
theorem pAV_map {o : List (List UInt8)} : o.map pAV = (o.map tx).map stA := by rw [List.map_map]; rfl
theorem ext0 {s : ByteArray} {f i : Nat} {l : ByteArray} (h : l = s.extract f i) : AV.s (.string l) = pAV (s.extract f i).data.toList := by subst h; unfold pAV; rw [tx_self]
theorem u8eq {a b : UInt8} (h : (a.toNat : Int) = b.toNat) : a = b := by
  have : a.toNat = b.toNat := by omega
  exact UInt8.toNat_inj.1 this
theorem numV_lt2 {s : ByteArray} {a i : Nat} (hd : ∀ j u, a ≤ j → j < i → s[j]? = some u → dig u) (hi : i < s.size) (h18 : (s.size : Int) - a ≤ 18) : 0 ≤ numV s a i ∧ numV s a i < 100000000000000000 := by
  have hl : ((s.data.toList.drop a).take (i - a)).length ≤ 17 := by rw [List.length_take]; omega
  have h := valD_lt _ ((s.data.toList.drop a).take (i - a)) rfl (fun c hc => by
    obtain ⟨j, hj⟩ := List.getElem?_of_mem hc
    have hjl : j < i - a := by have := (List.getElem?_eq_some_iff.1 hj).1; rw [List.length_take] at this; omega
    rw [List.getElem?_take_of_lt hjl, List.getElem?_drop] at hj
    exact hd (a + j) c (by omega) (by omega) (by rw [ba_get]; exact hj))
  have h2 : 10 ^ ((s.data.toList.drop a).take (i - a)).length ≤ 10 ^ 17 := Nat.pow_le_pow_right (by omega) hl
  unfold numV
  omega
theorem digit_T {u : UInt8} (h : true = digit u) : dig u := by simpa [digit, dig] using h.symm
theorem digit_F {u : UInt8} (h : false = digit u) : ¬ dig u := fun hd => by
  have : digit u = true := by simpa [digit, dig] using hd
  rw [this] at h; cases h
theorem dig_ext {s : ByteArray} {a i : Nat} {u : UInt8} (hJ : ∀ j v, a ≤ j → j < i → s[j]? = some v → dig v) (hu : s[i]? = some u) (hd : dig u) : ∀ j v, a ≤ j → j < i + 1 → s[j]? = some v → dig v := fun j v h1 h2 hv => by
  by_cases e : j = i
  · subst e; rw [hu] at hv; cases hv; exact hd
  · exact hJ j v h1 (by omega) hv
theorem ne_ext {s : ByteArray} {a i : Nat} {u c : UInt8} (hJ : ∀ j v, a ≤ j → j < i → s[j]? = some v → v ≠ c) (hu : s[i]? = some u) (hd : u ≠ c) : ∀ j v, a ≤ j → j < i + 1 → s[j]? = some v → v ≠ c := fun j v h1 h2 hv => by
  by_cases e : j = i
  · subst e; rw [hu] at hv; cases hv; exact hd
  · exact hJ j v h1 (by omega) hv
theorem sp_end {s : ByteArray} {c : UInt8} {o : List (List UInt8)} {f : Nat} {l : ByteArray} (hI : pcs c s.data.toList = o ++ pcs c (s.data.toList.drop f)) (hl : l = s.extract f s.size) (hJ : ∀ j b, f ≤ j → j < s.size → s[j]? = some b → b ≠ c) : o.map pAV ++ [AV.s (.string l)] = (pieces c s).map stA := by
  subst hl
  rw [← pc_end hI hJ, List.map_append, pAV_map]; rfl
def bl (x0 y0 x1 y1 x : Int) : Int := if x ≤ x0 ∨ x1 ≤ x0 then y0 else if x ≥ x1 then y1 else y0 + dr ((y1 - y0) * (x - x0)) (x1 - x0)
theorem srN_ex (p : Int → Prop) : ∀ n : Nat, ∃ k : Nat, k ≤ n ∧ (∀ j : Nat, j < k → ¬ p j) ∧ (k < n → p k)
  | 0 => ⟨0, Nat.le_refl _, fun j h => absurd h (Nat.not_lt_zero _), fun h => absurd h (Nat.not_lt_zero _)⟩
  | n + 1 => by
    obtain ⟨k, h1, h2, h3⟩ := srN_ex p n
    by_cases e : k = n
    · subst e
      by_cases hp : p k
      · exact ⟨k, by omega, h2, fun _ => hp⟩
      · refine ⟨k + 1, Nat.le_refl _, fun j hj => ?_, fun h => by omega⟩
        by_cases ej : j = k
        · subst ej; exact hp
        · exact h2 j (by omega)
    · exact ⟨k, by omega, h2, fun _ => h3 (by omega)⟩
noncomputable def srN (p : Int → Prop) [DecidablePred p] (n : Nat) : Nat := Classical.choose (srN_ex p n)
theorem srN_spec (p : Int → Prop) [DecidablePred p] (n : Nat) : srN p n ≤ n ∧ (∀ j : Nat, j < srN p n → ¬ p j) ∧ (srN p n < n → p (srN p n)) := Classical.choose_spec (srN_ex p n)
theorem srN_uniq {p : Int → Prop} [DecidablePred p] {n k : Nat} (h1 : k ≤ n) (h2 : ∀ j : Nat, j < k → ¬ p j) (h3 : k < n → p k) : srN p n = k := by
  obtain ⟨g1, g2, g3⟩ := srN_spec p n
  rcases Nat.lt_trichotomy (srN p n) k with h | h | h
  · exact absurd (g3 (by omega)) (h2 _ h)
  · exact h
  · exact absurd (h3 (by omega)) (g2 _ h)
theorem shr1 {x n : Int} (h : n = x.fdiv (2 ^ (min (1 : Int).toNat IntKind.u64.bits))) (h0 : 0 ≤ x) : n = x / 2 := by
  rw [h, Int.fdiv_eq_ediv_of_nonneg _ (by decide)]; rfl
theorem wrapU {m n : Int} (h : n = IntKind.u64.wrap m) (h0 : 0 ≤ m) (h1 : m ≤ 9223372036854775807) : n = m := by
  have e : IntKind.u64.wrap m = m % 18446744073709551616 := by simp [IntKind.wrap, IntKind.bits, IntKind.signed]
  rw [e] at h; omega
noncomputable def lst (p : Int → Prop) [DecidablePred p] (lo hi : Int) : Int := lo + srN (fun i => p (lo + i)) (hi - lo + 1).toNat
theorem lst_spec (p : Int → Prop) [DecidablePred p] {lo hi : Int} (h : lo ≤ hi + 1) : lo ≤ lst p lo hi ∧ lst p lo hi ≤ hi + 1 ∧ (∀ a, lo ≤ a → a < lst p lo hi → ¬ p a) ∧ (lst p lo hi ≤ hi → p (lst p lo hi)) := by
  obtain ⟨h1, h2, h3⟩ := srN_spec (fun i => p (lo + i)) (hi - lo + 1).toNat
  refine ⟨by unfold lst; omega, by unfold lst; omega, fun a ha hl => ?_, fun hl => h3 (by unfold lst at hl; omega)⟩
  have := h2 (a - lo).toNat (by unfold lst at hl; omega)
  rwa [show lo + ((a - lo).toNat : Int) = a by omega] at this
theorem lst_uniq {p : Int → Prop} [DecidablePred p] {lo hi k : Int} (h0 : lo ≤ k) (h1 : k ≤ hi + 1) (h2 : ∀ a, lo ≤ a → a < k → ¬ p a) (h3 : k ≤ hi → p k) : lst p lo hi = k := by
  obtain ⟨g0, g1, g2, g3⟩ := lst_spec p (lo := lo) (hi := hi) (by omega)
  by_cases e : lst p lo hi < k
  · exact absurd (g3 (by omega)) (h2 _ g0 e)
  · by_cases e2 : k < lst p lo hi
    · exact absurd (h3 (by omega)) (g2 _ h0 e2)
    · omega
def cb (n : Int) : AV := .s (.int .u8 n)
def src (cs : List Int) (a s : Int) : List AV := [.lst 1 (cs.map cb), .s (.int .i64 a), .s (.int .u64 s)]
theorem repC {n : Nat} : List.replicate n (zelem [AV.s (.int .i64 0)]) = (List.replicate n (0 : Int)).map ci := by rw [List.map_replicate]; rfl
def byteL (cs : List Int) : Prop := ∀ x ∈ cs, 0 ≤ x ∧ x ≤ 255
theorem and255 {x n : Int} (h : n = bitsI .and .u64 x 255) : 0 ≤ n ∧ n ≤ 255 := by
  subst h
  simp only [bitsI]
  have h1 : ((BitVec.ofInt IntKind.u64.bits x) &&& (BitVec.ofInt IntKind.u64.bits 255)).toNat ≤ 255 := by
    rw [BitVec.toNat_and]
    exact Nat.le_trans Nat.and_le_right (by decide)
  generalize ((BitVec.ofInt IntKind.u64.bits x) &&& (BitVec.ofInt IntKind.u64.bits 255)).toNat = m at h1
  have e : IntKind.u64.wrap (m : Int) = (m : Int) % 18446744073709551616 := by simp [IntKind.wrap, IntKind.bits, IntKind.signed]
  rw [e]; omega
def gd (xs : List Int) (i : Nat) : Int := xs.getD i 0
theorem gd_eq {xs : List Int} {i : Nat} {p : Int} (h : xs[i]? = some p) : gd xs i = p := by simp [gd, List.getD, h]
theorem dr_eqP {a b : Int} (hb : 0 < b) : dr a b = if a < 0 then -((b - 2 * a) / (2 * b)) else (2 * a + b) / (2 * b) := by unfold dr drP; rw [if_neg (by omega)]
theorem dr_mono' {a a' b : Int} (hb : 0 < b) (h : a ≤ a') : dr a b ≤ dr a' b := by
  rw [dr_eqP hb, dr_eqP hb]
  split
  · split
    · have := Int.ediv_le_ediv (a := b - 2 * a') (b := b - 2 * a) (c := 2 * b) (by omega) (by omega)
      omega
    · have h1 := Int.ediv_nonneg (a := b - 2 * a) (b := 2 * b) (by omega) (by omega)
      have h2 := Int.ediv_nonneg (a := 2 * a' + b) (b := 2 * b) (by omega) (by omega)
      omega
  · rw [if_neg (by omega)]
    exact Int.ediv_le_ediv (by omega) (by omega)
theorem dr_neg {a b : Int} (hb : 0 < b) : dr (-a) b = - dr a b := by
  rw [dr_eqP hb, dr_eqP hb]
  by_cases h : a < 0
  · rw [if_neg (by omega), if_pos h]
    rw [show 2 * -a + b = b - 2 * a by omega]; omega
  · by_cases h0 : a = 0
    · subst h0
      rw [if_neg (by omega), if_neg (by omega)]
      have : (2 * (0 : Int) + b) / (2 * b) = 0 := Int.ediv_eq_zero_of_lt (by omega) (by omega)
      rw [show 2 * -(0 : Int) + b = 2 * 0 + b by omega, this]; rfl
    · rw [if_pos (by omega), if_neg h]
      rw [show b - 2 * -a = 2 * a + b by omega]
theorem dr_mul {k b : Int} (hb : 0 < b) : dr (k * b) b = k := by
  have key : ∀ k : Int, 0 ≤ k → dr (k * b) b = k := fun k hk => by
    have h0 := Int.mul_nonneg hk (show 0 ≤ b by omega)
    rw [dr_eqP hb, if_neg (by omega)]
    have e : 2 * b * k = 2 * (k * b) := by rw [Int.mul_assoc, Int.mul_comm b k]
    exact div_uniq (by omega) (by omega) (by omega)
  by_cases h : 0 ≤ k
  · exact key k h
  · have := key (-k) (by omega)
    rw [Int.neg_mul, dr_neg hb] at this
    omega
theorem dr_spec {a b : Int} (hb : 0 < b) : 2 * a - b ≤ 2 * (b * dr a b) ∧ 2 * (b * dr a b) ≤ 2 * a + b := by
  have key : ∀ a : Int, 0 ≤ a → 2 * a - b ≤ 2 * (b * dr a b) ∧ 2 * (b * dr a b) ≤ 2 * a + b := fun a ha => by
    rw [dr_eqP hb, if_neg (by omega)]
    have h1 := Int.mul_ediv_add_emod (2 * a + b) (2 * b)
    have h2 := Int.emod_nonneg (2 * a + b) (show 2 * b ≠ 0 by omega)
    have h3 := Int.emod_lt_of_pos (2 * a + b) (show 0 < 2 * b by omega)
    rw [Int.mul_assoc] at h1
    omega
  by_cases h : 0 ≤ a
  · exact key a h
  · have := key (-a) (by omega)
    rw [dr_neg hb] at this; simp only [Int.mul_neg] at this
    omega
def dnT : List Int := [99984, 99820, 99220, 98320, 97180, 95835, 94310, 92610, 90745, 88700]
def dA (k : Int) : Int := dnT.getD k.toNat 0
def dK (t : Int) : Int := if t / 2000 < 8 then t / 2000 else 8
def dnC : List AV := dnT.map ci
def dens (t : Int) : Int := bl (2000 * dK t) (dA (dK t)) (2000 * (dK t + 1)) (dA (dK t + 1)) t
theorem dnT_get {k : Int} (h0 : 0 ≤ k) (h : k ≤ 9) : dnT[k.toNat]? = some (dA k) := by
  have hl : k.toNat < dnT.length := by show k.toNat < 10; omega
  rw [List.getElem?_eq_getElem hl]
  simp [dA, List.getD, List.getElem?_eq_getElem hl]
theorem dn_get {k o : Nat} {q : Int} (h : dnT[k]? = some q) (ho : o = k) : dnC[o]? = some (.s (.int .i64 q)) := by subst ho; simp [dnC, h]; rfl
theorem dA_dec {k : Int} (h0 : 0 ≤ k) (h : k ≤ 8) : dA (k + 1) ≤ dA k ∧ 88700 ≤ dA (k + 1) ∧ dA k ≤ 99984 := by
  rcases (by omega : k = 0 ∨ k = 1 ∨ k = 2 ∨ k = 3 ∨ k = 4 ∨ k = 5 ∨ k = 6 ∨ k = 7 ∨ k = 8) with rfl | rfl | rfl | rfl | rfl | rfl | rfl | rfl | rfl <;> decide
theorem dA_anti {k : Int} (h0 : 0 ≤ k) : ∀ n : Nat, k + n ≤ 9 → dA (k + n) ≤ dA k
  | 0, _ => by simp
  | n + 1, h => by
    have ih := dA_anti h0 n (by omega)
    have := (dA_dec (k := k + n) (by omega) (by omega)).1
    rw [show k + ((n + 1 : Nat) : Int) = k + n + 1 by omega]; omega
theorem bl_dn {x0 y0 x1 y1 : Int} (x : Int) (hx : x0 < x1) (hy : y1 ≤ y0) : y1 ≤ bl x0 y0 x1 y1 x ∧ bl x0 y0 x1 y1 x ≤ y0 := by
  unfold bl
  split
  · omega
  · split
    · omega
    · have hb : 0 < x1 - x0 := by omega
      have h1 : (y1 - y0) * (x - x0) ≤ 0 := Int.mul_nonpos_of_nonpos_of_nonneg (by omega) (by omega)
      have h2 : (y1 - y0) * (x1 - x0) ≤ (y1 - y0) * (x - x0) := Int.mul_le_mul_of_nonpos_left (by omega) (by omega)
      have h3 := dr_mono' hb h1
      have h4 := dr_mono' hb h2
      rw [dr_mul hb] at h4
      have h5 : dr 0 (x1 - x0) = 0 := by have := dr_mul (k := 0) hb; rwa [Int.zero_mul] at this
      omega
theorem bl_mono {x0 y0 x1 y1 a b : Int} (hx : x0 < x1) (hy : y1 ≤ y0) (h : a ≤ b) : bl x0 y0 x1 y1 b ≤ bl x0 y0 x1 y1 a := by
  have ha := bl_dn a hx hy
  have hb := bl_dn b hx hy
  by_cases h1 : a ≤ x0
  · have e : bl x0 y0 x1 y1 a = y0 := by unfold bl; rw [if_pos (by omega)]
    omega
  · by_cases h2 : b ≥ x1
    · have e : bl x0 y0 x1 y1 b = y1 := by unfold bl; rw [if_neg (by omega), if_pos h2]
      omega
    · have e1 : bl x0 y0 x1 y1 a = y0 + dr ((y1 - y0) * (a - x0)) (x1 - x0) := by unfold bl; rw [if_neg (by omega), if_neg (by omega)]
      have e2 : bl x0 y0 x1 y1 b = y0 + dr ((y1 - y0) * (b - x0)) (x1 - x0) := by unfold bl; rw [if_neg (by omega), if_neg (by omega)]
      have h3 : (y1 - y0) * (b - x0) ≤ (y1 - y0) * (a - x0) := Int.mul_le_mul_of_nonpos_left (by omega) (by omega)
      have := dr_mono' (show 0 < x1 - x0 by omega) h3
      omega
theorem dK_bd {t : Int} (h0 : 0 ≤ t) : 0 ≤ dK t ∧ dK t ≤ 8 := by unfold dK; split <;> omega
theorem dens_bd {t : Int} (h0 : 0 ≤ t) : 88700 ≤ dens t ∧ dens t ≤ 99984 := by
  obtain ⟨k0, k1⟩ := dK_bd h0
  have h := dA_dec k0 k1
  have := bl_dn (x0 := 2000 * dK t) (y0 := dA (dK t)) (x1 := 2000 * (dK t + 1)) (y1 := dA (dK t + 1)) t (by omega) h.1
  unfold dens; omega
theorem dens_anti {t u : Int} (h0 : 0 ≤ t) (h : t ≤ u) : dens u ≤ dens t := by
  obtain ⟨k0, k1⟩ := dK_bd h0
  obtain ⟨j0, j1⟩ := dK_bd (show 0 ≤ u by omega)
  have hk := dA_dec k0 k1
  have hj := dA_dec j0 j1
  by_cases e : dK t = dK u
  · unfold dens; rw [← e]; exact bl_mono (by omega) hk.1 h
  · have hlt : dK t + 1 ≤ dK u := by unfold dK at e ⊢; split at e <;> split at e <;> (repeat (first | rw [if_pos (by omega)] | rw [if_neg (by omega)])) <;> omega
    have a1 := bl_dn (x0 := 2000 * dK t) (y0 := dA (dK t)) (x1 := 2000 * (dK t + 1)) (y1 := dA (dK t + 1)) t (by omega) hk.1
    have a2 := bl_dn (x0 := 2000 * dK u) (y0 := dA (dK u)) (x1 := 2000 * (dK u + 1)) (y1 := dA (dK u + 1)) u (by omega) hj.1
    have a3 := dA_anti (k := dK t + 1) (by omega) (dK u - (dK t + 1)).toNat (by omega)
    rw [show dK t + 1 + ((dK u - (dK t + 1)).toNat : Int) = dK u by omega] at a3
    unfold dens; omega
def evO (l f t : Int) : Prop := (0 ≤ l ∧ l ≤ 1000000000) ∧ (0 ≤ f ∧ f ≤ 18000) ∧ (0 ≤ t ∧ t ≤ 18000)
instance (l f t : Int) : Decidable (evO l f t) := by unfold evO; infer_instance
theorem mulL {l d : Int} (h : 0 ≤ l ∧ l ≤ 1000000000) (h2 : 88700 ≤ d ∧ d ≤ 99984) : 0 ≤ l * d ∧ l * d ≤ 1000000000 * 99984 := mulB (by omega) (by omega) (by omega) (by omega)
theorem ev_law {l f t v two s three : Int} (hv : v = if evO l f t then dr (l * dens f) (dens t) else 0) (h2 : two = if evO l f t then 0 else 2) (hs : s = if evO l f f then dr (l * dens f) (dens f) else 0) (h3 : three = if evO l f f then 0 else 2) :
    ¬ two = 0 ∨ (three = 0 ∧ s = l ∧ (t < f ∨ l ≤ v) ∧ (f < t ∨ v ≤ l)) := by
  by_cases h : evO l f t
  · right
    have h' : evO l f f := ⟨h.1, h.2.1, h.2.1⟩
    rw [if_pos h] at hv; rw [if_pos h'] at hs h3
    have df := dens_bd h.2.1.1
    have dt := dens_bd h.2.2.1
    have hl := h.1
    refine ⟨h3, by rw [hs, dr_mul (by omega)], ?_, ?_⟩
    · by_cases hft : f ≤ t
      · right
        have := dens_anti h.2.1.1 hft
        have h4 := dr_mono' (b := dens t) (by omega) (Int.mul_le_mul_of_nonneg_left this hl.1)
        rw [dr_mul (by omega)] at h4
        omega
      · left; omega
    · by_cases hft : t ≤ f
      · right
        have := dens_anti h.2.2.1 hft
        have h4 := dr_mono' (b := dens t) (by omega) (Int.mul_le_mul_of_nonneg_left this hl.1)
        rw [dr_mul (by omega)] at h4
        omega
      · left; omega
  · left; rw [if_neg h] at h2; omega
def hpO (h t : Int) : Prop := (-200000 ≤ h ∧ h ≤ 200000) ∧ (0 ≤ t ∧ t ≤ 18000)
instance (h t : Int) : Decidable (hpO h t) := by unfold hpO; infer_instance
theorem mulH {h d : Int} (hh : -200000 ≤ h ∧ h ≤ 200000) (h2 : 88700 ≤ d ∧ d ≤ 99984) : -(99984 * 200000) ≤ d * h ∧ d * h ≤ 99984 * 200000 := mulS (by omega) (by omega) (by omega) (by omega)
theorem hp_law {h t p four n five : Int} (hp : p = if hpO h t then dr (dens t * h * 981) 1000000 else 0) (h4 : four = if hpO h t then 0 else 2) (hn : n = if hpO (-h) t then dr (dens t * -h * 981) 1000000 else 0) (h5 : five = if hpO (-h) t then 0 else 2) :
    four = five ∧ p = -n ∧ -20000000000000 ≤ n ∧ n ≤ 20000000000000 := by
  by_cases h0 : hpO h t
  · have h1 : hpO (-h) t := ⟨by have := h0.1; omega, h0.2⟩
    rw [if_pos h0] at hp h4; rw [if_pos h1] at hn h5
    have hm := mulH h1.1 (dens_bd h0.2.1)
    have hb := dr_bound (a := dens t * -h * 981) (b := 1000000) (by omega)
    have e : dens t * h * 981 = -(dens t * -h * 981) := by rw [Int.mul_neg, Int.neg_mul]; omega
    rw [e, dr_neg (by omega)] at hp
    refine ⟨by omega, by omega, by omega, by omega⟩
  · have h1 : ¬ hpO (-h) t := fun h2 => h0 ⟨by have := h2.1; omega, h2.2⟩
    rw [if_neg h0] at hp h4; rw [if_neg h1] at hn h5
    omega
def enO (p m : Int) : Prop := (0 ≤ p ∧ p ≤ 100000000) ∧ (0 ≤ m ∧ m ≤ 1000000)
instance (p m : Int) : Decidable (enO p m) := by unfold enO; infer_instance
theorem mulE2 {p m : Int} (h : enO p m) : 0 ≤ p * m ∧ p * m ≤ 100000000 * 1000000 := mulB h.1.1 h.1.2 h.2.1 h.2.2
def enV (p m : Int) : Int := if enO p m then dr (p * m) 60 else 0
def enC (p m : Int) : Int := if enO p m then 0 else 2
theorem enV_bd {p m : Int} : 0 ≤ enV p m + 1 ∧ enV p m ≤ 100000000000001 := by
  unfold enV; split
  · rename_i h
    have h1 := mulE2 h
    have h2 := dr_spec (a := p * m) (b := 60) (by omega)
    omega
  · omega
theorem en_law {p m k a b c six seven eight : Int} (ha : a = enV p m) (h6 : six = enC p m) (hb : b = enV p k) (h7 : seven = enC p k) (hc : c = enV p (m - k)) (h8 : eight = enC p (m - k)) (hk : 0 ≤ m → 0 ≤ k ∧ k ≤ m) :
    (¬ six = 0 ∧ a = 0) ∨ (six = 0 ∧ seven = 0 ∧ eight = 0 ∧ -1 ≤ a - b - c ∧ a - b - c ≤ 1) := by
  unfold enV at ha hb hc; unfold enC at h6 h7 h8
  by_cases h : enO p m
  · right
    have hk2 := hk h.2.1
    have hm := h.2
    have h1 : enO p k := ⟨h.1, by omega⟩
    have h2 : enO p (m - k) := ⟨h.1, by omega⟩
    rw [if_pos h] at ha h6; rw [if_pos h1] at hb h7; rw [if_pos h2] at hc h8
    have e : p * m = p * k + p * (m - k) := by rw [← Int.mul_add]; congr 1; omega
    have a1 := dr_spec (a := p * m) (b := 60) (by omega)
    have a2 := dr_spec (a := p * k) (b := 60) (by omega)
    have a3 := dr_spec (a := p * (m - k)) (b := 60) (by omega)
    rw [← ha] at a1; rw [← hb] at a2; rw [← hc] at a3
    generalize p * m = x at *
    generalize p * k = y at *
    generalize p * (m - k) = z at *
    refine ⟨h6, h7, h8, by omega, by omega⟩
  · left
    rw [if_neg h] at ha h6
    omega
def smI (xs : List Int) : Nat → Int
  | 0 => 0
  | n + 1 => smI xs n + gd xs n
theorem smI_s {xs : List Int} {n : Nat} {u : Int} (h : xs[n]? = some u) : smI xs (n + 1) = smI xs n + u := by rw [smI, gd_eq h]
theorem smI_bd {xs : List Int} (hw : within xs 0 100000) : ∀ i : Nat, i ≤ xs.length → 0 ≤ smI xs i ∧ smI xs i ≤ i * 100000
  | 0, _ => by simp [smI]
  | i + 1, h => by
    have ih := smI_bd hw i (by omega)
    have hp : xs[i]? = some (xs[i]'(by omega)) := List.getElem?_eq_getElem (by omega)
    have := hw i _ hp
    rw [smI_s hp]; omega
def mwS (fs ts : List Int) : Nat → Int
  | 0 => 0
  | n + 1 => mwS fs ts n + gd fs n * gd ts n
theorem mwS_s {fs ts : List Int} {n : Nat} {u v : Int} (h : fs[n]? = some u) (h2 : ts[n]? = some v) : mwS fs ts (n + 1) = mwS fs ts n + u * v := by rw [mwS, gd_eq h, gd_eq h2]
theorem mul_ft {u v : Int} (h : 0 ≤ u ∧ u ≤ 100000) (h2 : 0 ≤ v ∧ v ≤ 18000) : 0 ≤ u * v ∧ u * v ≤ 100000 * 18000 := mulB h.1 h.2 h2.1 h2.2
theorem mwS_bd {fs ts : List Int} (hw : within fs 0 100000) (hw2 : within ts 0 18000) (hl : ts.length = fs.length) : ∀ i : Nat, i ≤ fs.length → 0 ≤ mwS fs ts i ∧ mwS fs ts i ≤ i * 1800000000
  | 0, _ => by simp [mwS]
  | i + 1, h => by
    have ih := mwS_bd hw hw2 hl i (by omega)
    have hp : fs[i]? = some (fs[i]'(by omega)) := List.getElem?_eq_getElem (by omega)
    have hq : ts[i]? = some (ts[i]'(by omega)) := List.getElem?_eq_getElem (by omega)
    have := mul_ft (hw i _ hp) (hw2 i _ hq)
    rw [mwS_s hp hq]; omega
theorem mwS_mid {fs ts : List Int} {lo hi : Int} (hw : within fs 0 100000) (hl : ts.length = fs.length) (hb : ∀ (j : Nat) (q : Int), ts[j]? = some q → lo ≤ q ∧ q ≤ hi) : ∀ i : Nat, i ≤ fs.length → lo * smI fs i ≤ mwS fs ts i ∧ mwS fs ts i ≤ hi * smI fs i
  | 0, _ => by simp [mwS, smI]
  | i + 1, h => by
    have ih := mwS_mid hw hl hb i (by omega)
    have hp : fs[i]? = some (fs[i]'(by omega)) := List.getElem?_eq_getElem (by omega)
    have hq : ts[i]? = some (ts[i]'(by omega)) := List.getElem?_eq_getElem (by omega)
    have h1 := hw i _ hp
    have h2 := hb i _ hq
    rw [mwS_s hp hq, smI_s hp]
    generalize fs[i]'(by omega) = u at h1
    generalize ts[i]'(by omega) = v at h2
    have a1 := Int.mul_le_mul_of_nonneg_right h2.1 h1.1
    have a2 := Int.mul_le_mul_of_nonneg_right h2.2 h1.1
    rw [Int.mul_comm v u] at a1 a2
    rw [Int.mul_add, Int.mul_add]
    omega
def mwO (fs ts : List Int) : Prop := (1 ≤ fs.length ∧ fs.length ≤ 64) ∧ ts.length = fs.length ∧ within fs 0 100000 ∧ within ts 0 18000
noncomputable instance (fs ts : List Int) : Decidable (mwO fs ts) := Classical.propDecidable _
noncomputable def mwC (fs ts : List Int) : Int := if mwO fs ts then (if smI fs fs.length = 0 then 6 else 0) else 2
noncomputable def mwV (fs ts : List Int) : Int := if mwC fs ts = 0 then dr (mwS fs ts fs.length) (smI fs fs.length) else 0
theorem mw_ok {fs ts : List Int} (h : mwC fs ts = 0) : mwO fs ts ∧ ¬ smI fs fs.length = 0 := by
  unfold mwC at h
  split at h
  · split at h
    · omega
    · exact ⟨by assumption, by assumption⟩
  · omega
theorem mw_law {fs ts : List Int} {lo hi : Int} (h : mwC fs ts = 0) (hb : ∀ (j : Nat) (q : Int), ts[j]? = some q → lo ≤ q ∧ q ≤ hi) : lo ≤ mwV fs ts ∧ mwV fs ts ≤ hi := by
  obtain ⟨⟨h1, h2, h3, h4⟩, h5⟩ := mw_ok h
  have hs := smI_bd h3 fs.length (Nat.le_refl _)
  have hm := mwS_mid h3 h2 hb fs.length (Nat.le_refl _)
  have hpos : 0 < smI fs fs.length := by omega
  have a1 := dr_mono' hpos hm.1
  have a2 := dr_mono' hpos hm.2
  rw [dr_mul hpos] at a1 a2
  unfold mwV; rw [if_pos h]
  exact ⟨a1, a2⟩
theorem tdiv2 {m : Int} : (0 ≤ m ∧ 0 ≤ m.tdiv 2 ∧ m.tdiv 2 ≤ m) ∨ (m < 0 ∧ m ≤ m.tdiv 2 ∧ m.tdiv 2 ≤ 0) := by
  by_cases h : 0 ≤ m
  · left; rw [Int.tdiv_eq_ediv_of_nonneg h]; omega
  · right
    have e : m.tdiv 2 = -((-m).tdiv 2) := by rw [Int.neg_tdiv]; omega
    rw [e, Int.tdiv_eq_ediv_of_nonneg (by omega)]; omega
theorem mmJ {T : List Int} {lo hi lo' hi' p : Int} {i : Nat} (hJ : ∀ (j : Nat) (q : Int), j < i → T[j]? = some q → lo ≤ q ∧ q ≤ hi) (hp : T[i]? = some p) (h1 : lo' ≤ lo ∧ lo' ≤ p) (h2 : hi ≤ hi' ∧ p ≤ hi') : ∀ (j : Nat) (q : Int), j < i + 1 → T[j]? = some q → lo' ≤ q ∧ q ≤ hi' := by
  intro j q hj hq
  by_cases e : j = i
  · subst e; rw [hp] at hq; cases hq; omega
  · have := hJ j q (by omega) hq; omega
theorem mmF {T : List Int} {lo hi : Int} {i : Nat} (hJ : ∀ (j : Nat) (q : Int), j < i → T[j]? = some q → lo ≤ q ∧ q ≤ hi) (hl : T.length ≤ i) : ∀ (j : Nat) (q : Int), T[j]? = some q → lo ≤ q ∧ q ≤ hi := fun j q hq => hJ j q (by have := (List.getElem?_eq_some_iff.1 hq).1; omega) hq
theorem itoa_chars (n : Int) : ∀ x ∈ Lib.itoa n, dig x ∨ x = 45 := fun x hx => by
  unfold Lib.itoa at hx
  split at hx
  · rcases List.mem_cons.1 hx with e | e
    · exact .inr e
    · exact .inl (dec_dig _ x e)
  · exact .inl (dec_dig _ x hx)
theorem join_chars {P : UInt8 → Prop} {sep : List UInt8} (hs : ∀ x ∈ sep, P x) : ∀ L : List (List UInt8), (∀ l ∈ L, ∀ x ∈ l, P x) → ∀ x ∈ Lib.join L sep, P x
  | [], _, x, hx => by rw [Lib.join_nil] at hx; cases hx
  | y :: r, h, x, hx => by
    rw [Lib.join_cons] at hx
    rcases List.mem_append.1 hx with e | e
    · exact h y (by simp) x e
    · unfold Lib.joinTail at e
      obtain ⟨l, hl, hxl⟩ := List.mem_flatten.1 e
      obtain ⟨z, hz, rfl⟩ := List.mem_map.1 hl
      rcases List.mem_append.1 hxl with e2 | e2
      · exact hs x e2
      · exact h z (by simp [hz]) x e2
theorem ltx_chars (L : List Int) : ∀ x ∈ ltx L, dig x ∨ x = 45 ∨ x = 44 :=
  join_chars (P := fun x => dig x ∨ x = 45 ∨ x = 44) (fun x hx => by simp at hx; exact .inr (.inr hx)) _ (fun l hl x hx => by
    obtain ⟨n, _, rfl⟩ := List.mem_map.1 hl
    rcases itoa_chars n x hx with h | h
    · exact .inl h
    · exact .inr (.inl h))
def rtp (a : Int) (r : Int) : Prop := (r + 1) * (r + 1) > a
instance (a : Int) : DecidablePred (rtp a) := fun r => by unfold rtp; infer_instance
noncomputable def rtF (a : Int) : Int := if a < 0 then 0 else srN (rtp a) 3037000499
theorem sq_mono {i j : Int} (h0 : 0 ≤ i) (h : i ≤ j) : i * i ≤ j * j := Int.mul_le_mul h h h0 (by omega)
theorem rtp_mono {a : Int} {i j : Nat} (h : i ≤ j) (hp : rtp a i) : rtp a j := by
  unfold rtp at *
  have := sq_mono (i := (i : Int) + 1) (j := (j : Int) + 1) (by omega) (by omega)
  omega
theorem sq_bd {r : Int} (h0 : 0 ≤ r) (h : r ≤ 3037000499) : 0 ≤ r * r ∧ r * r ≤ 9223372030926249001 := by
  have := sq_mono h0 h
  exact ⟨Int.mul_nonneg h0 h0, by omega⟩
theorem rt_spec {a : Int} (h : 0 ≤ a) (h2 : a ≤ 3600000000) : 0 ≤ rtF a ∧ rtF a ≤ 60000 ∧ rtF a * rtF a ≤ a ∧ (rtF a + 1) * (rtF a + 1) > a := by
  obtain ⟨h3, h4, h5⟩ := srN_spec (rtp a) 3037000499
  have e : rtF a = (srN (rtp a) 3037000499 : Int) := if_neg (by omega)
  have hb : srN (rtp a) 3037000499 ≤ 60000 := by
    apply Classical.byContradiction
    intro hc
    have := h4 60000 (by omega)
    unfold rtp at this
    omega
  have hp := h5 (by omega)
  unfold rtp at hp
  refine ⟨by omega, by omega, ?_, by rw [e]; exact hp⟩
  rw [e]
  cases hk : srN (rtp a) 3037000499 with
  | zero => simp; exact h
  | succ k =>
    have := h4 k (by omega)
    unfold rtp at this
    have e2 : (((k + 1 : Nat) : Int)) = (k : Int) + 1 := by omega
    rw [e2]; omega
theorem dr_close {a b : Int} (hb : 0 < b) : -b ≤ 2 * (a - dr a b * b) ∧ 2 * (a - dr a b * b) ≤ b := by
  rw [dr_eqP hb]
  split
  · have h1 := Int.ediv_mul_le (b - 2 * a) (b := 2 * b) (by omega)
    have h2 := Int.lt_ediv_add_one_mul_self (b - 2 * a) (b := 2 * b) (by omega)
    generalize (b - 2 * a) / (2 * b) = m at *
    have e1 : m * (2 * b) = 2 * (m * b) := by rw [Int.mul_left_comm]
    have e2 : (m + 1) * (2 * b) = 2 * (m * b) + 2 * b := by rw [Int.add_mul, e1]; omega
    rw [e1] at h1; rw [e2] at h2
    rw [Int.neg_mul]
    generalize m * b = t at *
    omega
  · have h1 := Int.ediv_mul_le (2 * a + b) (b := 2 * b) (by omega)
    have h2 := Int.lt_ediv_add_one_mul_self (2 * a + b) (b := 2 * b) (by omega)
    generalize (2 * a + b) / (2 * b) = m at *
    have e1 : m * (2 * b) = 2 * (m * b) := by rw [Int.mul_left_comm]
    have e2 : (m + 1) * (2 * b) = 2 * (m * b) + 2 * b := by rw [Int.add_mul, e1]; omega
    rw [e1] at h1; rw [e2] at h2
    generalize m * b = t at *
    omega
theorem bl_up {y0 y1 : Int} (x : Int) (hy : y0 ≤ y1) : y0 ≤ bl 0 y0 1000 y1 x ∧ bl 0 y0 1000 y1 x ≤ y1 := by
  unfold bl
  split
  · omega
  · split
    · omega
    · have h0 : 0 ≤ (y1 - y0) * (x - 0) := Int.mul_nonneg (by omega) (by omega)
      have h1 : (y1 - y0) * (x - 0) ≤ (y1 - y0) * (1000 - 0) := Int.mul_le_mul_of_nonneg_left (by omega) (by omega)
      have a1 := dr_mono' (b := 1000 - 0) (by omega) h0
      have a2 := dr_mono' (b := 1000 - 0) (by omega) h1
      have e0 := dr_mul (k := 0) (b := 1000 - 0) (by omega)
      rw [Int.zero_mul] at e0
      rw [dr_mul (by omega)] at a2
      rw [e0] at a1
      omega
theorem bl_in {y z : Int} (x : Int) : (y ≤ z → y ≤ bl 0 y 1000 z x ∧ bl 0 y 1000 z x ≤ z) ∧ (z ≤ y → z ≤ bl 0 y 1000 z x ∧ bl 0 y 1000 z x ≤ y) := ⟨fun h => bl_up x h, fun h => bl_dn x (by omega) h⟩
theorem bl_l {y z : Int} : bl 0 y 1000 z 0 = y := if_pos (.inl (Int.le_refl 0))
theorem bl_r {y z : Int} : bl 0 y 1000 z 1000 = z := by unfold bl; rw [if_neg (by omega), if_pos (by omega)]
theorem pcs_join {c : UInt8} : ∀ (r : List (List UInt8)) (x : List UInt8), (∀ l ∈ x :: r, ∀ b ∈ l, b ≠ c) → pcs c (Lib.join (x :: r) [c]) = x :: r
  | [], x, h => by rw [Lib.join_one]; exact pcs_no (h x (by simp))
  | y :: r, x, h => by
    have ih := pcs_join r y (fun l hl => h l (by simp at hl ⊢; exact .inr hl))
    have e : Lib.join (x :: y :: r) [c] = x ++ c :: Lib.join (y :: r) [c] := by
      rw [Lib.join_cons, Lib.join_cons]
      simp [Lib.joinTail]
    rw [e, pcs_hit (h x (by simp)), ih]
theorem splN_dec {L : List Int} (h0 : L ≠ []) : pieces 44 (tx (ltx L)) = L.map dec := by
  obtain ⟨y, r, ey⟩ := List.exists_cons_of_ne_nil h0
  have e : pcs 44 (ltx L) = L.map Lib.itoa := by
    subst ey
    exact pcs_join (c := 44) (r.map Lib.itoa) (Lib.itoa y) (fun l hl b hb e => by
      subst e
      have hm : l ∈ (y :: r).map Lib.itoa := hl
      obtain ⟨n, _, rfl⟩ := List.mem_map.1 hm
      rcases itoa_chars n 44 hb with h | h
      · unfold dig at h; simp at h
      · cases h)
  unfold pieces
  rw [tx_data, e, List.map_map]; rfl
def r8a (cs : List Int) (k n : Int) : Int := if n ≤ 1 ∨ k ≥ cs.length then 0 else (cs.getD k.toNat 0) % n
def r8w (cs : List Int) (k n : Int) : Int := (256 * r8a cs k 256 + r8a cs (k + 1) 256) % n
theorem r8a_bd {cs : List Int} {k : Int} : 0 ≤ r8a cs k 256 ∧ r8a cs k 256 < 256 := by unfold r8a; split <;> omega
theorem r8w_bd {cs : List Int} {k n : Int} (hn : 0 < n) : 0 ≤ r8w cs k n ∧ r8w cs k n < n := ⟨Int.emod_nonneg _ (by omega), Int.emod_lt_of_pos _ hn⟩
theorem bas_in {a b x y z : Int} (ha : -100000 ≤ a ∧ a ≤ 3600000000) (hb : 1 ≤ b ∧ b ≤ 5000) (hx : 0 ≤ x ∧ x < 1000) (hy : -2500 ≤ y ∧ y < 2500) (hz : -2500 ≤ z ∧ z < 2500) : fitsL [a, b, x, y, z] := ⟨by simp, fun w hw => by
  simp only [List.mem_cons, List.not_mem_nil, or_false] at hw
  rcases hw with rfl | rfl | rfl | rfl | rfl <;> omega⟩
theorem lt_rl {L : List Int} (h : fitsL L) (h0 : L ≠ []) : rlB (lt L) ∧ rlL (lt L) = L := by
  have ht : lt L = tx (ltx L) := lt_ok h h0
  have hp : pieces 44 (lt L) = L.map dec := by
    have := splN_dec (L := L) h0
    rw [ht]; exact this
  have hd : ¬ lt L = tx [45] := fun e => by
    rw [e] at hp
    have : pieces 44 (tx [45]) = [tx [45]] := by unfold pieces; rw [tx_data]; rfl
    rw [this] at hp
    obtain ⟨y, r, ey⟩ := List.exists_cons_of_ne_nil h0
    rw [ey] at hp
    simp only [List.map_cons] at hp
    have := (List.cons.inj hp).1
    have h2 := tx_inj this
    unfold Lib.itoa at h2
    split at h2
    · exact dec_ne _ (List.cons.inj h2).2.symm
    · have := dec_dig y.toNat 45 (by rw [← h2]; simp)
      unfold dig at this; simp at this
  have hb : ∀ x ∈ L, x.natAbs < 1000000000000000000 := fun x hx => by have := h.2 x hx; omega
  have hr : rlP (lt L) := ⟨by rw [hp, List.length_map]; exact h.1, fun p hq => by
    rw [hp] at hq
    obtain ⟨n, hn, rfl⟩ := List.mem_map.1 hq
    have := rdN_eq (hb n hn)
    exact ⟨this.1, by rw [this.2]; exact h.2 n hn⟩⟩
  have e := rl_y hd hr
  refine ⟨e.1, ?_⟩
  rw [e.2, hp, List.map_map]
  conv => rhs; rw [← List.map_id L]
  exact List.map_congr_left fun n hn => (rdN_eq (hb n hn)).2
theorem fO133_0 : fOff Tryd.prog 133 0 = some 0 := by kernel_rfl
theorem fO133_1 : fOff Tryd.prog 133 1 = some 1 := by kernel_rfl
theorem fO133_2 : fOff Tryd.prog 133 2 = some 2 := by kernel_rfl
theorem hmix : Tryd.prog.follows .mixedOrders = true := by kernel_rfl
theorem pl113 : placesA Tryd.prog 113 = some [(0, 1), (1, 1), (2, 1), (3, 1)] := by kernel_rfl
theorem pl133 : placesA Tryd.prog 133 = some [(0, 1), (1, 1), (2, 1)] := by kernel_rfl
theorem sz131 : tSz Tryd.prog 131 = some 1 := by kernel_rfl
theorem sz3 : tSz Tryd.prog 3 = some 1 := by kernel_rfl
theorem tA131 : tAgg Tryd.prog 131 = some none := by kernel_rfl
theorem tA2 : tAgg Tryd.prog 2 = some none := by kernel_rfl
theorem tA3 : tAgg Tryd.prog 3 = some none := by kernel_rfl
theorem tA5 : tAgg Tryd.prog 5 = some none := by kernel_rfl
theorem tA61 : tAgg Tryd.prog 61 = some none := by kernel_rfl
theorem tA9 : tAgg Tryd.prog 9 = some none := by kernel_rfl
theorem tApp61 : tApp Tryd.prog 61 = some (5, 1, 1) := by kernel_rfl
theorem tApp69 : tApp Tryd.prog 69 = some (2, 1, 8) := by kernel_rfl
theorem tApp86 : tApp Tryd.prog 86 = some (9, 1, 16) := by kernel_rfl
theorem tArrP113 : tArrP Tryd.prog 113 = some (4, 1, none) := by kernel_rfl
theorem tB4 : tIsBool Tryd.prog 4 = true := by kernel_rfl
theorem tBy9 : tBytes Tryd.prog 9 = some 16 := by kernel_rfl
theorem tByS61 : tIsBytes Tryd.prog 61 = true := by kernel_rfl
theorem tE61 : tElem Tryd.prog 61 = some (5, 1) := by kernel_rfl
theorem tE69 : tElem Tryd.prog 69 = some (2, 1) := by kernel_rfl
theorem tE86 : tElem Tryd.prog 86 = some (9, 1) := by kernel_rfl
theorem tEs61 : (tElem Tryd.prog 61).isSome = true := by kernel_rfl
theorem tEs69 : (tElem Tryd.prog 69).isSome = true := by kernel_rfl
theorem tEs86 : (tElem Tryd.prog 86).isSome = true := by kernel_rfl
theorem tIf115 : tIfc Tryd.prog 115 = true := by kernel_rfl
theorem tK131 : tKind Tryd.prog 131 = some .u64 := by kernel_rfl
theorem tK135 : tKind Tryd.prog 135 = some .u64 := by kernel_rfl
theorem tK2 : tKind Tryd.prog 2 = some .i64 := by kernel_rfl
theorem tK3 : tKind Tryd.prog 3 = some .i64 := by kernel_rfl
theorem tK5 : tKind Tryd.prog 5 = some .u8 := by kernel_rfl
theorem tStr9 : tIsStr Tryd.prog 9 = true := by kernel_rfl
theorem zA113 : zeroA Tryd.prog 113 = some [.s (.int .i64 0), .s (.int .i64 0), .s (.int .i64 0), .s (.int .i64 0)] := by kernel_rfl
theorem zA133 : zeroA Tryd.prog 133 = some [.nil, .s (.int .i64 0), .s (.int .u64 0)] := by kernel_rfl
theorem zA2 : zeroA Tryd.prog 2 = some [.s (.int .i64 0)] := by kernel_rfl
theorem zA5 : zeroA Tryd.prog 5 = some [.s (.int .u8 0)] := by kernel_rfl
theorem zA9 : zeroA Tryd.prog 9 = some [.s (.string ⟨#[]⟩)] := by kernel_rfl

-- impl.within
set_option maxRecDepth 20000 in
set_option maxHeartbeats 2000000 in
theorem D_impl_within (a lo hi : Int)  : Den Tryd.prog 81 [.s (.int .i64 a), .s (.int .i64 lo), .s (.int .i64 hi)] (.s (.bool (decide (lo ≤ a ∧ a ≤ hi)))) := by
  refine den_of_good Tryd.func81 (by decide) rfl (Nat.le_of_ble_eq_true rfl) (Nat.le_of_ble_eq_true rfl) ?_
  refine good_seq fun K1 hK1 => ?_
  refine good_region rfl ?_
  refine ev_q rfl (q_assign (by conv => lhs; whnf) ?_)
  refine ev_nil (hK1 _ ?_); clear hK1
  refine good_seq fun K2 hK2 => ?_
  refine good_region rfl ?_
  refine ev_q rfl (q_move (by conv => lhs; whnf) ?_)
  refine ev_q rfl (q_move (by conv => lhs; whnf) ?_)
  refine ev_q rfl (q_int rfl rfl ?_)
  intro b3 hb3; cases b3
  · replace hb3 := dF hb3
    refine ev_q rfl (q_move (by conv => lhs; whnf) ?_)
    refine ev_skip rfl ?_
    refine ev_skip rfl ?_
    refine ev_skip rfl ?_
    refine ev_q rfl (q_pickF rfl (by conv => lhs; whnf) ?_)
    refine ev_q rfl (q_assign (by conv => lhs; whnf) ?_)
    refine ev_nil (hK2 _ ?_); clear hK2
    refine good_ret ?_
    repeat (first | refine thenQ_ret ?_ | refine blockQ_ret ?_)
    refine ret_tmp (st := _) rfl (by conv => lhs; whnf) rfl ?_
    first | rfl | exact fT (by first | omega | grind) | exact fF (by first | omega | grind) | exact fT' (by first | omega | grind) | (exfalso; first | omega | grind)
  · replace hb3 := dT hb3
    refine ev_q rfl (q_move (by conv => lhs; whnf) ?_)
    refine ev_q rfl (q_move (by conv => lhs; whnf) ?_)
    refine ev_q rfl (q_move (by conv => lhs; whnf) ?_)
    refine ev_q rfl (q_int rfl rfl ?_)
    intro b4 hb4; cases b4
    · replace hb4 := dF hb4
      refine ev_q rfl (q_pickT rfl (by conv => lhs; whnf) ?_)
      refine ev_q rfl (q_assign (by conv => lhs; whnf) ?_)
      refine ev_nil (hK2 _ ?_); clear hK2
      refine good_ret ?_
      repeat (first | refine thenQ_ret ?_ | refine blockQ_ret ?_)
      refine ret_tmp (st := _) rfl (by conv => lhs; whnf) rfl ?_
      first | rfl | exact fT (by first | omega | grind) | exact fF (by first | omega | grind) | exact fT' (by first | omega | grind) | (exfalso; first | omega | grind)
    · replace hb4 := dT hb4
      refine ev_q rfl (q_pickT rfl (by conv => lhs; whnf) ?_)
      refine ev_q rfl (q_assign (by conv => lhs; whnf) ?_)
      refine ev_nil (hK2 _ ?_); clear hK2
      refine good_ret ?_
      repeat (first | refine thenQ_ret ?_ | refine blockQ_ret ?_)
      refine ret_tmp (st := _) rfl (by conv => lhs; whnf) rfl ?_
      first | rfl | exact fT (by first | omega | grind) | exact fF (by first | omega | grind) | exact fT' (by first | omega | grind) | (exfalso; first | omega | grind)

-- spec.l00In
set_option maxRecDepth 20000 in
set_option maxHeartbeats 2000000 in
theorem D_spec_l00In (a lo hi : Int)  : Den Tryd.prog 88 [.s (.int .i64 a), .s (.int .i64 lo), .s (.int .i64 hi)] (.s (.bool (decide (lo ≤ a ∧ a ≤ hi)))) := by
  refine den_of_good Tryd.func88 (by decide) rfl (Nat.le_of_ble_eq_true rfl) (Nat.le_of_ble_eq_true rfl) ?_
  refine good_seq fun K1 hK1 => ?_
  refine good_region rfl ?_
  refine ev_q rfl (q_assign (by conv => lhs; whnf) ?_)
  refine ev_nil (hK1 _ ?_); clear hK1
  refine good_seq fun K2 hK2 => ?_
  refine good_region rfl ?_
  refine ev_q rfl (q_move (by conv => lhs; whnf) ?_)
  refine ev_q rfl (q_move (by conv => lhs; whnf) ?_)
  refine ev_q rfl (q_int rfl rfl ?_)
  intro b3 hb3; cases b3
  · replace hb3 := dF hb3
    refine ev_q rfl (q_move (by conv => lhs; whnf) ?_)
    refine ev_skip rfl ?_
    refine ev_skip rfl ?_
    refine ev_skip rfl ?_
    refine ev_q rfl (q_pickF rfl (by conv => lhs; whnf) ?_)
    refine ev_q rfl (q_assign (by conv => lhs; whnf) ?_)
    refine ev_nil (hK2 _ ?_); clear hK2
    refine good_ret ?_
    repeat (first | refine thenQ_ret ?_ | refine blockQ_ret ?_)
    refine ret_tmp (st := _) rfl (by conv => lhs; whnf) rfl ?_
    first | rfl | exact fT (by first | omega | grind) | exact fF (by first | omega | grind) | exact fT' (by first | omega | grind) | (exfalso; first | omega | grind)
  · replace hb3 := dT hb3
    refine ev_q rfl (q_move (by conv => lhs; whnf) ?_)
    refine ev_q rfl (q_move (by conv => lhs; whnf) ?_)
    refine ev_q rfl (q_move (by conv => lhs; whnf) ?_)
    refine ev_q rfl (q_int rfl rfl ?_)
    intro b4 hb4; cases b4
    · replace hb4 := dF hb4
      refine ev_q rfl (q_pickT rfl (by conv => lhs; whnf) ?_)
      refine ev_q rfl (q_assign (by conv => lhs; whnf) ?_)
      refine ev_nil (hK2 _ ?_); clear hK2
      refine good_ret ?_
      repeat (first | refine thenQ_ret ?_ | refine blockQ_ret ?_)
      refine ret_tmp (st := _) rfl (by conv => lhs; whnf) rfl ?_
      first | rfl | exact fT (by first | omega | grind) | exact fF (by first | omega | grind) | exact fT' (by first | omega | grind) | (exfalso; first | omega | grind)
    · replace hb4 := dT hb4
      refine ev_q rfl (q_pickT rfl (by conv => lhs; whnf) ?_)
      refine ev_q rfl (q_assign (by conv => lhs; whnf) ?_)
      refine ev_nil (hK2 _ ?_); clear hK2
      refine good_ret ?_
      repeat (first | refine thenQ_ret ?_ | refine blockQ_ret ?_)
      refine ret_tmp (st := _) rfl (by conv => lhs; whnf) rfl ?_
      first | rfl | exact fT (by first | omega | grind) | exact fF (by first | omega | grind) | exact fT' (by first | omega | grind) | (exfalso; first | omega | grind)

theorem D_fmt (n : Int) (h : inI n) : Den Tryd.prog 87 [.s (.int .i64 n), .s (.int .i64 10)] (.s (.string (dec n))) := by
  obtain ⟨g, hg⟩ := Option.isSome_iff_exists.1 (show (Tryd.prog.globalNamed "internal/strconv.uint64pow10").isSome = true by kernel_rfl)
  exact den_fmt ⟨_, Tryd.func87, rfl, rfl⟩ hg (fun n h0 h1 w ht => Tryd.strconv_FormatInt_10 n h0 h1 w ht) n h.1 h.2

theorem D_joinI (L : List Int) (hl : L.length ≤ 1000000) (hi : ∀ x ∈ L, inI x) : Den Tryd.prog 57 [.lst 1 (L.map dAV), .s (.string ⟨#[44]⟩)] (.s (.string (tx (ltx L)))) := by
  have e : (L.map dec).map stA = L.map dAV := by rw [List.map_map]; rfl
  have e2 : (L.map dec).map (fun b : ByteArray => b.data.toList) = L.map Lib.itoa := by rw [List.map_map]; exact List.map_congr_left fun n _ => by simp [dec, tx_data]
  have hlen := ltx_len hi (i := L.length) (Nat.le_refl _)
  rw [List.take_length] at hlen
  have h := den_join ⟨_, Tryd.func57, rfl, rfl⟩ Tryd.strings_Join_none Tryd.strings_Join (L.map dec) ⟨#[44]⟩ (by rw [List.length_map]; omega) (by rw [e2]; show (ltx L).length ≤ _; omega)
  rw [e, e2] at h
  exact h

-- impl.Decimal
set_option maxRecDepth 20000 in
set_option maxHeartbeats 2000000 in
theorem D_impl_Decimal (n : Int) (h : inI n) : Den Tryd.prog 48 [.s (.int .i64 n)] (.s (.string (dec n))) := by
  refine den_of_good Tryd.func48 (by decide) rfl (Nat.le_of_ble_eq_true rfl) (Nat.le_of_ble_eq_true rfl) ?_
  refine good_seq fun K1 hK1 => ?_
  refine good_region rfl ?_
  refine ev_q rfl (q_assign (by conv => lhs; whnf) ?_)
  refine ev_nil (hK1 _ ?_); clear hK1
  refine good_seq fun K2 hK2 => ?_
  refine good_region rfl ?_
  refine ev_q rfl (q_move (by conv => lhs; whnf) ?_)
  refine ev_q rfl (q_call rfl rfl (rfl) (D_fmt n h) rfl ?_)
  refine ev_q rfl (q_assign (by conv => lhs; whnf) ?_)
  refine ev_nil (hK2 _ ?_); clear hK2
  refine good_ret ?_
  repeat (first | refine thenQ_ret ?_ | refine blockQ_ret ?_)
  refine ret_tmp (st := _) rfl (by conv => lhs; whnf) rfl ?_
  rfl

-- impl.ListText
set_option maxRecDepth 20000 in
set_option maxHeartbeats 2000000 in
theorem D_impl_ListText (xs : List Int) (hx : xs.length ≤ 17592186044416) : Den Tryd.prog 46 [.lst 1 (xs.map ci)] (.s (.string (lt xs))) := by
  refine den_of_good Tryd.func46 (by decide) rfl (Nat.le_of_ble_eq_true rfl) (Nat.le_of_ble_eq_true rfl) ?_
  refine good_seq fun K1 hK1 => ?_
  refine good_region rfl ?_
  refine ev_q rfl (q_assign (by conv => lhs; whnf) ?_)
  refine ev_nil (hK1 _ ?_); clear hK1
  refine good_seq fun K2 hK2 => ?_
  refine good_seq fun K3 hK3 => ?_
  refine good_region rfl ?_
  refine ev_q rfl (q_move (by conv => lhs; whnf) ?_)
  refine ev_q rfl (q_len tEs69 rfl ?_)
  intro n4 hn4
  try simp only [List.length_map] at hn4
  refine ev_q rfl (q_int rfl rfl ?_)
  intro b5 hb5; cases b5
  · replace hb5 := dF hb5
    refine ev_nil (hK3 _ ?_); clear hK3
    refine good_condF rfl ?_
    refine good_skip (hK2 _ ?_); clear hK2
    refine good_seq fun K6 hK6 => ?_
    refine good_seq fun K7 hK7 => ?_
    refine good_region rfl ?_
    refine ev_q rfl (q_move (by conv => lhs; whnf) ?_)
    refine ev_q rfl (q_len tEs69 rfl ?_)
    intro n8 hn8
    try simp only [List.length_map] at hn8
    refine ev_q rfl (q_int rfl rfl ?_)
    intro b9 hb9; cases b9
    · replace hb9 := eqF hb9
      refine ev_nil (hK7 _ ?_); clear hK7
      refine good_condF rfl ?_
      refine good_skip (hK6 _ ?_); clear hK6
      refine good_seq fun K10 hK10 => ?_
      refine good_region rfl ?_
      refine ev_q rfl (q_move (by conv => lhs; whnf) ?_)
      refine ev_q rfl (q_len tEs69 rfl ?_)
      intro n11 hn11
      try simp only [List.length_map] at hn11
      refine ev_k rfl (k_make2 tE86 rfl rfl zA9 tBy9 rfl (by omega) (by omega) (by omega) (by omega) rfl (by rfl) ?_)
      refine ev_q rfl (q_assign (by conv => lhs; whnf) ?_)
      refine ev_nil (hK10 _ ?_); clear hK10
      refine good_seq fun K12 hK12 => ?_
      refine good_seq fun K13 hK13 => ?_
      refine good_region rfl ?_
      refine ev_q rfl (q_move (by conv => lhs; whnf) ?_)
      refine ev_q rfl (q_len tEs69 rfl ?_)
      intro n14 hn14
      try simp only [List.length_map] at hn14
      refine ev_q rfl (q_move (by conv => lhs; whnf) ?_)
      refine ev_nil (hK13 _ ?_); clear hK13
      refine good_block ?_
      refine good_loop (α := Nat) (fun i => { env := upd (upd (upd (upd ((fun _ => .junk)) 3 (.own 28 (xs.take i).length)) 15 (.lst 1 (xs.map ci))) 16 (.s (.int .i64 ((xs.length : Int))))) 17 (.s (.int .i64 i)), H := upd ((fun _ => none)) 28 (some (.row 9 1 ((xs.take i).map dAV))) }) (fun i => i ≤ xs.length ∧ ∀ j q, j < i → xs[j]? = some q → -1000000000000 ≤ q ∧ q ≤ 1000000000000) (fun i => xs.length - i) 0 ?_ ?_ ?_
      · exact ⟨Nat.zero_le _, fun j u hj => by omega⟩
      · refine Sub.trans (sub_move 3 14 28 rfl rfl rfl (by decide)) ?_
        refine sub_weak ?_ ?_
        · exact weakH_row (rowEq (rfl)) (weakH_none _)
        · refine weakE_upd ?e17 ?r17 (weakE_upd ?e16 ?r16 (weakE_upd ?e15 ?r15 (weakE_upd ?e3 ?r3 (weakE_junk _ _))))
          case e3 => first | rfl | exact fI (by omega) | (first | rfl | (rw [hst]; exact ownEq (by simp)))
          case r3 => intro h hh; simp [refs] at hh; subst hh; rfl
          case e15 => first | rfl | exact fI (by omega) | (simp_all)
          case r15 => intro h hh; cases hh
          case e16 => first | rfl | exact fI (by omega) | (simp_all)
          case r16 => intro h hh; cases hh
          case e17 => first | rfl | exact fI (by omega) | (simp_all)
          case r17 => intro h hh; cases hh
      · rintro i ⟨hI, hJ⟩
        refine good_seq fun K15 hK15 => ?_
        refine good_region rfl ?_
        refine ev_q rfl (q_int rfl rfl ?_)
        intro b16 hb16; cases b16
        · replace hb16 := dF hb16
          obtain rfl : i = xs.length := by omega
          have hall : ∀ x ∈ xs, -1000000000000 ≤ x ∧ x ≤ 1000000000000 := fun x hx => by obtain ⟨j, hj⟩ := List.getElem?_of_mem hx; exact hJ j x (List.getElem?_eq_some_iff.1 hj).1 hj
          have hfl : fitsL xs := ⟨by omega, hall⟩
          have hne : xs ≠ [] := fun e => by have e2 := congrArg List.length e; rw [List.length_nil] at e2; omega
          refine ev_nil (hK15 _ ?_); clear hK15
          refine good_seq fun K17 hK17 => ?_
          refine good_condF rfl ?_
          refine good_exit ?_
          repeat (first | refine thenQ_exit ?_ | refine blockQ_pass rfl ?_)
          refine blockQ_exit (hK12 _ ?_); clear hK12
          refine good_seq fun K18 hK18 => ?_
          refine good_region rfl ?_
          refine ev_q rfl (q_move (by conv => lhs; whnf) ?_)
          refine ev_q rfl (q_call rfl rfl (by change ([.lst 1 (List.take (List.take xs.length xs).length ((List.take xs.length xs).map dAV)), .s (.string ⟨#[44]⟩)] : List AV) = _; simp only [takeMap, List.take_length]) (D_joinI xs (by omega) (fun x hx => by have := hall x hx; exact ⟨by omega, by omega⟩)) rfl ?_)
          refine ev_q rfl (q_assign (by conv => lhs; whnf) ?_)
          refine ev_nil (hK18 _ ?_); clear hK18
          refine good_ret ?_
          repeat (first | refine thenQ_ret ?_ | refine blockQ_ret ?_)
          refine ret_tmp (st := _) rfl (by conv => lhs; whnf) rfl ?_
          clear hK17
          first | exact fS (lt_no hnf).symm | exact fS (by subst h0; exact lt_0.symm) | exact fS (lt_ok hfl hne).symm
        · replace hb16 := dT hb16
          obtain ⟨q, hq⟩ := getL (xs := xs) (n := (i : Int)) (by omega) (by omega)
          replace hq : xs[i]? = some q := hq
          have hst := takeS hq
          refine ev_nil (hK15 _ ?_); clear hK15
          refine good_seq fun K19 hK19 => ?_
          refine good_condT rfl ?_
          refine good_skip (hK19 _ ?_); clear hK19
          refine good_seq fun K20 hK20 => ?_
          refine good_block ?_
          refine good_seq fun K21 hK21 => ?_
          refine good_region rfl ?_
          refine ev_q rfl (q_idx tE69 rfl rfl (by exact Int.natCast_nonneg _) (by exact map_get hq) rfl ?_)
          refine ev_q rfl (q_load tA2 rfl ?_)
          refine ev_q rfl (q_assign (by conv => lhs; whnf) ?_)
          refine ev_nil (hK21 _ ?_); clear hK21
          refine good_seq fun K22 hK22 => ?_
          refine good_seq fun K23 hK23 => ?_
          refine good_region rfl ?_
          refine ev_q rfl (q_move (by conv => lhs; whnf) ?_)
          refine ev_q rfl (q_callB rfl rfl (rfl) (D_impl_within ..) ?_)
          intro b24 hb24; cases b24
          · first | replace hb24 := dF hb24 | skip
            have hnf : ¬ fitsL xs := fun h => by have := h.2 q (List.mem_of_getElem? hq); omega
            refine ev_q rfl (q_not rfl rfl ?_)
            refine ev_nil (hK23 _ ?_); clear hK23
            refine good_condT rfl ?_
            refine good_seq fun K25 hK25 => ?_
            refine good_region rfl ?_
            refine ev_q rfl (q_assign (by conv => lhs; whnf) ?_)
            refine ev_nil (hK25 _ ?_); clear hK25
            refine good_ret ?_
            repeat (first | refine thenQ_ret ?_ | refine blockQ_ret ?_)
            refine ret_tmp (st := _) rfl (by conv => lhs; whnf) rfl ?_
            clear hK12 hK20 hK22
            first | exact fS (lt_no hnf).symm | exact fS (by subst h0; exact lt_0.symm) | exact fS (lt_ok hfl hne).symm
          · first | replace hb24 := dT hb24 | skip
            have hqb := hb24
            refine ev_q rfl (q_not rfl rfl ?_)
            refine ev_nil (hK23 _ ?_); clear hK23
            refine good_condF rfl ?_
            refine good_skip (hK22 _ ?_); clear hK22
            refine good_region rfl ?_
            refine ev_q rfl (q_move (by conv => lhs; whnf) ?_)
            refine ev_q rfl (q_move (by conv => lhs; whnf) ?_)
            refine ev_q rfl (q_call rfl rfl (rfl) (D_impl_Decimal q ⟨by omega, by omega⟩) rfl ?_)
            refine ev_k rfl (k_lit tE86 zA9 rfl rfl (by decide) (by decide) rfl rfl rfl ?_)
            refine ev_k rfl (k_app tApp86 rfl rfl (by simp) rfl (.inr rfl) (by simp [maxLen]; omega) (by simp; omega) ?_)
            refine ev_q rfl (q_assign (by conv => lhs; whnf) ?_)
            refine ev_nil (hK20 _ ?_); clear hK20
            refine good_region rfl ?_
            refine ev_q rfl (q_int rfl rfl ?_)
            intro n26 hn26
            replace hn26 := in64 hn26 (by omega) (by omega)
            refine ev_q rfl (q_move (by conv => lhs; whnf) ?_)
            refine ev_nil ?_
            clear hK12
            refine ⟨i + 1, ?_, ?_, ?_⟩
            · exact ⟨by omega, all_extI (Q := fun _ (q : Int) => -1000000000000 ≤ q ∧ q ≤ 1000000000000) hJ hq hqb⟩
            · first | omega | (simp only []; omega) | (dsimp only; omega)
            · refine sub_weak ?_ ?_
              · exact weakH_row (rowEq (appG hst rfl)) (weakH_none _)
              · refine weakE_upd ?e17 ?r17 (weakE_upd ?e16 ?r16 (weakE_upd ?e15 ?r15 (weakE_upd ?e3 ?r3 (weakE_junk _ _))))
                case e3 => first | rfl | exact fI (by omega) | (first | rfl | (rw [hst]; exact ownEq (by simp)))
                case r3 => intro h hh; simp [refs] at hh; subst hh; rfl
                case e15 => first | rfl | exact fI (by omega) | (simp_all)
                case r15 => intro h hh; cases hh
                case e16 => first | rfl | exact fI (by omega) | (simp_all)
                case r16 => intro h hh; cases hh
                case e17 => first | rfl | exact fI (by omega) | (simp_all)
                case r17 => intro h hh; cases hh
    · replace hb9 := eqT hb9
      have h0 : xs = [] := List.eq_nil_of_length_eq_zero (by omega)
      refine ev_nil (hK7 _ ?_); clear hK7
      refine good_condT rfl ?_
      refine good_seq fun K27 hK27 => ?_
      refine good_region rfl ?_
      refine ev_q rfl (q_assign (by conv => lhs; whnf) ?_)
      refine ev_nil (hK27 _ ?_); clear hK27
      refine good_ret ?_
      repeat (first | refine thenQ_ret ?_ | refine blockQ_ret ?_)
      refine ret_tmp (st := _) rfl (by conv => lhs; whnf) rfl ?_
      clear hK6
      first | exact fS (lt_no hnf).symm | exact fS (by subst h0; exact lt_0.symm) | exact fS (lt_ok hfl hne).symm
  · replace hb5 := dT hb5
    have hnf : ¬ fitsL xs := fun h => by have := h.1; omega
    refine ev_nil (hK3 _ ?_); clear hK3
    refine good_condT rfl ?_
    refine good_seq fun K28 hK28 => ?_
    refine good_region rfl ?_
    refine ev_q rfl (q_assign (by conv => lhs; whnf) ?_)
    refine ev_nil (hK28 _ ?_); clear hK28
    refine good_ret ?_
    repeat (first | refine thenQ_ret ?_ | refine blockQ_ret ?_)
    refine ret_tmp (st := _) rfl (by conv => lhs; whnf) rfl ?_
    clear hK2
    first | exact fS (lt_no hnf).symm | exact fS (by subst h0; exact lt_0.symm) | exact fS (lt_ok hfl hne).symm

-- spec.l01Dec
set_option maxRecDepth 20000 in
set_option maxHeartbeats 2000000 in
theorem D_spec_l01Dec (n : Int) (h : inI n) : Den Tryd.prog 92 [.s (.int .i64 n)] (.s (.string (dec n))) := by
  have hr : -9223372036854775808 ≤ n ∧ n ≤ 9223372036854775807 := h
  refine den_of_good Tryd.func92 (by decide) rfl (Nat.le_of_ble_eq_true rfl) (Nat.le_of_ble_eq_true rfl) ?_
  refine good_seq fun K1 hK1 => ?_
  refine good_region rfl ?_
  refine ev_q rfl (q_assign (by conv => lhs; whnf) ?_)
  refine ev_nil (hK1 _ ?_); clear hK1
  refine good_seq fun K2 hK2 => ?_
  refine good_seq fun K3 hK3 => ?_
  refine good_region rfl ?_
  refine ev_q rfl (q_move (by conv => lhs; whnf) ?_)
  refine ev_q rfl (q_int rfl rfl ?_)
  intro b4 hb4; cases b4
  · replace hb4 := eqF hb4
    refine ev_nil (hK3 _ ?_); clear hK3
    refine good_condF rfl ?_
    refine good_skip (hK2 _ ?_); clear hK2
    refine good_seq fun K5 hK5 => ?_
    refine good_region rfl ?_
    refine ev_k rfl (k_lit tE61 zA5 rfl rfl (by decide) (by decide) rfl rfl rfl ?_)
    refine ev_q rfl (q_assign (by conv => lhs; whnf) ?_)
    refine ev_nil (hK5 _ ?_); clear hK5
    refine good_seq fun K6 hK6 => ?_
    refine good_seq fun K7 hK7 => ?_
    refine good_region rfl ?_
    refine ev_q rfl (q_move (by conv => lhs; whnf) ?_)
    refine ev_q rfl (q_assign (by conv => lhs; whnf) ?_)
    refine ev_nil (hK7 _ ?_); clear hK7
    refine good_block ?_
    refine good_loop (α := Int × List Int) (fun (m, L) => { env := upd (upd (upd ((fun _ => .junk)) 0 (.s (.int .i64 n))) 3 (.own 27 L.length)) 4 (.s (.int .i64 m)), H := upd ((fun _ => none)) 27 (some (.row 5 1 (L.map u8A))) }) (fun (m, L) => decI n m L) (fun (m, L) => m.natAbs) (n, []) ?_ ?_ ?_
    · exact decI_0 (by omega)
    · refine Sub.trans (sub_move 3 10 27 rfl rfl rfl (by decide)) ?_
      refine sub_weak ?_ ?_
      · exact weakH_row (rowEq (rfl)) (weakH_none _)
      · refine weakE_upd ?e4 ?r4 (weakE_upd ?e3 ?r3 (weakE_upd ?e0 ?r0 (weakE_junk _ _)))
        case e0 => first | rfl | exact fI (by omega) | (simp_all)
        case r0 => intro h hh; cases hh
        case e3 => first | rfl | exact fI (by omega) | (first | rfl | exact ownEq (by simp))
        case r3 => intro h hh; simp [refs] at hh; subst hh; rfl
        case e4 => first | rfl | exact fI (by omega) | (rfl)
        case r4 => intro h hh; cases hh
    · rintro ⟨m, L⟩ hI
      refine good_seq fun K8 hK8 => ?_
      refine good_seq fun K9 hK9 => ?_
      refine good_region rfl ?_
      refine ev_q rfl (q_move (by conv => lhs; whnf) ?_)
      refine ev_q rfl (q_int rfl rfl ?_)
      intro b10 hb10; cases b10
      · replace hb10 := neF hb10
        obtain rfl : m = 0 := by omega
        have hlen := decI_len hI hr
        refine ev_nil (hK9 _ ?_); clear hK9
        refine good_condF rfl ?_
        refine good_exit ?_
        repeat (first | refine thenQ_exit ?_ | refine blockQ_pass rfl ?_)
        refine blockQ_exit (hK6 _ ?_); clear hK6
        refine good_seq fun K11 hK11 => ?_
        refine good_seq fun K12 hK12 => ?_
        refine good_region rfl ?_
        refine ev_q rfl (q_move (by conv => lhs; whnf) ?_)
        refine ev_q rfl (q_int rfl rfl ?_)
        intro b13 hb13; cases b13
        · replace hb13 := dF hb13
          have eL : decL n L = L := if_neg (by omega)
          have hdl := decL_len (n := n) (L := L)
          refine ev_nil (hK12 _ ?_); clear hK12
          refine good_condF rfl ?_
          refine good_skip (hK11 _ ?_); clear hK11
          refine good_seq fun K14 hK14 => ?_
          first | refine good_weak (sub_move 3 27 900001 rfl rfl rfl (by decide)) ?_ | refine good_weak (sub_move 3 32 900001 rfl rfl rfl (by decide)) ?_
          refine good_region rfl ?_
          refine ev_k rfl (k_lit tE61 zA5 rfl rfl (by decide) (by decide) rfl rfl rfl ?_)
          refine ev_q rfl (q_assign (by conv => lhs; whnf) ?_)
          refine ev_nil (hK14 _ ?_); clear hK14
          refine good_seq fun K15 hK15 => ?_
          refine good_seq fun K16 hK16 => ?_
          refine good_region rfl ?_
          refine ev_q rfl (q_move (by conv => lhs; whnf) ?_)
          refine ev_q rfl (q_len tEs61 rfl ?_)
          intro n17 hn17
          try simp only [List.length_map] at hn17
          try simp at hn17
          refine ev_q rfl (q_int rfl rfl ?_)
          intro n18 hn18
          replace hn18 := in64 hn18 (by omega) (by omega)
          refine ev_q rfl (q_assign (by conv => lhs; whnf) ?_)
          refine ev_nil (hK16 _ ?_); clear hK16
          refine good_block ?_
          refine good_loop (α := Nat) (fun i => { env := upd (upd (upd ((fun _ => .junk)) 3 (.own 900001 (decL n L).length)) 6 (.own 47 (revT (decL n L) i).length)) 7 (.s (.int .i64 ((i : Int) - 1))), H := upd (upd ((fun _ => none)) 47 (some (.row 5 1 ((revT (decL n L) i).map u8A)))) 900001 (some (.row 5 1 ((decL n L).map u8A))) }) (fun i => i ≤ (decL n L).length) (fun i => i) (decL n L).length ?_ ?_ ?_
          · exact Nat.le_refl _
          · refine Sub.trans (sub_move 6 33 47 rfl rfl rfl (by decide)) ?_
            refine sub_weak ?_ ?_
            · exact weakH_row (rowEq (by rw [eL]; first | done | rfl | exact appG rfl rfl)) (weakH_row (rowEq (by rw [revT_0]; rfl)) (weakH_none _))
            · refine weakE_upd ?e7 ?r7 (weakE_upd ?e6 ?r6 (weakE_upd ?e3 ?r3 (weakE_junk _ _)))
              case e3 => first | rfl | exact fI (by omega) | (first | rfl | exact ownEq (by rw [eL]; first | done | rfl | simp))
              case r3 => intro h hh; simp [refs] at hh; subst hh; rfl
              case e6 => first | rfl | exact fI (by omega) | (first | exact ownEq (by rw [revT_0]; rfl) | (rw [hst]; exact ownEq (by simp)))
              case r6 => intro h hh; simp [refs] at hh; subst hh; rfl
              case e7 => first | rfl | exact fI (by omega) | (exact fI (by rw [eL]; first | omega | (simp; done) | (simp; omega)))
              case r7 => intro h hh; cases hh
          · rintro i hJ
            refine good_seq fun K19 hK19 => ?_
            refine good_seq fun K20 hK20 => ?_
            refine good_region rfl ?_
            refine ev_q rfl (q_move (by conv => lhs; whnf) ?_)
            refine ev_q rfl (q_int rfl rfl ?_)
            intro b21 hb21; cases b21
            · replace hb21 := dF hb21
              obtain rfl : i = 0 := by omega
              refine ev_nil (hK20 _ ?_); clear hK20
              refine good_condF rfl ?_
              refine good_exit ?_
              repeat (first | refine thenQ_exit ?_ | refine blockQ_pass rfl ?_)
              refine blockQ_exit (hK15 _ ?_); clear hK15
              refine good_seq fun K22 hK22 => ?_
              refine good_region rfl ?_
              refine ev_q rfl (q_move (by conv => lhs; whnf) ?_)
              refine ev_q rfl (q_txtO tByS61 tStr9 rfl rfl (by exact u8s_take rfl) ?_)
              intro s23 hs23
              have htx := hs23
              refine ev_q rfl (q_assign (by conv => lhs; whnf) ?_)
              refine ev_nil (hK22 _ ?_); clear hK22
              refine good_ret ?_
              repeat (first | refine thenQ_ret ?_ | refine blockQ_ret ?_)
              refine ret_tmp (st := _) rfl (by conv => lhs; whnf) rfl ?_
              clear hK8 hK19
              first | exact fS dec_0 | (have h0 : n = 0 := (by omega); subst h0; exact fS dec_0) | exact fS (by rw [htx, revT_e, dec_end hI]; exact dec_son rfl)
            · replace hb21 := dT hb21
              have hrl := revT_len (L := (decL n L)) (i := i)
              obtain ⟨q, hq⟩ := getL (xs := (decL n L)) (n := (i : Int) - 1) (by omega) (by omega)
              have hst : revT (decL n L) (i - 1) = revT (decL n L) i ++ [q] := by have e := revT_s (L := (decL n L)) (i := i - 1) (q := q) (by rw [← hq]; congr 1; omega); rw [e, show i - 1 + 1 = i by omega]
              refine ev_nil (hK20 _ ?_); clear hK20
              refine good_condT rfl ?_
              refine good_skip (hK19 _ ?_); clear hK19
              refine good_seq fun K24 hK24 => ?_
              refine good_block ?_
              refine good_region rfl ?_
              refine ev_q rfl (q_move (by conv => lhs; whnf) ?_)
              refine ev_q rfl (q_move (by conv => lhs; whnf) ?_)
              refine ev_q rfl (q_move (by conv => lhs; whnf) ?_)
              refine ev_q rfl (q_idxO tE61 rfl rfl rfl (by omega) (by omega) rfl ?_)
              refine ev_q rfl (q_loadE tA5 rfl rfl (by exact map_get hq) rfl ?_)
              refine ev_k rfl (k_lit tE61 zA5 rfl rfl (by decide) (by decide) rfl rfl rfl ?_)
              refine ev_k rfl (k_app tApp61 rfl rfl (by simp) rfl (.inr rfl) (by first | (simp [maxLen]; done) | (simp [maxLen]; omega)) (by first | (simp; done) | (simp; omega)) ?_)
              refine ev_q rfl (q_assign (by conv => lhs; whnf) ?_)
              refine ev_nil (hK24 _ ?_); clear hK24
              refine good_region rfl ?_
              refine ev_q rfl (q_move (by conv => lhs; whnf) ?_)
              refine ev_q rfl (q_int rfl rfl ?_)
              intro n25 hn25
              replace hn25 := in64 hn25 (by omega) (by omega)
              refine ev_q rfl (q_assign (by conv => lhs; whnf) ?_)
              refine ev_nil ?_
              clear hK8 hK15
              refine ⟨i - 1, ?_, ?_, ?_⟩
              · show _ - 1 ≤ _; omega
              · show i - 1 < i; omega
              · refine sub_weak ?_ ?_
                · exact weakH_row (rowEq (rfl)) (weakH_row (rowEq (appG hst rfl)) (weakH_none _))
                · refine weakE_upd ?e7 ?r7 (weakE_upd ?e6 ?r6 (weakE_upd ?e3 ?r3 (weakE_junk _ _)))
                  case e3 => first | rfl | exact fI (by omega) | (first | rfl | exact ownEq (by rw [eL]; first | done | rfl | simp))
                  case r3 => intro h hh; simp [refs] at hh; subst hh; rfl
                  case e6 => first | rfl | exact fI (by omega) | (first | exact ownEq (by rw [revT_0]; rfl) | (rw [hst]; exact ownEq (by simp)))
                  case r6 => intro h hh; simp [refs] at hh; subst hh; rfl
                  case e7 => first | rfl | exact fI (by omega) | (exact fI (by rw [eL]; first | omega | (simp; done) | (simp; omega)))
                  case r7 => intro h hh; cases hh
        · replace hb13 := dT hb13
          have eL : decL n L = L ++ [45] := if_pos (by omega)
          have hdl := decL_len (n := n) (L := L)
          refine ev_nil (hK12 _ ?_); clear hK12
          refine good_condT rfl ?_
          refine good_region rfl ?_
          refine ev_q rfl (q_move (by conv => lhs; whnf) ?_)
          refine ev_k rfl (k_lit tE61 zA5 rfl rfl (by decide) (by decide) rfl rfl rfl ?_)
          refine ev_k rfl (k_app tApp61 rfl rfl (by simp) rfl (.inl rfl) (by first | (simp [maxLen]; done) | (simp [maxLen]; omega)) (by first | (simp; done) | (simp; omega)) ?_)
          refine ev_q rfl (q_assign (by conv => lhs; whnf) ?_)
          refine ev_nil (hK11 _ ?_); clear hK11
          refine good_seq fun K26 hK26 => ?_
          first | refine good_weak (sub_move 3 27 900001 rfl rfl rfl (by decide)) ?_ | refine good_weak (sub_move 3 32 900001 rfl rfl rfl (by decide)) ?_
          refine good_region rfl ?_
          refine ev_k rfl (k_lit tE61 zA5 rfl rfl (by decide) (by decide) rfl rfl rfl ?_)
          refine ev_q rfl (q_assign (by conv => lhs; whnf) ?_)
          refine ev_nil (hK26 _ ?_); clear hK26
          refine good_seq fun K27 hK27 => ?_
          refine good_seq fun K28 hK28 => ?_
          refine good_region rfl ?_
          refine ev_q rfl (q_move (by conv => lhs; whnf) ?_)
          refine ev_q rfl (q_len tEs61 rfl ?_)
          intro n29 hn29
          try simp only [List.length_map] at hn29
          try simp at hn29
          refine ev_q rfl (q_int rfl rfl ?_)
          intro n30 hn30
          replace hn30 := in64 hn30 (by omega) (by omega)
          refine ev_q rfl (q_assign (by conv => lhs; whnf) ?_)
          refine ev_nil (hK28 _ ?_); clear hK28
          refine good_block ?_
          refine good_loop (α := Nat) (fun i => { env := upd (upd (upd ((fun _ => .junk)) 3 (.own 900001 (decL n L).length)) 6 (.own 47 (revT (decL n L) i).length)) 7 (.s (.int .i64 ((i : Int) - 1))), H := upd (upd ((fun _ => none)) 47 (some (.row 5 1 ((revT (decL n L) i).map u8A)))) 900001 (some (.row 5 1 ((decL n L).map u8A))) }) (fun i => i ≤ (decL n L).length) (fun i => i) (decL n L).length ?_ ?_ ?_
          · exact Nat.le_refl _
          · refine Sub.trans (sub_move 6 33 47 rfl rfl rfl (by decide)) ?_
            refine sub_weak ?_ ?_
            · exact weakH_row (rowEq (by rw [eL]; first | done | rfl | exact appG rfl rfl)) (weakH_row (rowEq (by rw [revT_0]; rfl)) (weakH_none _))
            · refine weakE_upd ?e7 ?r7 (weakE_upd ?e6 ?r6 (weakE_upd ?e3 ?r3 (weakE_junk _ _)))
              case e3 => first | rfl | exact fI (by omega) | (first | rfl | exact ownEq (by rw [eL]; first | done | rfl | simp))
              case r3 => intro h hh; simp [refs] at hh; subst hh; rfl
              case e6 => first | rfl | exact fI (by omega) | (first | exact ownEq (by rw [revT_0]; rfl) | (rw [hst]; exact ownEq (by simp)))
              case r6 => intro h hh; simp [refs] at hh; subst hh; rfl
              case e7 => first | rfl | exact fI (by omega) | (exact fI (by rw [eL]; first | omega | (simp; done) | (simp; omega)))
              case r7 => intro h hh; cases hh
          · rintro i hJ
            refine good_seq fun K31 hK31 => ?_
            refine good_seq fun K32 hK32 => ?_
            refine good_region rfl ?_
            refine ev_q rfl (q_move (by conv => lhs; whnf) ?_)
            refine ev_q rfl (q_int rfl rfl ?_)
            intro b33 hb33; cases b33
            · replace hb33 := dF hb33
              obtain rfl : i = 0 := by omega
              refine ev_nil (hK32 _ ?_); clear hK32
              refine good_condF rfl ?_
              refine good_exit ?_
              repeat (first | refine thenQ_exit ?_ | refine blockQ_pass rfl ?_)
              refine blockQ_exit (hK27 _ ?_); clear hK27
              refine good_seq fun K34 hK34 => ?_
              refine good_region rfl ?_
              refine ev_q rfl (q_move (by conv => lhs; whnf) ?_)
              refine ev_q rfl (q_txtO tByS61 tStr9 rfl rfl (by exact u8s_take rfl) ?_)
              intro s35 hs35
              have htx := hs35
              refine ev_q rfl (q_assign (by conv => lhs; whnf) ?_)
              refine ev_nil (hK34 _ ?_); clear hK34
              refine good_ret ?_
              repeat (first | refine thenQ_ret ?_ | refine blockQ_ret ?_)
              refine ret_tmp (st := _) rfl (by conv => lhs; whnf) rfl ?_
              clear hK8 hK31
              first | exact fS dec_0 | (have h0 : n = 0 := (by omega); subst h0; exact fS dec_0) | exact fS (by rw [htx, revT_e, dec_end hI]; exact dec_son rfl)
            · replace hb33 := dT hb33
              have hrl := revT_len (L := (decL n L)) (i := i)
              obtain ⟨q, hq⟩ := getL (xs := (decL n L)) (n := (i : Int) - 1) (by omega) (by omega)
              have hst : revT (decL n L) (i - 1) = revT (decL n L) i ++ [q] := by have e := revT_s (L := (decL n L)) (i := i - 1) (q := q) (by rw [← hq]; congr 1; omega); rw [e, show i - 1 + 1 = i by omega]
              refine ev_nil (hK32 _ ?_); clear hK32
              refine good_condT rfl ?_
              refine good_skip (hK31 _ ?_); clear hK31
              refine good_seq fun K36 hK36 => ?_
              refine good_block ?_
              refine good_region rfl ?_
              refine ev_q rfl (q_move (by conv => lhs; whnf) ?_)
              refine ev_q rfl (q_move (by conv => lhs; whnf) ?_)
              refine ev_q rfl (q_move (by conv => lhs; whnf) ?_)
              refine ev_q rfl (q_idxO tE61 rfl rfl rfl (by omega) (by omega) rfl ?_)
              refine ev_q rfl (q_loadE tA5 rfl rfl (by exact map_get hq) rfl ?_)
              refine ev_k rfl (k_lit tE61 zA5 rfl rfl (by decide) (by decide) rfl rfl rfl ?_)
              refine ev_k rfl (k_app tApp61 rfl rfl (by simp) rfl (.inr rfl) (by first | (simp [maxLen]; done) | (simp [maxLen]; omega)) (by first | (simp; done) | (simp; omega)) ?_)
              refine ev_q rfl (q_assign (by conv => lhs; whnf) ?_)
              refine ev_nil (hK36 _ ?_); clear hK36
              refine good_region rfl ?_
              refine ev_q rfl (q_move (by conv => lhs; whnf) ?_)
              refine ev_q rfl (q_int rfl rfl ?_)
              intro n37 hn37
              replace hn37 := in64 hn37 (by omega) (by omega)
              refine ev_q rfl (q_assign (by conv => lhs; whnf) ?_)
              refine ev_nil ?_
              clear hK8 hK27
              refine ⟨i - 1, ?_, ?_, ?_⟩
              · show _ - 1 ≤ _; omega
              · show i - 1 < i; omega
              · refine sub_weak ?_ ?_
                · exact weakH_row (rowEq (rfl)) (weakH_row (rowEq (appG hst rfl)) (weakH_none _))
                · refine weakE_upd ?e7 ?r7 (weakE_upd ?e6 ?r6 (weakE_upd ?e3 ?r3 (weakE_junk _ _)))
                  case e3 => first | rfl | exact fI (by omega) | (first | rfl | exact ownEq (by rw [eL]; first | done | rfl | simp))
                  case r3 => intro h hh; simp [refs] at hh; subst hh; rfl
                  case e6 => first | rfl | exact fI (by omega) | (first | exact ownEq (by rw [revT_0]; rfl) | (rw [hst]; exact ownEq (by simp)))
                  case r6 => intro h hh; simp [refs] at hh; subst hh; rfl
                  case e7 => first | rfl | exact fI (by omega) | (exact fI (by rw [eL]; first | omega | (simp; done) | (simp; omega)))
                  case r7 => intro h hh; cases hh
      · replace hb10 := neT hb10
        have hlen := decI_len hI hr
        have hmr : -9223372036854775808 ≤ m ∧ m ≤ 9223372036854775807 := by have h1 := hI.1; have h2 := hI.2.1; omega
        refine ev_nil (hK9 _ ?_); clear hK9
        refine good_condT rfl ?_
        refine good_skip (hK8 _ ?_); clear hK8
        refine good_seq fun K38 hK38 => ?_
        refine good_block ?_
        refine good_seq fun K39 hK39 => ?_
        refine good_region rfl ?_
        refine ev_q rfl (q_move (by conv => lhs; whnf) ?_)
        refine ev_q rfl (q_int rfl rfl ⟨by omega, ?_⟩)
        intro n40 hn40
        have hb17 := tmodB hn40
        have h17 := hn40
        refine ev_q rfl (q_assign (by conv => lhs; whnf) ?_)
        refine ev_nil (hK39 _ ?_); clear hK39
        refine good_seq fun K41 hK41 => ?_
        refine good_seq fun K42 hK42 => ?_
        refine good_region rfl ?_
        refine ev_q rfl (q_move (by conv => lhs; whnf) ?_)
        refine ev_q rfl (q_int rfl rfl ?_)
        intro b43 hb43; cases b43
        · replace hb43 := dF hb43
          refine ev_nil (hK42 _ ?_); clear hK42
          refine good_condF rfl ?_
          refine good_skip (hK41 _ ?_); clear hK41
          refine good_region rfl ?_
          refine ev_q rfl (q_move (by conv => lhs; whnf) ?_)
          refine ev_q rfl (q_move (by conv => lhs; whnf) ?_)
          refine ev_q rfl (q_int rfl rfl ?_)
          intro n44 hn44
          replace hn44 := in64 hn44 (by omega) (by omega)
          refine ev_q rfl (q_conv tK2 tK5 rfl ?_)
          intro n45 hn45
          replace hn45 := u8w hn45 (by omega) (by omega)
          have hd25 := absT h17 (b := n45 - 48) (by omega)
          refine ev_k rfl (k_lit tE61 zA5 rfl rfl (by decide) (by decide) rfl rfl rfl ?_)
          refine ev_k rfl (k_app tApp61 rfl rfl (by simp) rfl (.inr rfl) (by first | (simp [maxLen]; done) | (simp [maxLen]; omega)) (by first | (simp; done) | (simp; omega)) ?_)
          refine ev_q rfl (q_assign (by conv => lhs; whnf) ?_)
          refine ev_nil (hK38 _ ?_); clear hK38
          refine good_region rfl ?_
          refine ev_q rfl (q_move (by conv => lhs; whnf) ?_)
          refine ev_q rfl (q_int rfl rfl ⟨by omega, ?_⟩)
          intro n46 hn46
          replace hn46 := quo10 hn46 (by omega) (by omega)
          have hmu := tdivA hn46 (by omega)
          refine ev_q rfl (q_assign (by conv => lhs; whnf) ?_)
          refine ev_nil ?_
          clear hK6
          refine ⟨(n46, L ++ [n45]), ?_, ?_, ?_⟩
          · exact decI_s hI (by omega) hn46 (by omega)
          · exact hmu
          · refine sub_weak ?_ ?_
            · exact weakH_row (rowEq (appG rfl rfl)) (weakH_none _)
            · refine weakE_upd ?e4 ?r4 (weakE_upd ?e3 ?r3 (weakE_upd ?e0 ?r0 (weakE_junk _ _)))
              case e0 => first | rfl | exact fI (by omega) | (simp_all)
              case r0 => intro h hh; cases hh
              case e3 => first | rfl | exact fI (by omega) | (first | rfl | exact ownEq (by simp))
              case r3 => intro h hh; simp [refs] at hh; subst hh; rfl
              case e4 => first | rfl | exact fI (by omega) | (rfl)
              case r4 => intro h hh; cases hh
        · replace hb43 := dT hb43
          refine ev_nil (hK42 _ ?_); clear hK42
          refine good_condT rfl ?_
          refine good_region rfl ?_
          refine ev_q rfl (q_move (by conv => lhs; whnf) ?_)
          refine ev_q rfl (q_neg rfl ?_)
          intro n47 hn47
          replace hn47 := neg64 hn47 (by omega) (by omega)
          refine ev_q rfl (q_assign (by conv => lhs; whnf) ?_)
          refine ev_nil (hK41 _ ?_); clear hK41
          refine good_region rfl ?_
          refine ev_q rfl (q_move (by conv => lhs; whnf) ?_)
          refine ev_q rfl (q_move (by conv => lhs; whnf) ?_)
          refine ev_q rfl (q_int rfl rfl ?_)
          intro n48 hn48
          replace hn48 := in64 hn48 (by omega) (by omega)
          refine ev_q rfl (q_conv tK2 tK5 rfl ?_)
          intro n49 hn49
          replace hn49 := u8w hn49 (by omega) (by omega)
          have hd25 := absT h17 (b := n49 - 48) (by omega)
          refine ev_k rfl (k_lit tE61 zA5 rfl rfl (by decide) (by decide) rfl rfl rfl ?_)
          refine ev_k rfl (k_app tApp61 rfl rfl (by simp) rfl (.inr rfl) (by first | (simp [maxLen]; done) | (simp [maxLen]; omega)) (by first | (simp; done) | (simp; omega)) ?_)
          refine ev_q rfl (q_assign (by conv => lhs; whnf) ?_)
          refine ev_nil (hK38 _ ?_); clear hK38
          refine good_region rfl ?_
          refine ev_q rfl (q_move (by conv => lhs; whnf) ?_)
          refine ev_q rfl (q_int rfl rfl ⟨by omega, ?_⟩)
          intro n50 hn50
          replace hn50 := quo10 hn50 (by omega) (by omega)
          have hmu := tdivA hn50 (by omega)
          refine ev_q rfl (q_assign (by conv => lhs; whnf) ?_)
          refine ev_nil ?_
          clear hK6
          refine ⟨(n50, L ++ [n49]), ?_, ?_, ?_⟩
          · exact decI_s hI (by omega) hn50 (by omega)
          · exact hmu
          · refine sub_weak ?_ ?_
            · exact weakH_row (rowEq (appG rfl rfl)) (weakH_none _)
            · refine weakE_upd ?e4 ?r4 (weakE_upd ?e3 ?r3 (weakE_upd ?e0 ?r0 (weakE_junk _ _)))
              case e0 => first | rfl | exact fI (by omega) | (simp_all)
              case r0 => intro h hh; cases hh
              case e3 => first | rfl | exact fI (by omega) | (first | rfl | exact ownEq (by simp))
              case r3 => intro h hh; simp [refs] at hh; subst hh; rfl
              case e4 => first | rfl | exact fI (by omega) | (rfl)
              case r4 => intro h hh; cases hh
  · replace hb4 := eqT hb4
    refine ev_nil (hK3 _ ?_); clear hK3
    refine good_condT rfl ?_
    refine good_seq fun K51 hK51 => ?_
    refine good_region rfl ?_
    refine ev_q rfl (q_assign (by conv => lhs; whnf) ?_)
    refine ev_nil (hK51 _ ?_); clear hK51
    refine good_ret ?_
    repeat (first | refine thenQ_ret ?_ | refine blockQ_ret ?_)
    refine ret_tmp (st := _) rfl (by conv => lhs; whnf) rfl ?_
    clear hK2
    first | exact fS dec_0 | (have h0 : n = 0 := (by omega); subst h0; exact fS dec_0) | exact fS (by rw [htx, revT_e, dec_end hI]; exact dec_son rfl)

-- spec.l01List
set_option maxRecDepth 20000 in
set_option maxHeartbeats 2000000 in
theorem D_spec_l01List (xs : List Int) (hx : xs.length ≤ 1000000) (hi : ∀ x ∈ xs, inI x) : Den Tryd.prog 89 [.lst 1 (xs.map ci)] (.s (.string (if xs = [] then tx [45] else tx (ltx xs)))) := by
  refine den_of_good Tryd.func89 (by decide) rfl (Nat.le_of_ble_eq_true rfl) (Nat.le_of_ble_eq_true rfl) ?_
  refine good_seq fun K1 hK1 => ?_
  refine good_region rfl ?_
  refine ev_q rfl (q_assign (by conv => lhs; whnf) ?_)
  refine ev_nil (hK1 _ ?_); clear hK1
  refine good_seq fun K2 hK2 => ?_
  refine good_seq fun K3 hK3 => ?_
  refine good_region rfl ?_
  refine ev_q rfl (q_move (by conv => lhs; whnf) ?_)
  refine ev_q rfl (q_len tEs69 rfl ?_)
  intro n4 hn4
  try simp only [List.length_map] at hn4
  refine ev_q rfl (q_int rfl rfl ?_)
  intro b5 hb5; cases b5
  · replace hb5 := eqF hb5
    have hne : xs ≠ [] := fun e => by have e2 := congrArg List.length e; rw [List.length_nil] at e2; omega
    refine ev_nil (hK3 _ ?_); clear hK3
    refine good_condF rfl ?_
    refine good_skip (hK2 _ ?_); clear hK2
    refine good_seq fun K6 hK6 => ?_
    refine good_region rfl ?_
    refine ev_q rfl (q_assign (by conv => lhs; whnf) ?_)
    refine ev_nil (hK6 _ ?_); clear hK6
    refine good_seq fun K7 hK7 => ?_
    refine good_seq fun K8 hK8 => ?_
    refine good_region rfl ?_
    refine ev_q rfl (q_assign (by conv => lhs; whnf) ?_)
    refine ev_nil (hK8 _ ?_); clear hK8
    refine good_block ?_
    refine good_loop (α := Nat) (fun i => { env := upd (upd (upd ((fun _ => .junk)) 0 (.lst 1 (xs.map ci))) 3 (.s (.string (tx (ltx (xs.take i)))))) 4 (.s (.int .i64 i)), H := fun _ => none }) (fun i => i ≤ xs.length) (fun i => xs.length - i) 0 ?_ ?_ ?_
    · show 0 ≤ _; omega
    · refine sub_weak ?_ ?_
      · exact weakH_none _
      · refine weakE_upd ?e4 ?r4 (weakE_upd ?e3 ?r3 (weakE_upd ?e0 ?r0 (weakE_junk _ _)))
        case e0 => first | rfl | exact fI (by omega) | (simp_all)
        case r0 => intro h hh; cases hh
        case e3 => first | rfl | exact fI (by omega) | (first | rfl | exact fS hst | exact fS hst.symm)
        case r3 => intro h hh; cases hh
        case e4 => first | rfl | exact fI (by omega) | (simp_all)
        case r4 => intro h hh; cases hh
    · rintro i hI
      refine good_seq fun K9 hK9 => ?_
      refine good_seq fun K10 hK10 => ?_
      refine good_region rfl ?_
      refine ev_q rfl (q_move (by conv => lhs; whnf) ?_)
      refine ev_q rfl (q_move (by conv => lhs; whnf) ?_)
      refine ev_q rfl (q_len tEs69 rfl ?_)
      intro n11 hn11
      try simp only [List.length_map] at hn11
      refine ev_q rfl (q_int rfl rfl ?_)
      intro b12 hb12; cases b12
      · replace hb12 := dF hb12
        obtain rfl : i = xs.length := by omega
        refine ev_nil (hK10 _ ?_); clear hK10
        refine good_condF rfl ?_
        refine good_exit ?_
        repeat (first | refine thenQ_exit ?_ | refine blockQ_pass rfl ?_)
        refine blockQ_exit (hK7 _ ?_); clear hK7
        refine good_seq fun K13 hK13 => ?_
        refine good_region rfl ?_
        refine ev_q rfl (q_move (by conv => lhs; whnf) ?_)
        refine ev_q rfl (q_assign (by conv => lhs; whnf) ?_)
        refine ev_nil (hK13 _ ?_); clear hK13
        refine good_ret ?_
        repeat (first | refine thenQ_ret ?_ | refine blockQ_ret ?_)
        refine ret_tmp (st := _) rfl (by conv => lhs; whnf) rfl ?_
        clear hK9
        first | exact fS (by rw [if_pos h0]; rfl) | exact fS (by rw [if_neg hne, List.take_length])
      · replace hb12 := dT hb12
        obtain ⟨q, hq⟩ := getL (xs := xs) (n := (i : Int)) (by omega) (by omega)
        replace hq : xs[i]? = some q := hq
        have hl := ltx_len hi (i := i) (by omega)
        have hqI := hi q (List.mem_of_getElem? hq)
        have hds := dec_size hqI.1 hqI.2
        refine ev_nil (hK10 _ ?_); clear hK10
        refine good_condT rfl ?_
        refine good_skip (hK9 _ ?_); clear hK9
        refine good_seq fun K14 hK14 => ?_
        refine good_block ?_
        refine good_seq fun K15 hK15 => ?_
        refine good_seq fun K16 hK16 => ?_
        refine good_region rfl ?_
        refine ev_q rfl (q_move (by conv => lhs; whnf) ?_)
        refine ev_q rfl (q_int rfl rfl ?_)
        intro b17 hb17; cases b17
        · replace hb17 := dF hb17
          refine ev_nil (hK16 _ ?_); clear hK16
          refine good_condF rfl ?_
          refine good_skip (hK15 _ ?_); clear hK15
          refine good_region rfl ?_
          refine ev_q rfl (q_move (by conv => lhs; whnf) ?_)
          refine ev_q rfl (q_move (by conv => lhs; whnf) ?_)
          refine ev_q rfl (q_move (by conv => lhs; whnf) ?_)
          refine ev_q rfl (q_idx tE69 rfl rfl (by exact Int.natCast_nonneg _) (by exact map_get hq) rfl ?_)
          refine ev_q rfl (q_load tA2 rfl ?_)
          refine ev_q rfl (q_call rfl rfl (rfl) (D_spec_l01Dec q hqI) rfl ?_)
          refine ev_q rfl (q_str rfl rfl ⟨by first | omega | (rw [tx_size]; omega), ?_⟩)
          intro s18 hs18
          first | have hst := ltx_s2 hq (by omega) h17 hs18 | have hst := ltx_s1 hq (by omega) hs18
          refine ev_q rfl (q_assign (by conv => lhs; whnf) ?_)
          refine ev_nil (hK14 _ ?_); clear hK14
          refine good_region rfl ?_
          refine ev_q rfl (q_move (by conv => lhs; whnf) ?_)
          refine ev_q rfl (q_int rfl rfl ?_)
          intro n19 hn19
          replace hn19 := in64 hn19 (by omega) (by omega)
          refine ev_q rfl (q_assign (by conv => lhs; whnf) ?_)
          refine ev_nil ?_
          clear hK7
          refine ⟨i + 1, ?_, ?_, ?_⟩
          · show _ ≤ _; omega
          · first | omega | (simp only []; omega) | (dsimp only; omega)
          · refine sub_weak ?_ ?_
            · exact weakH_none _
            · refine weakE_upd ?e4 ?r4 (weakE_upd ?e3 ?r3 (weakE_upd ?e0 ?r0 (weakE_junk _ _)))
              case e0 => first | rfl | exact fI (by omega) | (simp_all)
              case r0 => intro h hh; cases hh
              case e3 => first | rfl | exact fI (by omega) | (first | rfl | exact fS hst | exact fS hst.symm)
              case r3 => intro h hh; cases hh
              case e4 => first | rfl | exact fI (by omega) | (simp_all)
              case r4 => intro h hh; cases hh
        · replace hb17 := dT hb17
          refine ev_nil (hK16 _ ?_); clear hK16
          refine good_condT rfl ?_
          refine good_region rfl ?_
          refine ev_q rfl (q_move (by conv => lhs; whnf) ?_)
          refine ev_q rfl (q_str rfl rfl ⟨by rw [tx_size, show (⟨#[44]⟩ : ByteArray).size = 1 from rfl]; omega, ?_⟩)
          intro s20 hs20
          have h17 := hs20
          have hz17 := sz_app hs20
          rw [tx_size, show (⟨#[44]⟩ : ByteArray).size = 1 from rfl] at hz17
          refine ev_q rfl (q_assign (by conv => lhs; whnf) ?_)
          refine ev_nil (hK15 _ ?_); clear hK15
          refine good_region rfl ?_
          refine ev_q rfl (q_move (by conv => lhs; whnf) ?_)
          refine ev_q rfl (q_move (by conv => lhs; whnf) ?_)
          refine ev_q rfl (q_move (by conv => lhs; whnf) ?_)
          refine ev_q rfl (q_idx tE69 rfl rfl (by exact Int.natCast_nonneg _) (by exact map_get hq) rfl ?_)
          refine ev_q rfl (q_load tA2 rfl ?_)
          refine ev_q rfl (q_call rfl rfl (rfl) (D_spec_l01Dec q hqI) rfl ?_)
          refine ev_q rfl (q_str rfl rfl ⟨by first | omega | (rw [tx_size]; omega), ?_⟩)
          intro s21 hs21
          first | have hst := ltx_s2 hq (by omega) h17 hs21 | have hst := ltx_s1 hq (by omega) hs21
          refine ev_q rfl (q_assign (by conv => lhs; whnf) ?_)
          refine ev_nil (hK14 _ ?_); clear hK14
          refine good_region rfl ?_
          refine ev_q rfl (q_move (by conv => lhs; whnf) ?_)
          refine ev_q rfl (q_int rfl rfl ?_)
          intro n22 hn22
          replace hn22 := in64 hn22 (by omega) (by omega)
          refine ev_q rfl (q_assign (by conv => lhs; whnf) ?_)
          refine ev_nil ?_
          clear hK7
          refine ⟨i + 1, ?_, ?_, ?_⟩
          · show _ ≤ _; omega
          · first | omega | (simp only []; omega) | (dsimp only; omega)
          · refine sub_weak ?_ ?_
            · exact weakH_none _
            · refine weakE_upd ?e4 ?r4 (weakE_upd ?e3 ?r3 (weakE_upd ?e0 ?r0 (weakE_junk _ _)))
              case e0 => first | rfl | exact fI (by omega) | (simp_all)
              case r0 => intro h hh; cases hh
              case e3 => first | rfl | exact fI (by omega) | (first | rfl | exact fS hst | exact fS hst.symm)
              case r3 => intro h hh; cases hh
              case e4 => first | rfl | exact fI (by omega) | (simp_all)
              case r4 => intro h hh; cases hh
  · replace hb5 := eqT hb5
    have h0 : xs = [] := List.eq_nil_of_length_eq_zero (by omega)
    refine ev_nil (hK3 _ ?_); clear hK3
    refine good_condT rfl ?_
    refine good_seq fun K23 hK23 => ?_
    refine good_region rfl ?_
    refine ev_q rfl (q_assign (by conv => lhs; whnf) ?_)
    refine ev_nil (hK23 _ ?_); clear hK23
    refine good_ret ?_
    repeat (first | refine thenQ_ret ?_ | refine blockQ_ret ?_)
    refine ret_tmp (st := _) rfl (by conv => lhs; whnf) rfl ?_
    clear hK2
    first | exact fS (by rw [if_pos h0]; rfl) | exact fS (by rw [if_neg hne, List.take_length])

-- spec.l01Digit
set_option maxRecDepth 20000 in
set_option maxHeartbeats 2000000 in
theorem D_spec_l01Digit (u : UInt8)  : Den Tryd.prog 120 [.s (.int .u8 u.toNat)] (.s (.bool (digit u))) := by
  refine den_of_good Tryd.func120 (by decide) rfl (Nat.le_of_ble_eq_true rfl) (Nat.le_of_ble_eq_true rfl) ?_
  refine good_seq fun K1 hK1 => ?_
  refine good_region rfl ?_
  refine ev_q rfl (q_assign (by conv => lhs; whnf) ?_)
  refine ev_nil (hK1 _ ?_); clear hK1
  refine good_seq fun K2 hK2 => ?_
  refine good_region rfl ?_
  refine ev_q rfl (q_move (by conv => lhs; whnf) ?_)
  refine ev_q rfl (q_int rfl rfl ?_)
  intro b3 hb3; cases b3
  · replace hb3 := dF hb3
    refine ev_q rfl (q_move (by conv => lhs; whnf) ?_)
    refine ev_skip rfl ?_
    refine ev_skip rfl ?_
    refine ev_q rfl (q_pickF rfl (by conv => lhs; whnf) ?_)
    refine ev_q rfl (q_assign (by conv => lhs; whnf) ?_)
    refine ev_nil (hK2 _ ?_); clear hK2
    refine good_ret ?_
    repeat (first | refine thenQ_ret ?_ | refine blockQ_ret ?_)
    refine ret_tmp (st := _) rfl (by conv => lhs; whnf) rfl ?_
    exact fB (by simp only [digit]; grind)
  · replace hb3 := dT hb3
    refine ev_q rfl (q_move (by conv => lhs; whnf) ?_)
    refine ev_q rfl (q_move (by conv => lhs; whnf) ?_)
    refine ev_q rfl (q_int rfl rfl ?_)
    intro b4 hb4; cases b4
    · replace hb4 := dF hb4
      refine ev_q rfl (q_pickT rfl (by conv => lhs; whnf) ?_)
      refine ev_q rfl (q_assign (by conv => lhs; whnf) ?_)
      refine ev_nil (hK2 _ ?_); clear hK2
      refine good_ret ?_
      repeat (first | refine thenQ_ret ?_ | refine blockQ_ret ?_)
      refine ret_tmp (st := _) rfl (by conv => lhs; whnf) rfl ?_
      exact fB (by simp only [digit]; grind)
    · replace hb4 := dT hb4
      refine ev_q rfl (q_pickT rfl (by conv => lhs; whnf) ?_)
      refine ev_q rfl (q_assign (by conv => lhs; whnf) ?_)
      refine ev_nil (hK2 _ ?_); clear hK2
      refine good_ret ?_
      repeat (first | refine thenQ_ret ?_ | refine blockQ_ret ?_)
      refine ret_tmp (st := _) rfl (by conv => lhs; whnf) rfl ?_
      exact fB (by simp only [digit]; grind)

theorem D_parse (s : ByteArray) (v : Int) (hs : s.size ≤ 1048576) (hp : Lib.parseIntB 64 s.data.toList = .ok v) : Den Tryd.prog 85 [.s (.string s), .s (.int .i64 10), .s (.int .i64 64)] (.tup [.s (.int .i64 v), .s .nilIface]) :=
  den_parse (te := _) ⟨_, Tryd.func85, rfl, rfl⟩ s v (fun w => Tryd.strconv_ParseInt_10_at64_ok s (by omega) v hp w)
theorem D_parseN (s : ByteArray) (hs : s.size ≤ 1048576) (hno : ∀ v, Lib.parseIntB 64 s.data.toList ≠ .ok v) : DenR Tryd.prog 85 [.s (.string s), .s (.int .i64 10), .s (.int .i64 64)] (τ := Int × Nat) (fun _ => True) (fun x => .tup [.s (.int .i64 x.1), .s (.iface 144 (.pointer (some ⟨x.2, 0, none⟩)))]) :=
  denR_parse ⟨_, Tryd.func85, rfl, rfl⟩ s (by kernel_rfl) (by kernel_rfl) hno
    (fun h ev w hv hev => (Tryd.strconv_ParseInt_10_at64_syntax s (by omega) h ev w hv hev).mono fun e w' ⟨N, he, _, _, hb⟩ => ⟨_, N, he, hb⟩)
    (fun h ev w hv hev => (Tryd.strconv_ParseInt_10_at64_range s (by omega) h ev w hv hev).mono fun e w' ⟨N, he, _, _, hb⟩ => ⟨_, N, he, hb⟩)
theorem D_trim45 (s : ByteArray) : Den Tryd.prog 86 [.s (.string s), .s (.string ⟨#[45]⟩)] (.s (.string (tx (Lib.trimPrefix s.data.toList [45])))) :=
  den_trim ⟨_, Tryd.func86, rfl, rfl⟩ (fun s p w => Tryd.strings_TrimPrefix s p w) s ⟨#[45]⟩
theorem D_split (c : UInt8) (k : Nat) (s : ByteArray) (hs : s.size ≤ 1048576) (hk : 1 ≤ k) (hk2 : k ≤ 1000000) : Den Tryd.prog 73 [.s (.string s), .s (.string ⟨#[c]⟩), .s (.int .i64 (k : Int))] (.lst 1 ((splN c k s).map stA)) :=
  den_splitN (ty := _) ⟨_, Tryd.func73, rfl, rfl⟩ (by kernel_rfl) (fun s sep n m w h1 h2 h3 h4 h5 => Tryd.strings_SplitN s sep n m w h1 h2 h3 h4 h5) s ⟨#[c]⟩ k hs (by show 1 ≤ 1; decide) hk hk2

-- impl.ReadDecimal
set_option maxRecDepth 20000 in
set_option maxHeartbeats 2000000 in
theorem D_impl_ReadDecimal_ok (s : ByteArray) (v : Int) (hs : s.size ≤ 1048576) (hp : Lib.parseIntB 64 s.data.toList = .ok v) : Den Tryd.prog 47 [.s (.string s)] (.tup [.s (.int .i64 (rdN s)), .s (.bool (decide (rdB s)))]) := by
  have hv := parse_in hp
  refine den_of_good Tryd.func47 (by decide) rfl (Nat.le_of_ble_eq_true rfl) (Nat.le_of_ble_eq_true rfl) ?_
  refine good_seq fun K1 hK1 => ?_
  refine good_region rfl ?_
  refine ev_q rfl (q_assign (by conv => lhs; whnf) ?_)
  refine ev_q rfl (q_assign (by conv => lhs; whnf) ?_)
  refine ev_nil (hK1 _ ?_); clear hK1
  refine good_seq fun K2 hK2 => ?_
  refine good_region rfl ?_
  refine ev_q rfl (q_move (by conv => lhs; whnf) ?_)
  refine ev_q rfl (q_call rfl rfl (rfl) (D_parse s v hs hp) rfl ?_)
  refine ev_q rfl (q_move (by conv => lhs; whnf) ?_)
  refine ev_q rfl (q_extractI rfl rfl ?_)
  intro n3 hn3
  have h9 := hn3
  refine ev_q rfl (q_extract rfl rfl ?_)
  refine ev_q rfl (q_assign (by conv => lhs; whnf) ?_)
  refine ev_q rfl (q_assign (by conv => lhs; whnf) ?_)
  refine ev_nil (hK2 _ ?_); clear hK2
  refine good_seq fun K4 hK4 => ?_
  refine good_seq fun K5 hK5 => ?_
  refine good_region rfl ?_
  refine ev_q rfl (q_move (by conv => lhs; whnf) ?_)
  refine ev_q rfl (q_neN0 tIf115 rfl ?_)
  refine ev_q rfl (q_move (by conv => lhs; whnf) ?_)
  refine ev_q rfl (q_move (by conv => lhs; whnf) ?_)
  refine ev_q rfl (q_call rfl rfl (rfl) (D_trim45 s) rfl ?_)
  refine ev_q rfl (q_lenS tStr9 rfl ?_)
  intro n6 hn6
  refine ev_q rfl (q_int rfl rfl ?_)
  intro b7 hb7; cases b7
  · replace hb7 := dF hb7
    have h18 : (tx (Lib.trimPrefix s.data.toList [45])).size ≤ 18 := by omega
    refine ev_q rfl (q_pickF rfl (by conv => lhs; whnf) ?_)
    refine ev_q rfl (q_move (by conv => lhs; whnf) ?_)
    refine ev_q rfl (q_move (by conv => lhs; whnf) ?_)
    refine ev_q rfl (q_call rfl rfl (rfl) (D_impl_Decimal n3 (by rw [h9]; exact hv)) rfl ?_)
    refine ev_q rfl (q_move (by conv => lhs; whnf) ?_)
    refine ev_q rfl (q_str rfl rfl ?_)
    intro b8 hb8; cases b8
    · replace hb8 := snF hb8
      have hy := rd_c3 (s := s) (v := v) (by rw [← h9]; exact hb8) h18
      refine ev_q rfl (q_pickF rfl (by conv => lhs; whnf) ?_)
      refine ev_nil (hK5 _ ?_); clear hK5
      refine good_condF rfl ?_
      refine good_skip (hK4 _ ?_); clear hK4
      refine good_seq fun K9 hK9 => ?_
      refine good_region rfl ?_
      refine ev_q rfl (q_move (by conv => lhs; whnf) ?_)
      refine ev_q rfl (q_assign (by conv => lhs; whnf) ?_)
      refine ev_q rfl (q_assign (by conv => lhs; whnf) ?_)
      refine ev_nil (hK9 _ ?_); clear hK9
      refine good_ret ?_
      repeat (first | refine thenQ_ret ?_ | refine blockQ_ret ?_)
      refine ret_many rfl ?_
      refine res_tmp (by conv => lhs; whnf) rfl ?_
      refine res_tmp (by conv => lhs; whnf) rfl ?_
      refine res_nil ?_
      first | exact fTup1 (fI (rdN_no hc).symm) (fTup1 (fF hc) rfl) | exact fTup1 (fI (h9.trans hy.2.symm)) (fTup1 (fT hy.1) rfl)
    · replace hb8 := snT hb8
      have hc := rd_c2 hp (by rw [← h9]; exact hb8)
      refine ev_q rfl (q_pickF rfl (by conv => lhs; whnf) ?_)
      refine ev_nil (hK5 _ ?_); clear hK5
      refine good_condT rfl ?_
      refine good_seq fun K10 hK10 => ?_
      refine good_region rfl ?_
      refine ev_q rfl (q_assign (by conv => lhs; whnf) ?_)
      refine ev_q rfl (q_assign (by conv => lhs; whnf) ?_)
      refine ev_nil (hK10 _ ?_); clear hK10
      refine good_ret ?_
      repeat (first | refine thenQ_ret ?_ | refine blockQ_ret ?_)
      refine ret_many rfl ?_
      refine res_tmp (by conv => lhs; whnf) rfl ?_
      refine res_tmp (by conv => lhs; whnf) rfl ?_
      refine res_nil ?_
      clear hK4
      first | exact fTup1 (fI (rdN_no hc).symm) (fTup1 (fF hc) rfl) | exact fTup1 (fI (h9.trans hy.2.symm)) (fTup1 (fT hy.1) rfl)
  · replace hb7 := dT hb7
    have hc := rd_c1 hp (by omega)
    refine ev_q rfl (q_pickF rfl (by conv => lhs; whnf) ?_)
    refine ev_q rfl (q_move (by conv => lhs; whnf) ?_)
    refine ev_skip rfl ?_
    refine ev_skip rfl ?_
    refine ev_skip rfl ?_
    refine ev_skip rfl ?_
    refine ev_q rfl (q_pickT rfl (by conv => lhs; whnf) ?_)
    refine ev_nil (hK5 _ ?_); clear hK5
    refine good_condT rfl ?_
    refine good_seq fun K11 hK11 => ?_
    refine good_region rfl ?_
    refine ev_q rfl (q_assign (by conv => lhs; whnf) ?_)
    refine ev_q rfl (q_assign (by conv => lhs; whnf) ?_)
    refine ev_nil (hK11 _ ?_); clear hK11
    refine good_ret ?_
    repeat (first | refine thenQ_ret ?_ | refine blockQ_ret ?_)
    refine ret_many rfl ?_
    refine res_tmp (by conv => lhs; whnf) rfl ?_
    refine res_tmp (by conv => lhs; whnf) rfl ?_
    refine res_nil ?_
    clear hK4
    first | exact fTup1 (fI (rdN_no hc).symm) (fTup1 (fF hc) rfl) | exact fTup1 (fI (h9.trans hy.2.symm)) (fTup1 (fT hy.1) rfl)

-- impl.ReadDecimal
set_option maxRecDepth 20000 in
set_option maxHeartbeats 2000000 in
theorem D_impl_ReadDecimal_no (s : ByteArray) (hs : s.size ≤ 1048576) (hno : ∀ v, Lib.parseIntB 64 s.data.toList ≠ .ok v) : Den Tryd.prog 47 [.s (.string s)] (.tup [.s (.int .i64 (rdN s)), .s (.bool (decide (rdB s)))]) := by
  have hc := rd_c0 hno
  refine den_of_good Tryd.func47 (by decide) rfl (Nat.le_of_ble_eq_true rfl) (Nat.le_of_ble_eq_true rfl) ?_
  refine good_seq fun K1 hK1 => ?_
  refine good_region rfl ?_
  refine ev_q rfl (q_assign (by conv => lhs; whnf) ?_)
  refine ev_q rfl (q_assign (by conv => lhs; whnf) ?_)
  refine ev_nil (hK1 _ ?_); clear hK1
  refine good_seq fun K2 hK2 => ?_
  refine good_region rfl ?_
  refine ev_q rfl (q_move (by conv => lhs; whnf) ?_)
  refine ev_k rfl (k_callR [] (D_parseN s hs hno) rfl (rfl) (rfl) trivial rfl (by rintro ⟨n3, e3⟩ hx3_0; exact ⟨trivial, rfl⟩) rfl rfl ?_)
  rintro ⟨n3, e3⟩ hx3_0
  refine ev_q rfl (q_move (by conv => lhs; whnf) ?_)
  refine ev_q rfl (q_extractI rfl rfl ?_)
  intro n4 hn4
  refine ev_q rfl (q_extract rfl rfl ?_)
  refine ev_q rfl (q_assign (by conv => lhs; whnf) ?_)
  refine ev_q rfl (q_assign (by conv => lhs; whnf) ?_)
  refine ev_nil (hK2 _ ?_); clear hK2
  refine good_seq fun K5 hK5 => ?_
  refine good_seq fun K6 hK6 => ?_
  refine good_region rfl ?_
  refine ev_q rfl (q_move (by conv => lhs; whnf) ?_)
  refine ev_q rfl (q_neN tIf115 rfl ?_)
  refine ev_q rfl (q_move (by conv => lhs; whnf) ?_)
  refine ev_skip rfl ?_
  refine ev_skip rfl ?_
  refine ev_skip rfl ?_
  refine ev_skip rfl ?_
  refine ev_q rfl (q_pickT rfl (by conv => lhs; whnf) ?_)
  refine ev_q rfl (q_move (by conv => lhs; whnf) ?_)
  refine ev_skip rfl ?_
  refine ev_skip rfl ?_
  refine ev_skip rfl ?_
  refine ev_skip rfl ?_
  refine ev_q rfl (q_pickT rfl (by conv => lhs; whnf) ?_)
  refine ev_nil (hK6 _ ?_); clear hK6
  refine good_condT rfl ?_
  refine good_seq fun K7 hK7 => ?_
  refine good_region rfl ?_
  refine ev_q rfl (q_assign (by conv => lhs; whnf) ?_)
  refine ev_q rfl (q_assign (by conv => lhs; whnf) ?_)
  refine ev_nil (hK7 _ ?_); clear hK7
  refine good_ret ?_
  repeat (first | refine thenQ_ret ?_ | refine blockQ_ret ?_)
  refine ret_many rfl ?_
  refine res_tmp (by conv => lhs; whnf) rfl ?_
  refine res_tmp (by conv => lhs; whnf) rfl ?_
  refine res_nil ?_
  clear hK5
  exact fTup1 (fI (rdN_no hc).symm) (fTup1 (fF hc) rfl)

theorem D_impl_ReadDecimal (s : ByteArray) (hs : s.size ≤ 1048576) : Den Tryd.prog 47 [.s (.string s)] (.tup [.s (.int .i64 (rdN s)), .s (.bool (decide (rdB s)))]) := by
  cases hp : Lib.parseIntB 64 s.data.toList with
  | ok v => exact D_impl_ReadDecimal_ok s v hs hp
  | «syntax» => exact D_impl_ReadDecimal_no s hs (fun v h => by rw [hp] at h; cases h)
  | range => exact D_impl_ReadDecimal_no s hs (fun v h => by rw [hp] at h; cases h)

-- impl.ReadList
set_option maxRecDepth 20000 in
set_option maxHeartbeats 2000000 in
theorem D_impl_ReadList_X (s : ByteArray) (hs : s.size ≤ 1048576) : DenX Tryd.prog 45 [] [.s (.string s)] [(900003, .row 2 1 ((rlL s).map ci))] (.tup [.own 900003 (rlL s).length, .s (.bool (decide (rlB s)))]) := by
  have hsl := splN_le (c := 44) (k := 65) (s := s) (by omega)
  refine denX_of_good Tryd.func45 (by decide) rfl (Nat.le_of_ble_eq_true rfl) (Nat.le_of_ble_eq_true rfl) rfl ?_
  refine good_seq fun K1 hK1 => ?_
  refine good_region rfl ?_
  refine ev_q rfl (q_assign (by conv => lhs; whnf) ?_)
  refine ev_q rfl (q_assign (by conv => lhs; whnf) ?_)
  refine ev_nil (hK1 _ ?_); clear hK1
  refine good_seq fun K2 hK2 => ?_
  refine good_seq fun K3 hK3 => ?_
  refine good_region rfl ?_
  refine ev_q rfl (q_move (by conv => lhs; whnf) ?_)
  refine ev_q rfl (q_str rfl rfl ?_)
  intro b4 hb4; cases b4
  · replace hb4 := seF hb4
    have hnd : ¬ s = tx [45] := hb4
    refine ev_nil (hK3 _ ?_); clear hK3
    refine good_condF rfl ?_
    refine good_skip (hK2 _ ?_); clear hK2
    refine good_seq fun K5 hK5 => ?_
    refine good_region rfl ?_
    refine ev_q rfl (q_assign (by conv => lhs; whnf) ?_)
    refine ev_nil (hK5 _ ?_); clear hK5
    refine good_seq fun K6 hK6 => ?_
    refine good_seq fun K7 hK7 => ?_
    refine good_region rfl ?_
    refine ev_q rfl (q_move (by conv => lhs; whnf) ?_)
    refine ev_q rfl (q_call rfl rfl (rfl) (D_split 44 65 s hs (by decide) (by decide)) rfl ?_)
    refine ev_q rfl (q_len tEs86 rfl ?_)
    intro n8 hn8
    try simp only [List.length_map] at hn8
    refine ev_q rfl (q_move (by conv => lhs; whnf) ?_)
    refine ev_nil (hK7 _ ?_); clear hK7
    refine good_block ?_
    refine good_loop (α := Nat) (fun i => { env := upd (upd (upd (upd (upd ((fun _ => .junk)) 0 (.s (.string s))) 4 (.own 28 ((splN 44 65 s).take i).length)) 12 (.lst 1 ((splN 44 65 s).map stA))) 13 (.s (.int .i64 (((splN 44 65 s).length : Int))))) 14 (.s (.int .i64 ((i : Int)))), H := upd ((fun _ => none)) 28 (some (.row 2 1 ((((splN 44 65 s).take i).map rdN).map ci))) }) (fun i => i ≤ (splN 44 65 s).length ∧ ∀ j q, j < i → (splN 44 65 s)[j]? = some q → rdB q) (fun i => (splN 44 65 s).length - i) 0 ?_ ?_ ?_
    · exact ⟨Nat.zero_le _, fun j u hj => by omega⟩
    · refine Sub.trans (sub_nil 4 28 2 1 rfl rfl (by decide)) ?_
      refine sub_weak ?_ ?_
      · exact weakH_row (rowEq (rfl)) (weakH_none _)
      · refine weakE_upd ?e14 ?r14 (weakE_upd ?e13 ?r13 (weakE_upd ?e12 ?r12 (weakE_upd ?e4 ?r4 (weakE_upd ?e0 ?r0 (weakE_junk _ _)))))
        case e0 => first | rfl | exact fI (by omega) | (simp_all)
        case r0 => intro h hh; cases hh
        case e4 => first | rfl | exact fI (by omega) | (first | rfl | (rw [hst]; exact ownEq (by simp)))
        case r4 => intro h hh; simp [refs] at hh; subst hh; rfl
        case e12 => first | rfl | exact fI (by omega) | (simp_all)
        case r12 => intro h hh; cases hh
        case e13 => first | rfl | exact fI (by omega) | (simp_all)
        case r13 => intro h hh; cases hh
        case e14 => first | rfl | exact fI (by omega) | (simp_all)
        case r14 => intro h hh; cases hh
    · rintro i ⟨hI, hJ⟩
      refine good_seq fun K9 hK9 => ?_
      refine good_region rfl ?_
      refine ev_q rfl (q_int rfl rfl ?_)
      intro b10 hb10; cases b10
      · replace hb10 := dF hb10
        obtain rfl : i = (splN 44 65 s).length := by omega
        have hall : ∀ p ∈ (splN 44 65 s), rdB p := fun p hp => by obtain ⟨j, hj⟩ := List.getElem?_of_mem hp; exact hJ j p (List.getElem?_eq_some_iff.1 hj).1 hj
        refine ev_nil (hK9 _ ?_); clear hK9
        refine good_seq fun K11 hK11 => ?_
        refine good_condF rfl ?_
        refine good_exit ?_
        repeat (first | refine thenQ_exit ?_ | refine blockQ_pass rfl ?_)
        refine blockQ_exit (hK6 _ ?_); clear hK6
        refine good_seq fun K12 hK12 => ?_
        refine good_seq fun K13 hK13 => ?_
        refine good_region rfl ?_
        refine ev_q rfl (q_move (by conv => lhs; whnf) ?_)
        refine ev_q rfl (q_call rfl rfl (by change ([.lst 1 (List.take (List.take (splN 44 65 s).length (splN 44 65 s)).length (((List.take (splN 44 65 s).length (splN 44 65 s)).map rdN).map ci))] : List AV) = _; simp only [List.take_length]; rw [List.take_of_length_le (by simp)]) (D_impl_ListText ((splN 44 65 s).map rdN) (by rw [List.length_map]; omega)) rfl ?_)
        refine ev_q rfl (q_move (by conv => lhs; whnf) ?_)
        refine ev_q rfl (q_str rfl rfl ?_)
        intro b14 hb14; cases b14
        · replace hb14 := snF hb14
          have hee := rl_y2 hnd ((rlP_iff hall).2 hb14)
          refine ev_nil (hK13 _ ?_); clear hK13
          refine good_condF rfl ?_
          refine good_skip (hK12 _ ?_); clear hK12
          refine good_seq fun K15 hK15 => ?_
          refine good_region rfl ?_
          refine ev_q rfl (q_move (by conv => lhs; whnf) ?_)
          refine ev_q rfl (q_assign (by conv => lhs; whnf) ?_)
          refine ev_q rfl (q_assign (by conv => lhs; whnf) ?_)
          refine ev_nil (hK15 _ ?_); clear hK15
          refine good_weak (sub_move 2 28 900003 rfl rfl rfl (by decide)) ?_
          refine good_ret ?_
          repeat (first | refine thenQ_ret ?_ | refine blockQ_ret ?_)
          refine fx_many rfl ?_
          refine fxs_tmp (by conv => lhs; whnf) ?_
          refine fxs_tmp (by conv => lhs; whnf) ?_
          refine fx_nil ?_
          clear hK11
          obtain ⟨e2, e⟩ := hee
          try rw [List.take_length]
          exact ⟨_, .tup (.cons (conv_eq (by first | rfl | (rw [e]; done) | (rw [e]; rfl) | exact ownEq (by first | omega | simp_all))) (.cons (conv_eq (by first | rfl | exact fT (by first | exact e2 | assumption) | exact fF (by first | exact e2 | assumption) | exact fT' (by first | exact e2 | assumption) | (exfalso; first | omega | grind))) (.nil))), weakH_row (rowEq (by first | (rw [e]; done) | (rw [e]; rfl))) (weakH_none _), refsIn_ok rfl⟩
        · replace hb14 := snT hb14
          have hee := rl_n hnd (fun h => hb14 ((rlP_iff hall).1 h))
          refine ev_nil (hK13 _ ?_); clear hK13
          refine good_condT rfl ?_
          refine good_seq fun K16 hK16 => ?_
          refine good_region rfl ?_
          refine ev_q rfl (q_assign (by conv => lhs; whnf) ?_)
          refine ev_q rfl (q_assign (by conv => lhs; whnf) ?_)
          refine ev_nil (hK16 _ ?_); clear hK16
          refine good_ret ?_
          repeat (first | refine thenQ_ret ?_ | refine blockQ_ret ?_)
          refine fx_many rfl ?_
          refine fxs_tmp (by conv => lhs; whnf) ?_
          refine fxs_tmp (by conv => lhs; whnf) ?_
          refine fx_nil ?_
          clear hK11 hK12
          obtain ⟨e2, e⟩ := hee
          try rw [List.take_length]
          exact ⟨_, .tup (.cons (conv_nil rfl (by decide) (by rw [e]; rfl)) (.cons (conv_eq (by first | rfl | exact fT (by first | exact e2 | assumption) | exact fF (by first | exact e2 | assumption) | exact fT' (by first | exact e2 | assumption) | (exfalso; first | omega | grind))) (.nil))), weakH_row (rowEq (by first | (rw [e]; done) | (rw [e]; rfl))) (weakH_none _), refsIn_ok rfl⟩
      · replace hb10 := dT hb10
        obtain ⟨q, hq⟩ := getL (xs := (splN 44 65 s)) (n := (i : Int)) (by omega) (by omega)
        replace hq : (splN 44 65 s)[i]? = some q := hq
        have hst := takeS hq
        refine ev_nil (hK9 _ ?_); clear hK9
        refine good_seq fun K17 hK17 => ?_
        refine good_condT rfl ?_
        refine good_skip (hK17 _ ?_); clear hK17
        refine good_seq fun K18 hK18 => ?_
        refine good_block ?_
        refine good_seq fun K19 hK19 => ?_
        refine good_region rfl ?_
        refine ev_q rfl (q_idx tE86 rfl rfl (by exact Int.natCast_nonneg _) (by exact map_get hq) rfl ?_)
        refine ev_q rfl (q_load tA9 rfl ?_)
        refine ev_q rfl (q_assign (by conv => lhs; whnf) ?_)
        refine ev_nil (hK19 _ ?_); clear hK19
        refine good_seq fun K20 hK20 => ?_
        refine good_region rfl ?_
        refine ev_q rfl (q_move (by conv => lhs; whnf) ?_)
        refine ev_q rfl (q_call rfl rfl (rfl) (D_impl_ReadDecimal q (by have := splN_sz (List.mem_of_getElem? hq); omega)) rfl ?_)
        refine ev_q rfl (q_move (by conv => lhs; whnf) ?_)
        refine ev_q rfl (q_extractI rfl rfl ?_)
        intro n21 hn21
        have h21 := hn21
        refine ev_q rfl (q_extractB rfl rfl ?_)
        intro b22 hb22; cases b22
        · first | replace hb22 := dF hb22 | skip
          have hee := rl_n hnd (rlP_no1 (List.mem_of_getElem? hq) hb22)
          refine ev_q rfl (q_assign (by conv => lhs; whnf) ?_)
          refine ev_q rfl (q_assign (by conv => lhs; whnf) ?_)
          refine ev_nil (hK20 _ ?_); clear hK20
          refine good_seq fun K23 hK23 => ?_
          refine good_seq fun K24 hK24 => ?_
          refine good_region rfl ?_
          refine ev_q rfl (q_move (by conv => lhs; whnf) ?_)
          refine ev_q rfl (q_not rfl rfl ?_)
          refine ev_nil (hK24 _ ?_); clear hK24
          refine good_condT rfl ?_
          refine good_seq fun K25 hK25 => ?_
          refine good_region rfl ?_
          refine ev_q rfl (q_assign (by conv => lhs; whnf) ?_)
          refine ev_q rfl (q_assign (by conv => lhs; whnf) ?_)
          refine ev_nil (hK25 _ ?_); clear hK25
          refine good_ret ?_
          repeat (first | refine thenQ_ret ?_ | refine blockQ_ret ?_)
          refine fx_many rfl ?_
          refine fxs_tmp (by conv => lhs; whnf) ?_
          refine fxs_tmp (by conv => lhs; whnf) ?_
          refine fx_nil ?_
          clear hK6 hK18 hK23
          obtain ⟨e2, e⟩ := hee
          try rw [List.take_length]
          exact ⟨_, .tup (.cons (conv_nil rfl (by decide) (by rw [e]; rfl)) (.cons (conv_eq (by first | rfl | exact fT (by first | exact e2 | assumption) | exact fF (by first | exact e2 | assumption) | exact fT' (by first | exact e2 | assumption) | (exfalso; first | omega | grind))) (.nil))), weakH_row (rowEq (by first | (rw [e]; done) | (rw [e]; rfl))) (weakH_none _), refsIn_ok rfl⟩
        · first | replace hb22 := dT hb22 | skip
          have hqb : rdB q := hb22
          refine ev_q rfl (q_assign (by conv => lhs; whnf) ?_)
          refine ev_q rfl (q_assign (by conv => lhs; whnf) ?_)
          refine ev_nil (hK20 _ ?_); clear hK20
          refine good_seq fun K26 hK26 => ?_
          refine good_seq fun K27 hK27 => ?_
          refine good_region rfl ?_
          refine ev_q rfl (q_move (by conv => lhs; whnf) ?_)
          refine ev_q rfl (q_not rfl rfl ?_)
          refine ev_nil (hK27 _ ?_); clear hK27
          refine good_condF rfl ?_
          refine good_skip (hK26 _ ?_); clear hK26
          refine good_region rfl ?_
          refine ev_q rfl (q_move (by conv => lhs; whnf) ?_)
          refine ev_q rfl (q_move (by conv => lhs; whnf) ?_)
          refine ev_k rfl (k_lit tE69 zA2 rfl rfl (by decide) (by decide) rfl rfl rfl ?_)
          refine ev_k rfl (k_app tApp69 rfl rfl (by simp) rfl (.inr rfl) (by first | (simp [maxLen]; done) | (simp [maxLen]; omega)) (by first | (simp; done) | (simp; omega)) ?_)
          refine ev_q rfl (q_assign (by conv => lhs; whnf) ?_)
          refine ev_nil (hK18 _ ?_); clear hK18
          refine good_region rfl ?_
          refine ev_q rfl (q_int rfl rfl ?_)
          intro n28 hn28
          replace hn28 := in64 hn28 (by omega) (by omega)
          refine ev_q rfl (q_move (by conv => lhs; whnf) ?_)
          refine ev_nil ?_
          clear hK6
          refine ⟨i + 1, ?_, ?_, ?_⟩
          · exact ⟨by omega, all_extI (Q := fun _ (q : ByteArray) => rdB q) hJ hq hqb⟩
          · first | omega | (simp only []; omega) | (dsimp only; omega)
          · refine sub_weak ?_ ?_
            · exact weakH_row (rowEq (appG (p := rdN q) (by rw [hst, List.map_append]; rfl) (fI h21))) (weakH_none _)
            · refine weakE_upd ?e14 ?r14 (weakE_upd ?e13 ?r13 (weakE_upd ?e12 ?r12 (weakE_upd ?e4 ?r4 (weakE_upd ?e0 ?r0 (weakE_junk _ _)))))
              case e0 => first | rfl | exact fI (by omega) | (simp_all)
              case r0 => intro h hh; cases hh
              case e4 => first | rfl | exact fI (by omega) | (first | rfl | (rw [hst]; exact ownEq (by simp)))
              case r4 => intro h hh; simp [refs] at hh; subst hh; rfl
              case e12 => first | rfl | exact fI (by omega) | (simp_all)
              case r12 => intro h hh; cases hh
              case e13 => first | rfl | exact fI (by omega) | (simp_all)
              case r13 => intro h hh; cases hh
              case e14 => first | rfl | exact fI (by omega) | (simp_all)
              case r14 => intro h hh; cases hh
  · replace hb4 := seT hb4
    have hee := rl_d hb4
    refine ev_nil (hK3 _ ?_); clear hK3
    refine good_condT rfl ?_
    refine good_seq fun K29 hK29 => ?_
    refine good_region rfl ?_
    refine ev_q rfl (q_assign (by conv => lhs; whnf) ?_)
    refine ev_q rfl (q_assign (by conv => lhs; whnf) ?_)
    refine ev_nil (hK29 _ ?_); clear hK29
    refine good_ret ?_
    repeat (first | refine thenQ_ret ?_ | refine blockQ_ret ?_)
    refine fx_many rfl ?_
    refine fxs_tmp (by conv => lhs; whnf) ?_
    refine fxs_tmp (by conv => lhs; whnf) ?_
    refine fx_nil ?_
    clear hK2
    obtain ⟨e2, e⟩ := hee
    try rw [List.take_length]
    exact ⟨_, .tup (.cons (conv_nil rfl (by decide) (by rw [e]; rfl)) (.cons (conv_eq (by first | rfl | exact fT (by first | exact e2 | assumption) | exact fF (by first | exact e2 | assumption) | exact fT' (by first | exact e2 | assumption) | (exfalso; first | omega | grind))) (.nil))), weakH_row (rowEq (by first | (rw [e]; done) | (rw [e]; rfl))) (weakH_none _), refsIn_ok rfl⟩
theorem D_impl_ReadList (s : ByteArray) (hs : s.size ≤ 1048576) : Den Tryd.prog 45 [.s (.string s)] (.tup [.lst 1 ((rlL s).map ci), .s (.bool (decide (rlB s)))]) :=
  den_of_denX (D_impl_ReadList_X s hs) (by change (some (.tup [.lst 1 (List.take (rlL s).length ((rlL s).map ci)), .s (.bool (decide (rlB s)))]) : Option AV) = some (.tup [.lst 1 ((rlL s).map ci), .s (.bool (decide (rlB s)))]); simp only [takeMap])

-- spec.l01Number
set_option maxRecDepth 20000 in
set_option maxHeartbeats 2000000 in
theorem D_spec_l01Number (s : ByteArray) (hs : s.size ≤ 1048576) : Den Tryd.prog 108 [.s (.string s)] (.tup [.s (.int .i64 (rdN s)), .s (.bool (decide (rdB s)))]) := by
  refine den_of_good Tryd.func108 (by decide) rfl (Nat.le_of_ble_eq_true rfl) (Nat.le_of_ble_eq_true rfl) ?_
  refine good_seq fun K1 hK1 => ?_
  refine good_region rfl ?_
  refine ev_q rfl (q_assign (by conv => lhs; whnf) ?_)
  refine ev_q rfl (q_assign (by conv => lhs; whnf) ?_)
  refine ev_nil (hK1 _ ?_); clear hK1
  refine good_seq fun K2 hK2 => ?_
  refine good_region rfl ?_
  refine ev_q rfl (q_assign (by conv => lhs; whnf) ?_)
  refine ev_nil (hK2 _ ?_); clear hK2
  refine good_seq fun K3 hK3 => ?_
  refine good_seq fun K4 hK4 => ?_
  refine good_region rfl ?_
  refine ev_q rfl (q_move (by conv => lhs; whnf) ?_)
  refine ev_q rfl (q_lenS tStr9 rfl ?_)
  intro n5 hn5
  refine ev_q rfl (q_int rfl rfl ?_)
  intro b6 hb6; cases b6
  · replace hb6 := dF hb6
    have ha : sg s = 0 := sg_0 (by rw [← ba_get, getElem?_neg s 0 (by omega)]; simp)
    refine ev_q rfl (q_move (by conv => lhs; whnf) ?_)
    refine ev_skip rfl ?_
    refine ev_skip rfl ?_
    refine ev_skip rfl ?_
    refine ev_q rfl (q_pickF rfl (by conv => lhs; whnf) ?_)
    refine ev_nil (hK4 _ ?_); clear hK4
    refine good_condF rfl ?_
    refine good_skip (hK3 _ ?_); clear hK3
    refine good_seq fun K7 hK7 => ?_
    refine good_seq fun K8 hK8 => ?_
    refine good_region rfl ?_
    refine ev_q rfl (q_move (by conv => lhs; whnf) ?_)
    refine ev_q rfl (q_lenS tStr9 rfl ?_)
    intro n9 hn9
    refine ev_q rfl (q_move (by conv => lhs; whnf) ?_)
    refine ev_q rfl (q_int rfl rfl ?_)
    intro b10 hb10; cases b10
    · replace hb10 := eqF hb10
      have h0a : ¬ s.size = sg s := by omega
      have hle : sg s ≤ s.size := by omega
      refine ev_q rfl (q_move (by conv => lhs; whnf) ?_)
      refine ev_q rfl (q_move (by conv => lhs; whnf) ?_)
      refine ev_q rfl (q_lenS tStr9 rfl ?_)
      intro n11 hn11
      refine ev_q rfl (q_move (by conv => lhs; whnf) ?_)
      refine ev_q rfl (q_int rfl rfl ?_)
      intro n12 hn12
      replace hn12 := in64 hn12 (by omega) (by omega)
      refine ev_q rfl (q_int rfl rfl ?_)
      intro b13 hb13; cases b13
      · replace hb13 := dF hb13
        have h18 : (s.size : Int) - sg s ≤ 18 := by omega
        refine ev_q rfl (q_pickF rfl (by conv => lhs; whnf) ?_)
        refine ev_q rfl (q_move (by conv => lhs; whnf) ?_)
        refine ev_q rfl (q_move (by conv => lhs; whnf) ?_)
        refine ev_q rfl (q_move (by conv => lhs; whnf) ?_)
        obtain ⟨ua, hua⟩ := getB (s := s) (i := sg s) (by omega)
        have hua2 := hua
        rw [ha] at hua2
        refine ev_q rfl (q_indexS tStr9 rfl rfl (by first | decide | exact Int.natCast_nonneg _ | omega) (by exact hua2) ?_)
        intro n14 hn14
        subst hn14
        refine ev_q rfl (q_int rfl rfl ?_)
        intro b15 hb15; cases b15
        · replace hb15 := eqF hb15
          have hz : ¬ ((ua.toNat : Int) = 48 ∧ (s.size : Int) > 1) := by omega
          refine ev_q rfl (q_move (by conv => lhs; whnf) ?_)
          refine ev_skip rfl ?_
          refine ev_skip rfl ?_
          refine ev_skip rfl ?_
          refine ev_q rfl (q_pickF rfl (by conv => lhs; whnf) ?_)
          refine ev_q rfl (q_pickF rfl (by conv => lhs; whnf) ?_)
          refine ev_nil (hK8 _ ?_); clear hK8
          refine good_condF rfl ?_
          refine good_skip (hK7 _ ?_); clear hK7
          refine good_seq fun K16 hK16 => ?_
          refine good_region rfl ?_
          refine ev_q rfl (q_assign (by conv => lhs; whnf) ?_)
          refine ev_nil (hK16 _ ?_); clear hK16
          refine good_seq fun K17 hK17 => ?_
          refine good_seq fun K18 hK18 => ?_
          refine good_region rfl ?_
          refine ev_q rfl (q_move (by conv => lhs; whnf) ?_)
          refine ev_q rfl (q_assign (by conv => lhs; whnf) ?_)
          refine ev_nil (hK18 _ ?_); clear hK18
          refine good_block ?_
          refine good_loop (α := Nat) (fun i => { env := upd (upd (upd (upd ((fun _ => .junk)) 0 (.s (.string s))) 4 (.s (.int .i64 ((sg s : Int))))) 5 (.s (.int .i64 (numV s (sg s) i)))) 6 (.s (.int .i64 ((i : Int)))), H := fun _ => none }) (fun i => sg s ≤ i ∧ i ≤ s.size ∧ ∀ j u, sg s ≤ j → j < i → s[j]? = some u → dig u) (fun i => s.size - i) (sg s) ?_ ?_ ?_
          · exact ⟨Nat.le_refl _, hle, fun j u h1 h2 => by omega⟩
          · refine sub_weak ?_ ?_
            · exact weakH_none _
            · refine weakE_upd ?e6 ?r6 (weakE_upd ?e5 ?r5 (weakE_upd ?e4 ?r4 (weakE_upd ?e0 ?r0 (weakE_junk _ _))))
              case e0 => first | rfl | exact fI (by omega) | (simp_all)
              case r0 => intro h hh; cases hh
              case e4 => first | rfl | exact fI (by omega) | (simp_all)
              case r4 => intro h hh; cases hh
              case e5 => first | rfl | exact fI (by omega) | (first | exact fI numV_0.symm | exact fI numV_0 | exact fI (by rw [numV_s hI hu hdg]; omega))
              case r5 => intro h hh; cases hh
              case e6 => first | rfl | exact fI (by omega) | (simp_all)
              case r6 => intro h hh; cases hh
          · rintro i ⟨hI, hI2, hJ⟩
            refine good_seq fun K19 hK19 => ?_
            refine good_seq fun K20 hK20 => ?_
            refine good_region rfl ?_
            refine ev_q rfl (q_move (by conv => lhs; whnf) ?_)
            refine ev_q rfl (q_move (by conv => lhs; whnf) ?_)
            refine ev_q rfl (q_lenS tStr9 rfl ?_)
            intro n21 hn21
            refine ev_q rfl (q_int rfl rfl ?_)
            intro b22 hb22; cases b22
            · replace hb22 := dF hb22
              obtain rfl : i = s.size := by omega
              have hnl := numV_lt hJ (Nat.le_refl _) h18
              have hy := num_y rfl h0a h18 hle hua hz hJ
              refine ev_nil (hK20 _ ?_); clear hK20
              refine good_condF rfl ?_
              refine good_exit ?_
              repeat (first | refine thenQ_exit ?_ | refine blockQ_pass rfl ?_)
              refine blockQ_exit (hK17 _ ?_); clear hK17
              refine good_seq fun K23 hK23 => ?_
              refine good_seq fun K24 hK24 => ?_
              refine good_region rfl ?_
              refine ev_q rfl (q_move (by conv => lhs; whnf) ?_)
              refine ev_q rfl (q_int rfl rfl ?_)
              intro b25 hb25; cases b25
              · replace hb25 := eqF hb25
                rw [if_neg (by omega)] at hy
                refine ev_nil (hK24 _ ?_); clear hK24
                refine good_condF rfl ?_
                refine good_skip (hK23 _ ?_); clear hK23
                refine good_seq fun K26 hK26 => ?_
                refine good_region rfl ?_
                refine ev_q rfl (q_move (by conv => lhs; whnf) ?_)
                refine ev_q rfl (q_assign (by conv => lhs; whnf) ?_)
                refine ev_q rfl (q_assign (by conv => lhs; whnf) ?_)
                refine ev_nil (hK26 _ ?_); clear hK26
                refine good_ret ?_
                repeat (first | refine thenQ_ret ?_ | refine blockQ_ret ?_)
                refine ret_many rfl ?_
                refine res_tmp (by conv => lhs; whnf) rfl ?_
                refine res_tmp (by conv => lhs; whnf) rfl ?_
                refine res_nil ?_
                clear hK19
                first | exact fTup1 (fI (rdN_no hc).symm) (fTup1 (fF hc) rfl) | exact fTup1 (fI (by rw [hy.2]; first | done | omega)) (fTup1 (fT hy.1) rfl)
              · replace hb25 := eqT hb25
                rw [if_pos (by omega)] at hy
                refine ev_nil (hK24 _ ?_); clear hK24
                refine good_condT rfl ?_
                refine good_region rfl ?_
                refine ev_q rfl (q_move (by conv => lhs; whnf) ?_)
                refine ev_q rfl (q_neg rfl ?_)
                intro n27 hn27
                replace hn27 := neg64 hn27 (by omega) (by omega)
                refine ev_q rfl (q_assign (by conv => lhs; whnf) ?_)
                refine ev_nil (hK23 _ ?_); clear hK23
                refine good_seq fun K28 hK28 => ?_
                refine good_region rfl ?_
                refine ev_q rfl (q_move (by conv => lhs; whnf) ?_)
                refine ev_q rfl (q_assign (by conv => lhs; whnf) ?_)
                refine ev_q rfl (q_assign (by conv => lhs; whnf) ?_)
                refine ev_nil (hK28 _ ?_); clear hK28
                refine good_ret ?_
                repeat (first | refine thenQ_ret ?_ | refine blockQ_ret ?_)
                refine ret_many rfl ?_
                refine res_tmp (by conv => lhs; whnf) rfl ?_
                refine res_tmp (by conv => lhs; whnf) rfl ?_
                refine res_nil ?_
                clear hK19
                first | exact fTup1 (fI (rdN_no hc).symm) (fTup1 (fF hc) rfl) | exact fTup1 (fI (by rw [hy.2]; first | done | omega)) (fTup1 (fT hy.1) rfl)
            · replace hb22 := dT hb22
              obtain ⟨u, hu⟩ := getB (s := s) (i := i) (by omega)
              have hnl := numV_lt2 hJ (by omega) h18
              refine ev_nil (hK20 _ ?_); clear hK20
              refine good_condT rfl ?_
              refine good_skip (hK19 _ ?_); clear hK19
              refine good_seq fun K29 hK29 => ?_
              refine good_block ?_
              refine good_seq fun K30 hK30 => ?_
              refine good_seq fun K31 hK31 => ?_
              refine good_region rfl ?_
              refine ev_q rfl (q_move (by conv => lhs; whnf) ?_)
              refine ev_q rfl (q_move (by conv => lhs; whnf) ?_)
              refine ev_q rfl (q_indexS tStr9 rfl rfl (by first | decide | exact Int.natCast_nonneg _ | omega) (by exact hu) ?_)
              intro n32 hn32
              subst hn32
              refine ev_q rfl (q_callB rfl rfl (rfl) (D_spec_l01Digit ..) ?_)
              intro b33 hb33; cases b33
              · first | replace hb33 := dF hb33 | skip
                have hc := num_n4 rfl hI hu hb33
                refine ev_q rfl (q_not rfl rfl ?_)
                refine ev_nil (hK31 _ ?_); clear hK31
                refine good_condT rfl ?_
                refine good_seq fun K34 hK34 => ?_
                refine good_region rfl ?_
                refine ev_q rfl (q_assign (by conv => lhs; whnf) ?_)
                refine ev_q rfl (q_assign (by conv => lhs; whnf) ?_)
                refine ev_nil (hK34 _ ?_); clear hK34
                refine good_ret ?_
                repeat (first | refine thenQ_ret ?_ | refine blockQ_ret ?_)
                refine ret_many rfl ?_
                refine res_tmp (by conv => lhs; whnf) rfl ?_
                refine res_tmp (by conv => lhs; whnf) rfl ?_
                refine res_nil ?_
                clear hK17 hK29 hK30
                first | exact fTup1 (fI (rdN_no hc).symm) (fTup1 (fF hc) rfl) | exact fTup1 (fI (by rw [hy.2]; first | done | omega)) (fTup1 (fT hy.1) rfl)
              · first | replace hb33 := dT hb33 | skip
                have hdg : dig u := hb33
                refine ev_q rfl (q_not rfl rfl ?_)
                refine ev_nil (hK31 _ ?_); clear hK31
                refine good_condF rfl ?_
                refine good_skip (hK30 _ ?_); clear hK30
                refine good_region rfl ?_
                refine ev_q rfl (q_move (by conv => lhs; whnf) ?_)
                refine ev_q rfl (q_int rfl rfl ?_)
                intro n35 hn35
                replace hn35 := in64 hn35 (by omega) (by omega)
                refine ev_q rfl (q_move (by conv => lhs; whnf) ?_)
                refine ev_q rfl (q_move (by conv => lhs; whnf) ?_)
                refine ev_q rfl (q_indexS tStr9 rfl rfl (by first | decide | exact Int.natCast_nonneg _ | omega) (by exact hu) ?_)
                intro n36 hn36
                subst hn36
                refine ev_q rfl (q_int rfl rfl ?_)
                intro n37 hn37
                replace hn37 := u8w hn37 (by have := hdg.1; omega) (by have := u.toNat_lt; omega)
                refine ev_q rfl (q_conv tK5 tK2 rfl ?_)
                intro n38 hn38
                replace hn38 := in64 hn38 (by omega) (by omega)
                refine ev_q rfl (q_int rfl rfl ?_)
                intro n39 hn39
                replace hn39 := in64 hn39 (by omega) (by omega)
                refine ev_q rfl (q_assign (by conv => lhs; whnf) ?_)
                refine ev_nil (hK29 _ ?_); clear hK29
                refine good_region rfl ?_
                refine ev_q rfl (q_move (by conv => lhs; whnf) ?_)
                refine ev_q rfl (q_int rfl rfl ?_)
                intro n40 hn40
                replace hn40 := in64 hn40 (by omega) (by omega)
                refine ev_q rfl (q_assign (by conv => lhs; whnf) ?_)
                refine ev_nil ?_
                clear hK17
                refine ⟨i + 1, ?_, ?_, ?_⟩
                · exact ⟨by omega, by omega, dig_ext hJ hu hdg⟩
                · first | omega | (simp only []; omega) | (dsimp only; omega)
                · refine sub_weak ?_ ?_
                  · exact weakH_none _
                  · refine weakE_upd ?e6 ?r6 (weakE_upd ?e5 ?r5 (weakE_upd ?e4 ?r4 (weakE_upd ?e0 ?r0 (weakE_junk _ _))))
                    case e0 => first | rfl | exact fI (by omega) | (simp_all)
                    case r0 => intro h hh; cases hh
                    case e4 => first | rfl | exact fI (by omega) | (simp_all)
                    case r4 => intro h hh; cases hh
                    case e5 => first | rfl | exact fI (by omega) | (first | exact fI numV_0.symm | exact fI numV_0 | exact fI (by rw [numV_s hI hu hdg]; omega))
                    case r5 => intro h hh; cases hh
                    case e6 => first | rfl | exact fI (by omega) | (simp_all)
                    case r6 => intro h hh; cases hh
        · replace hb15 := eqT hb15
          refine ev_q rfl (q_move (by conv => lhs; whnf) ?_)
          refine ev_q rfl (q_move (by conv => lhs; whnf) ?_)
          refine ev_q rfl (q_lenS tStr9 rfl ?_)
          intro n41 hn41
          refine ev_q rfl (q_int rfl rfl ?_)
          intro b42 hb42; cases b42
          · replace hb42 := dF hb42
            have hz : ¬ ((ua.toNat : Int) = 48 ∧ (s.size : Int) > 1) := by omega
            refine ev_q rfl (q_pickT rfl (by conv => lhs; whnf) ?_)
            refine ev_q rfl (q_pickF rfl (by conv => lhs; whnf) ?_)
            refine ev_nil (hK8 _ ?_); clear hK8
            refine good_condF rfl ?_
            refine good_skip (hK7 _ ?_); clear hK7
            refine good_seq fun K43 hK43 => ?_
            refine good_region rfl ?_
            refine ev_q rfl (q_assign (by conv => lhs; whnf) ?_)
            refine ev_nil (hK43 _ ?_); clear hK43
            refine good_seq fun K44 hK44 => ?_
            refine good_seq fun K45 hK45 => ?_
            refine good_region rfl ?_
            refine ev_q rfl (q_move (by conv => lhs; whnf) ?_)
            refine ev_q rfl (q_assign (by conv => lhs; whnf) ?_)
            refine ev_nil (hK45 _ ?_); clear hK45
            refine good_block ?_
            refine good_loop (α := Nat) (fun i => { env := upd (upd (upd (upd ((fun _ => .junk)) 0 (.s (.string s))) 4 (.s (.int .i64 ((sg s : Int))))) 5 (.s (.int .i64 (numV s (sg s) i)))) 6 (.s (.int .i64 ((i : Int)))), H := fun _ => none }) (fun i => sg s ≤ i ∧ i ≤ s.size ∧ ∀ j u, sg s ≤ j → j < i → s[j]? = some u → dig u) (fun i => s.size - i) (sg s) ?_ ?_ ?_
            · exact ⟨Nat.le_refl _, hle, fun j u h1 h2 => by omega⟩
            · refine sub_weak ?_ ?_
              · exact weakH_none _
              · refine weakE_upd ?e6 ?r6 (weakE_upd ?e5 ?r5 (weakE_upd ?e4 ?r4 (weakE_upd ?e0 ?r0 (weakE_junk _ _))))
                case e0 => first | rfl | exact fI (by omega) | (simp_all)
                case r0 => intro h hh; cases hh
                case e4 => first | rfl | exact fI (by omega) | (simp_all)
                case r4 => intro h hh; cases hh
                case e5 => first | rfl | exact fI (by omega) | (first | exact fI numV_0.symm | exact fI numV_0 | exact fI (by rw [numV_s hI hu hdg]; omega))
                case r5 => intro h hh; cases hh
                case e6 => first | rfl | exact fI (by omega) | (simp_all)
                case r6 => intro h hh; cases hh
            · rintro i ⟨hI, hI2, hJ⟩
              refine good_seq fun K46 hK46 => ?_
              refine good_seq fun K47 hK47 => ?_
              refine good_region rfl ?_
              refine ev_q rfl (q_move (by conv => lhs; whnf) ?_)
              refine ev_q rfl (q_move (by conv => lhs; whnf) ?_)
              refine ev_q rfl (q_lenS tStr9 rfl ?_)
              intro n48 hn48
              refine ev_q rfl (q_int rfl rfl ?_)
              intro b49 hb49; cases b49
              · replace hb49 := dF hb49
                obtain rfl : i = s.size := by omega
                have hnl := numV_lt hJ (Nat.le_refl _) h18
                have hy := num_y rfl h0a h18 hle hua hz hJ
                refine ev_nil (hK47 _ ?_); clear hK47
                refine good_condF rfl ?_
                refine good_exit ?_
                repeat (first | refine thenQ_exit ?_ | refine blockQ_pass rfl ?_)
                refine blockQ_exit (hK44 _ ?_); clear hK44
                refine good_seq fun K50 hK50 => ?_
                refine good_seq fun K51 hK51 => ?_
                refine good_region rfl ?_
                refine ev_q rfl (q_move (by conv => lhs; whnf) ?_)
                refine ev_q rfl (q_int rfl rfl ?_)
                intro b52 hb52; cases b52
                · replace hb52 := eqF hb52
                  rw [if_neg (by omega)] at hy
                  refine ev_nil (hK51 _ ?_); clear hK51
                  refine good_condF rfl ?_
                  refine good_skip (hK50 _ ?_); clear hK50
                  refine good_seq fun K53 hK53 => ?_
                  refine good_region rfl ?_
                  refine ev_q rfl (q_move (by conv => lhs; whnf) ?_)
                  refine ev_q rfl (q_assign (by conv => lhs; whnf) ?_)
                  refine ev_q rfl (q_assign (by conv => lhs; whnf) ?_)
                  refine ev_nil (hK53 _ ?_); clear hK53
                  refine good_ret ?_
                  repeat (first | refine thenQ_ret ?_ | refine blockQ_ret ?_)
                  refine ret_many rfl ?_
                  refine res_tmp (by conv => lhs; whnf) rfl ?_
                  refine res_tmp (by conv => lhs; whnf) rfl ?_
                  refine res_nil ?_
                  clear hK46
                  first | exact fTup1 (fI (rdN_no hc).symm) (fTup1 (fF hc) rfl) | exact fTup1 (fI (by rw [hy.2]; first | done | omega)) (fTup1 (fT hy.1) rfl)
                · replace hb52 := eqT hb52
                  rw [if_pos (by omega)] at hy
                  refine ev_nil (hK51 _ ?_); clear hK51
                  refine good_condT rfl ?_
                  refine good_region rfl ?_
                  refine ev_q rfl (q_move (by conv => lhs; whnf) ?_)
                  refine ev_q rfl (q_neg rfl ?_)
                  intro n54 hn54
                  replace hn54 := neg64 hn54 (by omega) (by omega)
                  refine ev_q rfl (q_assign (by conv => lhs; whnf) ?_)
                  refine ev_nil (hK50 _ ?_); clear hK50
                  refine good_seq fun K55 hK55 => ?_
                  refine good_region rfl ?_
                  refine ev_q rfl (q_move (by conv => lhs; whnf) ?_)
                  refine ev_q rfl (q_assign (by conv => lhs; whnf) ?_)
                  refine ev_q rfl (q_assign (by conv => lhs; whnf) ?_)
                  refine ev_nil (hK55 _ ?_); clear hK55
                  refine good_ret ?_
                  repeat (first | refine thenQ_ret ?_ | refine blockQ_ret ?_)
                  refine ret_many rfl ?_
                  refine res_tmp (by conv => lhs; whnf) rfl ?_
                  refine res_tmp (by conv => lhs; whnf) rfl ?_
                  refine res_nil ?_
                  clear hK46
                  first | exact fTup1 (fI (rdN_no hc).symm) (fTup1 (fF hc) rfl) | exact fTup1 (fI (by rw [hy.2]; first | done | omega)) (fTup1 (fT hy.1) rfl)
              · replace hb49 := dT hb49
                obtain ⟨u, hu⟩ := getB (s := s) (i := i) (by omega)
                have hnl := numV_lt2 hJ (by omega) h18
                refine ev_nil (hK47 _ ?_); clear hK47
                refine good_condT rfl ?_
                refine good_skip (hK46 _ ?_); clear hK46
                refine good_seq fun K56 hK56 => ?_
                refine good_block ?_
                refine good_seq fun K57 hK57 => ?_
                refine good_seq fun K58 hK58 => ?_
                refine good_region rfl ?_
                refine ev_q rfl (q_move (by conv => lhs; whnf) ?_)
                refine ev_q rfl (q_move (by conv => lhs; whnf) ?_)
                refine ev_q rfl (q_indexS tStr9 rfl rfl (by first | decide | exact Int.natCast_nonneg _ | omega) (by exact hu) ?_)
                intro n59 hn59
                subst hn59
                refine ev_q rfl (q_callB rfl rfl (rfl) (D_spec_l01Digit ..) ?_)
                intro b60 hb60; cases b60
                · first | replace hb60 := dF hb60 | skip
                  have hc := num_n4 rfl hI hu hb60
                  refine ev_q rfl (q_not rfl rfl ?_)
                  refine ev_nil (hK58 _ ?_); clear hK58
                  refine good_condT rfl ?_
                  refine good_seq fun K61 hK61 => ?_
                  refine good_region rfl ?_
                  refine ev_q rfl (q_assign (by conv => lhs; whnf) ?_)
                  refine ev_q rfl (q_assign (by conv => lhs; whnf) ?_)
                  refine ev_nil (hK61 _ ?_); clear hK61
                  refine good_ret ?_
                  repeat (first | refine thenQ_ret ?_ | refine blockQ_ret ?_)
                  refine ret_many rfl ?_
                  refine res_tmp (by conv => lhs; whnf) rfl ?_
                  refine res_tmp (by conv => lhs; whnf) rfl ?_
                  refine res_nil ?_
                  clear hK44 hK56 hK57
                  first | exact fTup1 (fI (rdN_no hc).symm) (fTup1 (fF hc) rfl) | exact fTup1 (fI (by rw [hy.2]; first | done | omega)) (fTup1 (fT hy.1) rfl)
                · first | replace hb60 := dT hb60 | skip
                  have hdg : dig u := hb60
                  refine ev_q rfl (q_not rfl rfl ?_)
                  refine ev_nil (hK58 _ ?_); clear hK58
                  refine good_condF rfl ?_
                  refine good_skip (hK57 _ ?_); clear hK57
                  refine good_region rfl ?_
                  refine ev_q rfl (q_move (by conv => lhs; whnf) ?_)
                  refine ev_q rfl (q_int rfl rfl ?_)
                  intro n62 hn62
                  replace hn62 := in64 hn62 (by omega) (by omega)
                  refine ev_q rfl (q_move (by conv => lhs; whnf) ?_)
                  refine ev_q rfl (q_move (by conv => lhs; whnf) ?_)
                  refine ev_q rfl (q_indexS tStr9 rfl rfl (by first | decide | exact Int.natCast_nonneg _ | omega) (by exact hu) ?_)
                  intro n63 hn63
                  subst hn63
                  refine ev_q rfl (q_int rfl rfl ?_)
                  intro n64 hn64
                  replace hn64 := u8w hn64 (by have := hdg.1; omega) (by have := u.toNat_lt; omega)
                  refine ev_q rfl (q_conv tK5 tK2 rfl ?_)
                  intro n65 hn65
                  replace hn65 := in64 hn65 (by omega) (by omega)
                  refine ev_q rfl (q_int rfl rfl ?_)
                  intro n66 hn66
                  replace hn66 := in64 hn66 (by omega) (by omega)
                  refine ev_q rfl (q_assign (by conv => lhs; whnf) ?_)
                  refine ev_nil (hK56 _ ?_); clear hK56
                  refine good_region rfl ?_
                  refine ev_q rfl (q_move (by conv => lhs; whnf) ?_)
                  refine ev_q rfl (q_int rfl rfl ?_)
                  intro n67 hn67
                  replace hn67 := in64 hn67 (by omega) (by omega)
                  refine ev_q rfl (q_assign (by conv => lhs; whnf) ?_)
                  refine ev_nil ?_
                  clear hK44
                  refine ⟨i + 1, ?_, ?_, ?_⟩
                  · exact ⟨by omega, by omega, dig_ext hJ hu hdg⟩
                  · first | omega | (simp only []; omega) | (dsimp only; omega)
                  · refine sub_weak ?_ ?_
                    · exact weakH_none _
                    · refine weakE_upd ?e6 ?r6 (weakE_upd ?e5 ?r5 (weakE_upd ?e4 ?r4 (weakE_upd ?e0 ?r0 (weakE_junk _ _))))
                      case e0 => first | rfl | exact fI (by omega) | (simp_all)
                      case r0 => intro h hh; cases hh
                      case e4 => first | rfl | exact fI (by omega) | (simp_all)
                      case r4 => intro h hh; cases hh
                      case e5 => first | rfl | exact fI (by omega) | (first | exact fI numV_0.symm | exact fI numV_0 | exact fI (by rw [numV_s hI hu hdg]; omega))
                      case r5 => intro h hh; cases hh
                      case e6 => first | rfl | exact fI (by omega) | (simp_all)
                      case r6 => intro h hh; cases hh
          · replace hb42 := dT hb42
            have hc := num_n3 ha hua2 (by omega) (by omega)
            refine ev_q rfl (q_pickT rfl (by conv => lhs; whnf) ?_)
            refine ev_q rfl (q_pickF rfl (by conv => lhs; whnf) ?_)
            refine ev_nil (hK8 _ ?_); clear hK8
            refine good_condT rfl ?_
            refine good_seq fun K68 hK68 => ?_
            refine good_region rfl ?_
            refine ev_q rfl (q_assign (by conv => lhs; whnf) ?_)
            refine ev_q rfl (q_assign (by conv => lhs; whnf) ?_)
            refine ev_nil (hK68 _ ?_); clear hK68
            refine good_ret ?_
            repeat (first | refine thenQ_ret ?_ | refine blockQ_ret ?_)
            refine ret_many rfl ?_
            refine res_tmp (by conv => lhs; whnf) rfl ?_
            refine res_tmp (by conv => lhs; whnf) rfl ?_
            refine res_nil ?_
            clear hK7
            first | exact fTup1 (fI (rdN_no hc).symm) (fTup1 (fF hc) rfl) | exact fTup1 (fI (by rw [hy.2]; first | done | omega)) (fTup1 (fT hy.1) rfl)
      · replace hb13 := dT hb13
        have hc := num_n2 ha (by omega)
        refine ev_q rfl (q_pickF rfl (by conv => lhs; whnf) ?_)
        refine ev_q rfl (q_move (by conv => lhs; whnf) ?_)
        refine ev_skip rfl ?_
        refine ev_skip rfl ?_
        refine ev_skip rfl ?_
        refine ev_skip rfl ?_
        refine ev_skip rfl ?_
        refine ev_skip rfl ?_
        refine ev_skip rfl ?_
        refine ev_skip rfl ?_
        refine ev_skip rfl ?_
        refine ev_q rfl (q_pickT rfl (by conv => lhs; whnf) ?_)
        refine ev_nil (hK8 _ ?_); clear hK8
        refine good_condT rfl ?_
        refine good_seq fun K69 hK69 => ?_
        refine good_region rfl ?_
        refine ev_q rfl (q_assign (by conv => lhs; whnf) ?_)
        refine ev_q rfl (q_assign (by conv => lhs; whnf) ?_)
        refine ev_nil (hK69 _ ?_); clear hK69
        refine good_ret ?_
        repeat (first | refine thenQ_ret ?_ | refine blockQ_ret ?_)
        refine ret_many rfl ?_
        refine res_tmp (by conv => lhs; whnf) rfl ?_
        refine res_tmp (by conv => lhs; whnf) rfl ?_
        refine res_nil ?_
        clear hK7
        first | exact fTup1 (fI (rdN_no hc).symm) (fTup1 (fF hc) rfl) | exact fTup1 (fI (by rw [hy.2]; first | done | omega)) (fTup1 (fT hy.1) rfl)
    · replace hb10 := eqT hb10
      have hc := num_n1 ha (by omega)
      refine ev_q rfl (q_move (by conv => lhs; whnf) ?_)
      refine ev_skip rfl ?_
      refine ev_skip rfl ?_
      refine ev_skip rfl ?_
      refine ev_skip rfl ?_
      refine ev_skip rfl ?_
      refine ev_q rfl (q_pickT rfl (by conv => lhs; whnf) ?_)
      refine ev_q rfl (q_move (by conv => lhs; whnf) ?_)
      refine ev_skip rfl ?_
      refine ev_skip rfl ?_
      refine ev_skip rfl ?_
      refine ev_skip rfl ?_
      refine ev_skip rfl ?_
      refine ev_skip rfl ?_
      refine ev_skip rfl ?_
      refine ev_skip rfl ?_
      refine ev_skip rfl ?_
      refine ev_q rfl (q_pickT rfl (by conv => lhs; whnf) ?_)
      refine ev_nil (hK8 _ ?_); clear hK8
      refine good_condT rfl ?_
      refine good_seq fun K70 hK70 => ?_
      refine good_region rfl ?_
      refine ev_q rfl (q_assign (by conv => lhs; whnf) ?_)
      refine ev_q rfl (q_assign (by conv => lhs; whnf) ?_)
      refine ev_nil (hK70 _ ?_); clear hK70
      refine good_ret ?_
      repeat (first | refine thenQ_ret ?_ | refine blockQ_ret ?_)
      refine ret_many rfl ?_
      refine res_tmp (by conv => lhs; whnf) rfl ?_
      refine res_tmp (by conv => lhs; whnf) rfl ?_
      refine res_nil ?_
      clear hK7
      first | exact fTup1 (fI (rdN_no hc).symm) (fTup1 (fF hc) rfl) | exact fTup1 (fI (by rw [hy.2]; first | done | omega)) (fTup1 (fT hy.1) rfl)
  · replace hb6 := dT hb6
    obtain ⟨u0, hu0⟩ := getB (s := s) (i := 0) (by omega)
    refine ev_q rfl (q_move (by conv => lhs; whnf) ?_)
    refine ev_q rfl (q_move (by conv => lhs; whnf) ?_)
    refine ev_q rfl (q_indexS tStr9 rfl rfl (by first | decide | exact Int.natCast_nonneg _ | omega) (by exact hu0) ?_)
    intro n71 hn71
    subst hn71
    refine ev_q rfl (q_int rfl rfl ?_)
    intro b72 hb72; cases b72
    · replace hb72 := eqF hb72
      have ha : sg s = 0 := sg_0 (by rw [← ba_get, hu0]; intro e; cases e; exact hb72 rfl)
      refine ev_q rfl (q_pickT rfl (by conv => lhs; whnf) ?_)
      refine ev_nil (hK4 _ ?_); clear hK4
      refine good_condF rfl ?_
      refine good_skip (hK3 _ ?_); clear hK3
      refine good_seq fun K73 hK73 => ?_
      refine good_seq fun K74 hK74 => ?_
      refine good_region rfl ?_
      refine ev_q rfl (q_move (by conv => lhs; whnf) ?_)
      refine ev_q rfl (q_lenS tStr9 rfl ?_)
      intro n75 hn75
      refine ev_q rfl (q_move (by conv => lhs; whnf) ?_)
      refine ev_q rfl (q_int rfl rfl ?_)
      intro b76 hb76; cases b76
      · replace hb76 := eqF hb76
        have h0a : ¬ s.size = sg s := by omega
        have hle : sg s ≤ s.size := by omega
        refine ev_q rfl (q_move (by conv => lhs; whnf) ?_)
        refine ev_q rfl (q_move (by conv => lhs; whnf) ?_)
        refine ev_q rfl (q_lenS tStr9 rfl ?_)
        intro n77 hn77
        refine ev_q rfl (q_move (by conv => lhs; whnf) ?_)
        refine ev_q rfl (q_int rfl rfl ?_)
        intro n78 hn78
        replace hn78 := in64 hn78 (by omega) (by omega)
        refine ev_q rfl (q_int rfl rfl ?_)
        intro b79 hb79; cases b79
        · replace hb79 := dF hb79
          have h18 : (s.size : Int) - sg s ≤ 18 := by omega
          refine ev_q rfl (q_pickF rfl (by conv => lhs; whnf) ?_)
          refine ev_q rfl (q_move (by conv => lhs; whnf) ?_)
          refine ev_q rfl (q_move (by conv => lhs; whnf) ?_)
          refine ev_q rfl (q_move (by conv => lhs; whnf) ?_)
          obtain ⟨ua, hua⟩ := getB (s := s) (i := sg s) (by omega)
          have hua2 := hua
          rw [ha] at hua2
          refine ev_q rfl (q_indexS tStr9 rfl rfl (by first | decide | exact Int.natCast_nonneg _ | omega) (by exact hua2) ?_)
          intro n80 hn80
          subst hn80
          refine ev_q rfl (q_int rfl rfl ?_)
          intro b81 hb81; cases b81
          · replace hb81 := eqF hb81
            have hz : ¬ ((ua.toNat : Int) = 48 ∧ (s.size : Int) > 1) := by omega
            refine ev_q rfl (q_move (by conv => lhs; whnf) ?_)
            refine ev_skip rfl ?_
            refine ev_skip rfl ?_
            refine ev_skip rfl ?_
            refine ev_q rfl (q_pickF rfl (by conv => lhs; whnf) ?_)
            refine ev_q rfl (q_pickF rfl (by conv => lhs; whnf) ?_)
            refine ev_nil (hK74 _ ?_); clear hK74
            refine good_condF rfl ?_
            refine good_skip (hK73 _ ?_); clear hK73
            refine good_seq fun K82 hK82 => ?_
            refine good_region rfl ?_
            refine ev_q rfl (q_assign (by conv => lhs; whnf) ?_)
            refine ev_nil (hK82 _ ?_); clear hK82
            refine good_seq fun K83 hK83 => ?_
            refine good_seq fun K84 hK84 => ?_
            refine good_region rfl ?_
            refine ev_q rfl (q_move (by conv => lhs; whnf) ?_)
            refine ev_q rfl (q_assign (by conv => lhs; whnf) ?_)
            refine ev_nil (hK84 _ ?_); clear hK84
            refine good_block ?_
            refine good_loop (α := Nat) (fun i => { env := upd (upd (upd (upd ((fun _ => .junk)) 0 (.s (.string s))) 4 (.s (.int .i64 ((sg s : Int))))) 5 (.s (.int .i64 (numV s (sg s) i)))) 6 (.s (.int .i64 ((i : Int)))), H := fun _ => none }) (fun i => sg s ≤ i ∧ i ≤ s.size ∧ ∀ j u, sg s ≤ j → j < i → s[j]? = some u → dig u) (fun i => s.size - i) (sg s) ?_ ?_ ?_
            · exact ⟨Nat.le_refl _, hle, fun j u h1 h2 => by omega⟩
            · refine sub_weak ?_ ?_
              · exact weakH_none _
              · refine weakE_upd ?e6 ?r6 (weakE_upd ?e5 ?r5 (weakE_upd ?e4 ?r4 (weakE_upd ?e0 ?r0 (weakE_junk _ _))))
                case e0 => first | rfl | exact fI (by omega) | (simp_all)
                case r0 => intro h hh; cases hh
                case e4 => first | rfl | exact fI (by omega) | (simp_all)
                case r4 => intro h hh; cases hh
                case e5 => first | rfl | exact fI (by omega) | (first | exact fI numV_0.symm | exact fI numV_0 | exact fI (by rw [numV_s hI hu hdg]; omega))
                case r5 => intro h hh; cases hh
                case e6 => first | rfl | exact fI (by omega) | (simp_all)
                case r6 => intro h hh; cases hh
            · rintro i ⟨hI, hI2, hJ⟩
              refine good_seq fun K85 hK85 => ?_
              refine good_seq fun K86 hK86 => ?_
              refine good_region rfl ?_
              refine ev_q rfl (q_move (by conv => lhs; whnf) ?_)
              refine ev_q rfl (q_move (by conv => lhs; whnf) ?_)
              refine ev_q rfl (q_lenS tStr9 rfl ?_)
              intro n87 hn87
              refine ev_q rfl (q_int rfl rfl ?_)
              intro b88 hb88; cases b88
              · replace hb88 := dF hb88
                obtain rfl : i = s.size := by omega
                have hnl := numV_lt hJ (Nat.le_refl _) h18
                have hy := num_y rfl h0a h18 hle hua hz hJ
                refine ev_nil (hK86 _ ?_); clear hK86
                refine good_condF rfl ?_
                refine good_exit ?_
                repeat (first | refine thenQ_exit ?_ | refine blockQ_pass rfl ?_)
                refine blockQ_exit (hK83 _ ?_); clear hK83
                refine good_seq fun K89 hK89 => ?_
                refine good_seq fun K90 hK90 => ?_
                refine good_region rfl ?_
                refine ev_q rfl (q_move (by conv => lhs; whnf) ?_)
                refine ev_q rfl (q_int rfl rfl ?_)
                intro b91 hb91; cases b91
                · replace hb91 := eqF hb91
                  rw [if_neg (by omega)] at hy
                  refine ev_nil (hK90 _ ?_); clear hK90
                  refine good_condF rfl ?_
                  refine good_skip (hK89 _ ?_); clear hK89
                  refine good_seq fun K92 hK92 => ?_
                  refine good_region rfl ?_
                  refine ev_q rfl (q_move (by conv => lhs; whnf) ?_)
                  refine ev_q rfl (q_assign (by conv => lhs; whnf) ?_)
                  refine ev_q rfl (q_assign (by conv => lhs; whnf) ?_)
                  refine ev_nil (hK92 _ ?_); clear hK92
                  refine good_ret ?_
                  repeat (first | refine thenQ_ret ?_ | refine blockQ_ret ?_)
                  refine ret_many rfl ?_
                  refine res_tmp (by conv => lhs; whnf) rfl ?_
                  refine res_tmp (by conv => lhs; whnf) rfl ?_
                  refine res_nil ?_
                  clear hK85
                  first | exact fTup1 (fI (rdN_no hc).symm) (fTup1 (fF hc) rfl) | exact fTup1 (fI (by rw [hy.2]; first | done | omega)) (fTup1 (fT hy.1) rfl)
                · replace hb91 := eqT hb91
                  rw [if_pos (by omega)] at hy
                  refine ev_nil (hK90 _ ?_); clear hK90
                  refine good_condT rfl ?_
                  refine good_region rfl ?_
                  refine ev_q rfl (q_move (by conv => lhs; whnf) ?_)
                  refine ev_q rfl (q_neg rfl ?_)
                  intro n93 hn93
                  replace hn93 := neg64 hn93 (by omega) (by omega)
                  refine ev_q rfl (q_assign (by conv => lhs; whnf) ?_)
                  refine ev_nil (hK89 _ ?_); clear hK89
                  refine good_seq fun K94 hK94 => ?_
                  refine good_region rfl ?_
                  refine ev_q rfl (q_move (by conv => lhs; whnf) ?_)
                  refine ev_q rfl (q_assign (by conv => lhs; whnf) ?_)
                  refine ev_q rfl (q_assign (by conv => lhs; whnf) ?_)
                  refine ev_nil (hK94 _ ?_); clear hK94
                  refine good_ret ?_
                  repeat (first | refine thenQ_ret ?_ | refine blockQ_ret ?_)
                  refine ret_many rfl ?_
                  refine res_tmp (by conv => lhs; whnf) rfl ?_
                  refine res_tmp (by conv => lhs; whnf) rfl ?_
                  refine res_nil ?_
                  clear hK85
                  first | exact fTup1 (fI (rdN_no hc).symm) (fTup1 (fF hc) rfl) | exact fTup1 (fI (by rw [hy.2]; first | done | omega)) (fTup1 (fT hy.1) rfl)
              · replace hb88 := dT hb88
                obtain ⟨u, hu⟩ := getB (s := s) (i := i) (by omega)
                have hnl := numV_lt2 hJ (by omega) h18
                refine ev_nil (hK86 _ ?_); clear hK86
                refine good_condT rfl ?_
                refine good_skip (hK85 _ ?_); clear hK85
                refine good_seq fun K95 hK95 => ?_
                refine good_block ?_
                refine good_seq fun K96 hK96 => ?_
                refine good_seq fun K97 hK97 => ?_
                refine good_region rfl ?_
                refine ev_q rfl (q_move (by conv => lhs; whnf) ?_)
                refine ev_q rfl (q_move (by conv => lhs; whnf) ?_)
                refine ev_q rfl (q_indexS tStr9 rfl rfl (by first | decide | exact Int.natCast_nonneg _ | omega) (by exact hu) ?_)
                intro n98 hn98
                subst hn98
                refine ev_q rfl (q_callB rfl rfl (rfl) (D_spec_l01Digit ..) ?_)
                intro b99 hb99; cases b99
                · first | replace hb99 := dF hb99 | skip
                  have hc := num_n4 rfl hI hu hb99
                  refine ev_q rfl (q_not rfl rfl ?_)
                  refine ev_nil (hK97 _ ?_); clear hK97
                  refine good_condT rfl ?_
                  refine good_seq fun K100 hK100 => ?_
                  refine good_region rfl ?_
                  refine ev_q rfl (q_assign (by conv => lhs; whnf) ?_)
                  refine ev_q rfl (q_assign (by conv => lhs; whnf) ?_)
                  refine ev_nil (hK100 _ ?_); clear hK100
                  refine good_ret ?_
                  repeat (first | refine thenQ_ret ?_ | refine blockQ_ret ?_)
                  refine ret_many rfl ?_
                  refine res_tmp (by conv => lhs; whnf) rfl ?_
                  refine res_tmp (by conv => lhs; whnf) rfl ?_
                  refine res_nil ?_
                  clear hK83 hK95 hK96
                  first | exact fTup1 (fI (rdN_no hc).symm) (fTup1 (fF hc) rfl) | exact fTup1 (fI (by rw [hy.2]; first | done | omega)) (fTup1 (fT hy.1) rfl)
                · first | replace hb99 := dT hb99 | skip
                  have hdg : dig u := hb99
                  refine ev_q rfl (q_not rfl rfl ?_)
                  refine ev_nil (hK97 _ ?_); clear hK97
                  refine good_condF rfl ?_
                  refine good_skip (hK96 _ ?_); clear hK96
                  refine good_region rfl ?_
                  refine ev_q rfl (q_move (by conv => lhs; whnf) ?_)
                  refine ev_q rfl (q_int rfl rfl ?_)
                  intro n101 hn101
                  replace hn101 := in64 hn101 (by omega) (by omega)
                  refine ev_q rfl (q_move (by conv => lhs; whnf) ?_)
                  refine ev_q rfl (q_move (by conv => lhs; whnf) ?_)
                  refine ev_q rfl (q_indexS tStr9 rfl rfl (by first | decide | exact Int.natCast_nonneg _ | omega) (by exact hu) ?_)
                  intro n102 hn102
                  subst hn102
                  refine ev_q rfl (q_int rfl rfl ?_)
                  intro n103 hn103
                  replace hn103 := u8w hn103 (by have := hdg.1; omega) (by have := u.toNat_lt; omega)
                  refine ev_q rfl (q_conv tK5 tK2 rfl ?_)
                  intro n104 hn104
                  replace hn104 := in64 hn104 (by omega) (by omega)
                  refine ev_q rfl (q_int rfl rfl ?_)
                  intro n105 hn105
                  replace hn105 := in64 hn105 (by omega) (by omega)
                  refine ev_q rfl (q_assign (by conv => lhs; whnf) ?_)
                  refine ev_nil (hK95 _ ?_); clear hK95
                  refine good_region rfl ?_
                  refine ev_q rfl (q_move (by conv => lhs; whnf) ?_)
                  refine ev_q rfl (q_int rfl rfl ?_)
                  intro n106 hn106
                  replace hn106 := in64 hn106 (by omega) (by omega)
                  refine ev_q rfl (q_assign (by conv => lhs; whnf) ?_)
                  refine ev_nil ?_
                  clear hK83
                  refine ⟨i + 1, ?_, ?_, ?_⟩
                  · exact ⟨by omega, by omega, dig_ext hJ hu hdg⟩
                  · first | omega | (simp only []; omega) | (dsimp only; omega)
                  · refine sub_weak ?_ ?_
                    · exact weakH_none _
                    · refine weakE_upd ?e6 ?r6 (weakE_upd ?e5 ?r5 (weakE_upd ?e4 ?r4 (weakE_upd ?e0 ?r0 (weakE_junk _ _))))
                      case e0 => first | rfl | exact fI (by omega) | (simp_all)
                      case r0 => intro h hh; cases hh
                      case e4 => first | rfl | exact fI (by omega) | (simp_all)
                      case r4 => intro h hh; cases hh
                      case e5 => first | rfl | exact fI (by omega) | (first | exact fI numV_0.symm | exact fI numV_0 | exact fI (by rw [numV_s hI hu hdg]; omega))
                      case r5 => intro h hh; cases hh
                      case e6 => first | rfl | exact fI (by omega) | (simp_all)
                      case r6 => intro h hh; cases hh
          · replace hb81 := eqT hb81
            refine ev_q rfl (q_move (by conv => lhs; whnf) ?_)
            refine ev_q rfl (q_move (by conv => lhs; whnf) ?_)
            refine ev_q rfl (q_lenS tStr9 rfl ?_)
            intro n107 hn107
            refine ev_q rfl (q_int rfl rfl ?_)
            intro b108 hb108; cases b108
            · replace hb108 := dF hb108
              have hz : ¬ ((ua.toNat : Int) = 48 ∧ (s.size : Int) > 1) := by omega
              refine ev_q rfl (q_pickT rfl (by conv => lhs; whnf) ?_)
              refine ev_q rfl (q_pickF rfl (by conv => lhs; whnf) ?_)
              refine ev_nil (hK74 _ ?_); clear hK74
              refine good_condF rfl ?_
              refine good_skip (hK73 _ ?_); clear hK73
              refine good_seq fun K109 hK109 => ?_
              refine good_region rfl ?_
              refine ev_q rfl (q_assign (by conv => lhs; whnf) ?_)
              refine ev_nil (hK109 _ ?_); clear hK109
              refine good_seq fun K110 hK110 => ?_
              refine good_seq fun K111 hK111 => ?_
              refine good_region rfl ?_
              refine ev_q rfl (q_move (by conv => lhs; whnf) ?_)
              refine ev_q rfl (q_assign (by conv => lhs; whnf) ?_)
              refine ev_nil (hK111 _ ?_); clear hK111
              refine good_block ?_
              refine good_loop (α := Nat) (fun i => { env := upd (upd (upd (upd ((fun _ => .junk)) 0 (.s (.string s))) 4 (.s (.int .i64 ((sg s : Int))))) 5 (.s (.int .i64 (numV s (sg s) i)))) 6 (.s (.int .i64 ((i : Int)))), H := fun _ => none }) (fun i => sg s ≤ i ∧ i ≤ s.size ∧ ∀ j u, sg s ≤ j → j < i → s[j]? = some u → dig u) (fun i => s.size - i) (sg s) ?_ ?_ ?_
              · exact ⟨Nat.le_refl _, hle, fun j u h1 h2 => by omega⟩
              · refine sub_weak ?_ ?_
                · exact weakH_none _
                · refine weakE_upd ?e6 ?r6 (weakE_upd ?e5 ?r5 (weakE_upd ?e4 ?r4 (weakE_upd ?e0 ?r0 (weakE_junk _ _))))
                  case e0 => first | rfl | exact fI (by omega) | (simp_all)
                  case r0 => intro h hh; cases hh
                  case e4 => first | rfl | exact fI (by omega) | (simp_all)
                  case r4 => intro h hh; cases hh
                  case e5 => first | rfl | exact fI (by omega) | (first | exact fI numV_0.symm | exact fI numV_0 | exact fI (by rw [numV_s hI hu hdg]; omega))
                  case r5 => intro h hh; cases hh
                  case e6 => first | rfl | exact fI (by omega) | (simp_all)
                  case r6 => intro h hh; cases hh
              · rintro i ⟨hI, hI2, hJ⟩
                refine good_seq fun K112 hK112 => ?_
                refine good_seq fun K113 hK113 => ?_
                refine good_region rfl ?_
                refine ev_q rfl (q_move (by conv => lhs; whnf) ?_)
                refine ev_q rfl (q_move (by conv => lhs; whnf) ?_)
                refine ev_q rfl (q_lenS tStr9 rfl ?_)
                intro n114 hn114
                refine ev_q rfl (q_int rfl rfl ?_)
                intro b115 hb115; cases b115
                · replace hb115 := dF hb115
                  obtain rfl : i = s.size := by omega
                  have hnl := numV_lt hJ (Nat.le_refl _) h18
                  have hy := num_y rfl h0a h18 hle hua hz hJ
                  refine ev_nil (hK113 _ ?_); clear hK113
                  refine good_condF rfl ?_
                  refine good_exit ?_
                  repeat (first | refine thenQ_exit ?_ | refine blockQ_pass rfl ?_)
                  refine blockQ_exit (hK110 _ ?_); clear hK110
                  refine good_seq fun K116 hK116 => ?_
                  refine good_seq fun K117 hK117 => ?_
                  refine good_region rfl ?_
                  refine ev_q rfl (q_move (by conv => lhs; whnf) ?_)
                  refine ev_q rfl (q_int rfl rfl ?_)
                  intro b118 hb118; cases b118
                  · replace hb118 := eqF hb118
                    rw [if_neg (by omega)] at hy
                    refine ev_nil (hK117 _ ?_); clear hK117
                    refine good_condF rfl ?_
                    refine good_skip (hK116 _ ?_); clear hK116
                    refine good_seq fun K119 hK119 => ?_
                    refine good_region rfl ?_
                    refine ev_q rfl (q_move (by conv => lhs; whnf) ?_)
                    refine ev_q rfl (q_assign (by conv => lhs; whnf) ?_)
                    refine ev_q rfl (q_assign (by conv => lhs; whnf) ?_)
                    refine ev_nil (hK119 _ ?_); clear hK119
                    refine good_ret ?_
                    repeat (first | refine thenQ_ret ?_ | refine blockQ_ret ?_)
                    refine ret_many rfl ?_
                    refine res_tmp (by conv => lhs; whnf) rfl ?_
                    refine res_tmp (by conv => lhs; whnf) rfl ?_
                    refine res_nil ?_
                    clear hK112
                    first | exact fTup1 (fI (rdN_no hc).symm) (fTup1 (fF hc) rfl) | exact fTup1 (fI (by rw [hy.2]; first | done | omega)) (fTup1 (fT hy.1) rfl)
                  · replace hb118 := eqT hb118
                    rw [if_pos (by omega)] at hy
                    refine ev_nil (hK117 _ ?_); clear hK117
                    refine good_condT rfl ?_
                    refine good_region rfl ?_
                    refine ev_q rfl (q_move (by conv => lhs; whnf) ?_)
                    refine ev_q rfl (q_neg rfl ?_)
                    intro n120 hn120
                    replace hn120 := neg64 hn120 (by omega) (by omega)
                    refine ev_q rfl (q_assign (by conv => lhs; whnf) ?_)
                    refine ev_nil (hK116 _ ?_); clear hK116
                    refine good_seq fun K121 hK121 => ?_
                    refine good_region rfl ?_
                    refine ev_q rfl (q_move (by conv => lhs; whnf) ?_)
                    refine ev_q rfl (q_assign (by conv => lhs; whnf) ?_)
                    refine ev_q rfl (q_assign (by conv => lhs; whnf) ?_)
                    refine ev_nil (hK121 _ ?_); clear hK121
                    refine good_ret ?_
                    repeat (first | refine thenQ_ret ?_ | refine blockQ_ret ?_)
                    refine ret_many rfl ?_
                    refine res_tmp (by conv => lhs; whnf) rfl ?_
                    refine res_tmp (by conv => lhs; whnf) rfl ?_
                    refine res_nil ?_
                    clear hK112
                    first | exact fTup1 (fI (rdN_no hc).symm) (fTup1 (fF hc) rfl) | exact fTup1 (fI (by rw [hy.2]; first | done | omega)) (fTup1 (fT hy.1) rfl)
                · replace hb115 := dT hb115
                  obtain ⟨u, hu⟩ := getB (s := s) (i := i) (by omega)
                  have hnl := numV_lt2 hJ (by omega) h18
                  refine ev_nil (hK113 _ ?_); clear hK113
                  refine good_condT rfl ?_
                  refine good_skip (hK112 _ ?_); clear hK112
                  refine good_seq fun K122 hK122 => ?_
                  refine good_block ?_
                  refine good_seq fun K123 hK123 => ?_
                  refine good_seq fun K124 hK124 => ?_
                  refine good_region rfl ?_
                  refine ev_q rfl (q_move (by conv => lhs; whnf) ?_)
                  refine ev_q rfl (q_move (by conv => lhs; whnf) ?_)
                  refine ev_q rfl (q_indexS tStr9 rfl rfl (by first | decide | exact Int.natCast_nonneg _ | omega) (by exact hu) ?_)
                  intro n125 hn125
                  subst hn125
                  refine ev_q rfl (q_callB rfl rfl (rfl) (D_spec_l01Digit ..) ?_)
                  intro b126 hb126; cases b126
                  · first | replace hb126 := dF hb126 | skip
                    have hc := num_n4 rfl hI hu hb126
                    refine ev_q rfl (q_not rfl rfl ?_)
                    refine ev_nil (hK124 _ ?_); clear hK124
                    refine good_condT rfl ?_
                    refine good_seq fun K127 hK127 => ?_
                    refine good_region rfl ?_
                    refine ev_q rfl (q_assign (by conv => lhs; whnf) ?_)
                    refine ev_q rfl (q_assign (by conv => lhs; whnf) ?_)
                    refine ev_nil (hK127 _ ?_); clear hK127
                    refine good_ret ?_
                    repeat (first | refine thenQ_ret ?_ | refine blockQ_ret ?_)
                    refine ret_many rfl ?_
                    refine res_tmp (by conv => lhs; whnf) rfl ?_
                    refine res_tmp (by conv => lhs; whnf) rfl ?_
                    refine res_nil ?_
                    clear hK110 hK122 hK123
                    first | exact fTup1 (fI (rdN_no hc).symm) (fTup1 (fF hc) rfl) | exact fTup1 (fI (by rw [hy.2]; first | done | omega)) (fTup1 (fT hy.1) rfl)
                  · first | replace hb126 := dT hb126 | skip
                    have hdg : dig u := hb126
                    refine ev_q rfl (q_not rfl rfl ?_)
                    refine ev_nil (hK124 _ ?_); clear hK124
                    refine good_condF rfl ?_
                    refine good_skip (hK123 _ ?_); clear hK123
                    refine good_region rfl ?_
                    refine ev_q rfl (q_move (by conv => lhs; whnf) ?_)
                    refine ev_q rfl (q_int rfl rfl ?_)
                    intro n128 hn128
                    replace hn128 := in64 hn128 (by omega) (by omega)
                    refine ev_q rfl (q_move (by conv => lhs; whnf) ?_)
                    refine ev_q rfl (q_move (by conv => lhs; whnf) ?_)
                    refine ev_q rfl (q_indexS tStr9 rfl rfl (by first | decide | exact Int.natCast_nonneg _ | omega) (by exact hu) ?_)
                    intro n129 hn129
                    subst hn129
                    refine ev_q rfl (q_int rfl rfl ?_)
                    intro n130 hn130
                    replace hn130 := u8w hn130 (by have := hdg.1; omega) (by have := u.toNat_lt; omega)
                    refine ev_q rfl (q_conv tK5 tK2 rfl ?_)
                    intro n131 hn131
                    replace hn131 := in64 hn131 (by omega) (by omega)
                    refine ev_q rfl (q_int rfl rfl ?_)
                    intro n132 hn132
                    replace hn132 := in64 hn132 (by omega) (by omega)
                    refine ev_q rfl (q_assign (by conv => lhs; whnf) ?_)
                    refine ev_nil (hK122 _ ?_); clear hK122
                    refine good_region rfl ?_
                    refine ev_q rfl (q_move (by conv => lhs; whnf) ?_)
                    refine ev_q rfl (q_int rfl rfl ?_)
                    intro n133 hn133
                    replace hn133 := in64 hn133 (by omega) (by omega)
                    refine ev_q rfl (q_assign (by conv => lhs; whnf) ?_)
                    refine ev_nil ?_
                    clear hK110
                    refine ⟨i + 1, ?_, ?_, ?_⟩
                    · exact ⟨by omega, by omega, dig_ext hJ hu hdg⟩
                    · first | omega | (simp only []; omega) | (dsimp only; omega)
                    · refine sub_weak ?_ ?_
                      · exact weakH_none _
                      · refine weakE_upd ?e6 ?r6 (weakE_upd ?e5 ?r5 (weakE_upd ?e4 ?r4 (weakE_upd ?e0 ?r0 (weakE_junk _ _))))
                        case e0 => first | rfl | exact fI (by omega) | (simp_all)
                        case r0 => intro h hh; cases hh
                        case e4 => first | rfl | exact fI (by omega) | (simp_all)
                        case r4 => intro h hh; cases hh
                        case e5 => first | rfl | exact fI (by omega) | (first | exact fI numV_0.symm | exact fI numV_0 | exact fI (by rw [numV_s hI hu hdg]; omega))
                        case r5 => intro h hh; cases hh
                        case e6 => first | rfl | exact fI (by omega) | (simp_all)
                        case r6 => intro h hh; cases hh
            · replace hb108 := dT hb108
              have hc := num_n3 ha hua2 (by omega) (by omega)
              refine ev_q rfl (q_pickT rfl (by conv => lhs; whnf) ?_)
              refine ev_q rfl (q_pickF rfl (by conv => lhs; whnf) ?_)
              refine ev_nil (hK74 _ ?_); clear hK74
              refine good_condT rfl ?_
              refine good_seq fun K134 hK134 => ?_
              refine good_region rfl ?_
              refine ev_q rfl (q_assign (by conv => lhs; whnf) ?_)
              refine ev_q rfl (q_assign (by conv => lhs; whnf) ?_)
              refine ev_nil (hK134 _ ?_); clear hK134
              refine good_ret ?_
              repeat (first | refine thenQ_ret ?_ | refine blockQ_ret ?_)
              refine ret_many rfl ?_
              refine res_tmp (by conv => lhs; whnf) rfl ?_
              refine res_tmp (by conv => lhs; whnf) rfl ?_
              refine res_nil ?_
              clear hK73
              first | exact fTup1 (fI (rdN_no hc).symm) (fTup1 (fF hc) rfl) | exact fTup1 (fI (by rw [hy.2]; first | done | omega)) (fTup1 (fT hy.1) rfl)
        · replace hb79 := dT hb79
          have hc := num_n2 ha (by omega)
          refine ev_q rfl (q_pickF rfl (by conv => lhs; whnf) ?_)
          refine ev_q rfl (q_move (by conv => lhs; whnf) ?_)
          refine ev_skip rfl ?_
          refine ev_skip rfl ?_
          refine ev_skip rfl ?_
          refine ev_skip rfl ?_
          refine ev_skip rfl ?_
          refine ev_skip rfl ?_
          refine ev_skip rfl ?_
          refine ev_skip rfl ?_
          refine ev_skip rfl ?_
          refine ev_q rfl (q_pickT rfl (by conv => lhs; whnf) ?_)
          refine ev_nil (hK74 _ ?_); clear hK74
          refine good_condT rfl ?_
          refine good_seq fun K135 hK135 => ?_
          refine good_region rfl ?_
          refine ev_q rfl (q_assign (by conv => lhs; whnf) ?_)
          refine ev_q rfl (q_assign (by conv => lhs; whnf) ?_)
          refine ev_nil (hK135 _ ?_); clear hK135
          refine good_ret ?_
          repeat (first | refine thenQ_ret ?_ | refine blockQ_ret ?_)
          refine ret_many rfl ?_
          refine res_tmp (by conv => lhs; whnf) rfl ?_
          refine res_tmp (by conv => lhs; whnf) rfl ?_
          refine res_nil ?_
          clear hK73
          first | exact fTup1 (fI (rdN_no hc).symm) (fTup1 (fF hc) rfl) | exact fTup1 (fI (by rw [hy.2]; first | done | omega)) (fTup1 (fT hy.1) rfl)
      · replace hb76 := eqT hb76
        have hc := num_n1 ha (by omega)
        refine ev_q rfl (q_move (by conv => lhs; whnf) ?_)
        refine ev_skip rfl ?_
        refine ev_skip rfl ?_
        refine ev_skip rfl ?_
        refine ev_skip rfl ?_
        refine ev_skip rfl ?_
        refine ev_q rfl (q_pickT rfl (by conv => lhs; whnf) ?_)
        refine ev_q rfl (q_move (by conv => lhs; whnf) ?_)
        refine ev_skip rfl ?_
        refine ev_skip rfl ?_
        refine ev_skip rfl ?_
        refine ev_skip rfl ?_
        refine ev_skip rfl ?_
        refine ev_skip rfl ?_
        refine ev_skip rfl ?_
        refine ev_skip rfl ?_
        refine ev_skip rfl ?_
        refine ev_q rfl (q_pickT rfl (by conv => lhs; whnf) ?_)
        refine ev_nil (hK74 _ ?_); clear hK74
        refine good_condT rfl ?_
        refine good_seq fun K136 hK136 => ?_
        refine good_region rfl ?_
        refine ev_q rfl (q_assign (by conv => lhs; whnf) ?_)
        refine ev_q rfl (q_assign (by conv => lhs; whnf) ?_)
        refine ev_nil (hK136 _ ?_); clear hK136
        refine good_ret ?_
        repeat (first | refine thenQ_ret ?_ | refine blockQ_ret ?_)
        refine ret_many rfl ?_
        refine res_tmp (by conv => lhs; whnf) rfl ?_
        refine res_tmp (by conv => lhs; whnf) rfl ?_
        refine res_nil ?_
        clear hK73
        first | exact fTup1 (fI (rdN_no hc).symm) (fTup1 (fF hc) rfl) | exact fTup1 (fI (by rw [hy.2]; first | done | omega)) (fTup1 (fT hy.1) rfl)
    · replace hb72 := eqT hb72
      have ha : sg s = 1 := sg_1 (by rw [← ba_get, hu0]; exact congrArg some (u8eq (b := 45) (by show _ = (45 : Int); omega)))
      refine ev_q rfl (q_pickT rfl (by conv => lhs; whnf) ?_)
      refine ev_nil (hK4 _ ?_); clear hK4
      refine good_condT rfl ?_
      refine good_region rfl ?_
      refine ev_q rfl (q_assign (by conv => lhs; whnf) ?_)
      refine ev_nil (hK3 _ ?_); clear hK3
      refine good_seq fun K137 hK137 => ?_
      refine good_seq fun K138 hK138 => ?_
      refine good_region rfl ?_
      refine ev_q rfl (q_move (by conv => lhs; whnf) ?_)
      refine ev_q rfl (q_lenS tStr9 rfl ?_)
      intro n139 hn139
      refine ev_q rfl (q_move (by conv => lhs; whnf) ?_)
      refine ev_q rfl (q_int rfl rfl ?_)
      intro b140 hb140; cases b140
      · replace hb140 := eqF hb140
        have h0a : ¬ s.size = sg s := by omega
        have hle : sg s ≤ s.size := by omega
        refine ev_q rfl (q_move (by conv => lhs; whnf) ?_)
        refine ev_q rfl (q_move (by conv => lhs; whnf) ?_)
        refine ev_q rfl (q_lenS tStr9 rfl ?_)
        intro n141 hn141
        refine ev_q rfl (q_move (by conv => lhs; whnf) ?_)
        refine ev_q rfl (q_int rfl rfl ?_)
        intro n142 hn142
        replace hn142 := in64 hn142 (by omega) (by omega)
        refine ev_q rfl (q_int rfl rfl ?_)
        intro b143 hb143; cases b143
        · replace hb143 := dF hb143
          have h18 : (s.size : Int) - sg s ≤ 18 := by omega
          refine ev_q rfl (q_pickF rfl (by conv => lhs; whnf) ?_)
          refine ev_q rfl (q_move (by conv => lhs; whnf) ?_)
          refine ev_q rfl (q_move (by conv => lhs; whnf) ?_)
          refine ev_q rfl (q_move (by conv => lhs; whnf) ?_)
          obtain ⟨ua, hua⟩ := getB (s := s) (i := sg s) (by omega)
          have hua2 := hua
          rw [ha] at hua2
          refine ev_q rfl (q_indexS tStr9 rfl rfl (by first | decide | exact Int.natCast_nonneg _ | omega) (by exact hua2) ?_)
          intro n144 hn144
          subst hn144
          refine ev_q rfl (q_int rfl rfl ?_)
          intro b145 hb145; cases b145
          · replace hb145 := eqF hb145
            have hz : ¬ ((ua.toNat : Int) = 48 ∧ (s.size : Int) > 1) := by omega
            refine ev_q rfl (q_move (by conv => lhs; whnf) ?_)
            refine ev_skip rfl ?_
            refine ev_skip rfl ?_
            refine ev_skip rfl ?_
            refine ev_q rfl (q_pickF rfl (by conv => lhs; whnf) ?_)
            refine ev_q rfl (q_pickF rfl (by conv => lhs; whnf) ?_)
            refine ev_nil (hK138 _ ?_); clear hK138
            refine good_condF rfl ?_
            refine good_skip (hK137 _ ?_); clear hK137
            refine good_seq fun K146 hK146 => ?_
            refine good_region rfl ?_
            refine ev_q rfl (q_assign (by conv => lhs; whnf) ?_)
            refine ev_nil (hK146 _ ?_); clear hK146
            refine good_seq fun K147 hK147 => ?_
            refine good_seq fun K148 hK148 => ?_
            refine good_region rfl ?_
            refine ev_q rfl (q_move (by conv => lhs; whnf) ?_)
            refine ev_q rfl (q_assign (by conv => lhs; whnf) ?_)
            refine ev_nil (hK148 _ ?_); clear hK148
            refine good_block ?_
            refine good_loop (α := Nat) (fun i => { env := upd (upd (upd (upd ((fun _ => .junk)) 0 (.s (.string s))) 4 (.s (.int .i64 ((sg s : Int))))) 5 (.s (.int .i64 (numV s (sg s) i)))) 6 (.s (.int .i64 ((i : Int)))), H := fun _ => none }) (fun i => sg s ≤ i ∧ i ≤ s.size ∧ ∀ j u, sg s ≤ j → j < i → s[j]? = some u → dig u) (fun i => s.size - i) (sg s) ?_ ?_ ?_
            · exact ⟨Nat.le_refl _, hle, fun j u h1 h2 => by omega⟩
            · refine sub_weak ?_ ?_
              · exact weakH_none _
              · refine weakE_upd ?e6 ?r6 (weakE_upd ?e5 ?r5 (weakE_upd ?e4 ?r4 (weakE_upd ?e0 ?r0 (weakE_junk _ _))))
                case e0 => first | rfl | exact fI (by omega) | (simp_all)
                case r0 => intro h hh; cases hh
                case e4 => first | rfl | exact fI (by omega) | (simp_all)
                case r4 => intro h hh; cases hh
                case e5 => first | rfl | exact fI (by omega) | (first | exact fI numV_0.symm | exact fI numV_0 | exact fI (by rw [numV_s hI hu hdg]; omega))
                case r5 => intro h hh; cases hh
                case e6 => first | rfl | exact fI (by omega) | (simp_all)
                case r6 => intro h hh; cases hh
            · rintro i ⟨hI, hI2, hJ⟩
              refine good_seq fun K149 hK149 => ?_
              refine good_seq fun K150 hK150 => ?_
              refine good_region rfl ?_
              refine ev_q rfl (q_move (by conv => lhs; whnf) ?_)
              refine ev_q rfl (q_move (by conv => lhs; whnf) ?_)
              refine ev_q rfl (q_lenS tStr9 rfl ?_)
              intro n151 hn151
              refine ev_q rfl (q_int rfl rfl ?_)
              intro b152 hb152; cases b152
              · replace hb152 := dF hb152
                obtain rfl : i = s.size := by omega
                have hnl := numV_lt hJ (Nat.le_refl _) h18
                have hy := num_y rfl h0a h18 hle hua hz hJ
                refine ev_nil (hK150 _ ?_); clear hK150
                refine good_condF rfl ?_
                refine good_exit ?_
                repeat (first | refine thenQ_exit ?_ | refine blockQ_pass rfl ?_)
                refine blockQ_exit (hK147 _ ?_); clear hK147
                refine good_seq fun K153 hK153 => ?_
                refine good_seq fun K154 hK154 => ?_
                refine good_region rfl ?_
                refine ev_q rfl (q_move (by conv => lhs; whnf) ?_)
                refine ev_q rfl (q_int rfl rfl ?_)
                intro b155 hb155; cases b155
                · replace hb155 := eqF hb155
                  rw [if_neg (by omega)] at hy
                  refine ev_nil (hK154 _ ?_); clear hK154
                  refine good_condF rfl ?_
                  refine good_skip (hK153 _ ?_); clear hK153
                  refine good_seq fun K156 hK156 => ?_
                  refine good_region rfl ?_
                  refine ev_q rfl (q_move (by conv => lhs; whnf) ?_)
                  refine ev_q rfl (q_assign (by conv => lhs; whnf) ?_)
                  refine ev_q rfl (q_assign (by conv => lhs; whnf) ?_)
                  refine ev_nil (hK156 _ ?_); clear hK156
                  refine good_ret ?_
                  repeat (first | refine thenQ_ret ?_ | refine blockQ_ret ?_)
                  refine ret_many rfl ?_
                  refine res_tmp (by conv => lhs; whnf) rfl ?_
                  refine res_tmp (by conv => lhs; whnf) rfl ?_
                  refine res_nil ?_
                  clear hK149
                  first | exact fTup1 (fI (rdN_no hc).symm) (fTup1 (fF hc) rfl) | exact fTup1 (fI (by rw [hy.2]; first | done | omega)) (fTup1 (fT hy.1) rfl)
                · replace hb155 := eqT hb155
                  rw [if_pos (by omega)] at hy
                  refine ev_nil (hK154 _ ?_); clear hK154
                  refine good_condT rfl ?_
                  refine good_region rfl ?_
                  refine ev_q rfl (q_move (by conv => lhs; whnf) ?_)
                  refine ev_q rfl (q_neg rfl ?_)
                  intro n157 hn157
                  replace hn157 := neg64 hn157 (by omega) (by omega)
                  refine ev_q rfl (q_assign (by conv => lhs; whnf) ?_)
                  refine ev_nil (hK153 _ ?_); clear hK153
                  refine good_seq fun K158 hK158 => ?_
                  refine good_region rfl ?_
                  refine ev_q rfl (q_move (by conv => lhs; whnf) ?_)
                  refine ev_q rfl (q_assign (by conv => lhs; whnf) ?_)
                  refine ev_q rfl (q_assign (by conv => lhs; whnf) ?_)
                  refine ev_nil (hK158 _ ?_); clear hK158
                  refine good_ret ?_
                  repeat (first | refine thenQ_ret ?_ | refine blockQ_ret ?_)
                  refine ret_many rfl ?_
                  refine res_tmp (by conv => lhs; whnf) rfl ?_
                  refine res_tmp (by conv => lhs; whnf) rfl ?_
                  refine res_nil ?_
                  clear hK149
                  first | exact fTup1 (fI (rdN_no hc).symm) (fTup1 (fF hc) rfl) | exact fTup1 (fI (by rw [hy.2]; first | done | omega)) (fTup1 (fT hy.1) rfl)
              · replace hb152 := dT hb152
                obtain ⟨u, hu⟩ := getB (s := s) (i := i) (by omega)
                have hnl := numV_lt2 hJ (by omega) h18
                refine ev_nil (hK150 _ ?_); clear hK150
                refine good_condT rfl ?_
                refine good_skip (hK149 _ ?_); clear hK149
                refine good_seq fun K159 hK159 => ?_
                refine good_block ?_
                refine good_seq fun K160 hK160 => ?_
                refine good_seq fun K161 hK161 => ?_
                refine good_region rfl ?_
                refine ev_q rfl (q_move (by conv => lhs; whnf) ?_)
                refine ev_q rfl (q_move (by conv => lhs; whnf) ?_)
                refine ev_q rfl (q_indexS tStr9 rfl rfl (by first | decide | exact Int.natCast_nonneg _ | omega) (by exact hu) ?_)
                intro n162 hn162
                subst hn162
                refine ev_q rfl (q_callB rfl rfl (rfl) (D_spec_l01Digit ..) ?_)
                intro b163 hb163; cases b163
                · first | replace hb163 := dF hb163 | skip
                  have hc := num_n4 rfl hI hu hb163
                  refine ev_q rfl (q_not rfl rfl ?_)
                  refine ev_nil (hK161 _ ?_); clear hK161
                  refine good_condT rfl ?_
                  refine good_seq fun K164 hK164 => ?_
                  refine good_region rfl ?_
                  refine ev_q rfl (q_assign (by conv => lhs; whnf) ?_)
                  refine ev_q rfl (q_assign (by conv => lhs; whnf) ?_)
                  refine ev_nil (hK164 _ ?_); clear hK164
                  refine good_ret ?_
                  repeat (first | refine thenQ_ret ?_ | refine blockQ_ret ?_)
                  refine ret_many rfl ?_
                  refine res_tmp (by conv => lhs; whnf) rfl ?_
                  refine res_tmp (by conv => lhs; whnf) rfl ?_
                  refine res_nil ?_
                  clear hK147 hK159 hK160
                  first | exact fTup1 (fI (rdN_no hc).symm) (fTup1 (fF hc) rfl) | exact fTup1 (fI (by rw [hy.2]; first | done | omega)) (fTup1 (fT hy.1) rfl)
                · first | replace hb163 := dT hb163 | skip
                  have hdg : dig u := hb163
                  refine ev_q rfl (q_not rfl rfl ?_)
                  refine ev_nil (hK161 _ ?_); clear hK161
                  refine good_condF rfl ?_
                  refine good_skip (hK160 _ ?_); clear hK160
                  refine good_region rfl ?_
                  refine ev_q rfl (q_move (by conv => lhs; whnf) ?_)
                  refine ev_q rfl (q_int rfl rfl ?_)
                  intro n165 hn165
                  replace hn165 := in64 hn165 (by omega) (by omega)
                  refine ev_q rfl (q_move (by conv => lhs; whnf) ?_)
                  refine ev_q rfl (q_move (by conv => lhs; whnf) ?_)
                  refine ev_q rfl (q_indexS tStr9 rfl rfl (by first | decide | exact Int.natCast_nonneg _ | omega) (by exact hu) ?_)
                  intro n166 hn166
                  subst hn166
                  refine ev_q rfl (q_int rfl rfl ?_)
                  intro n167 hn167
                  replace hn167 := u8w hn167 (by have := hdg.1; omega) (by have := u.toNat_lt; omega)
                  refine ev_q rfl (q_conv tK5 tK2 rfl ?_)
                  intro n168 hn168
                  replace hn168 := in64 hn168 (by omega) (by omega)
                  refine ev_q rfl (q_int rfl rfl ?_)
                  intro n169 hn169
                  replace hn169 := in64 hn169 (by omega) (by omega)
                  refine ev_q rfl (q_assign (by conv => lhs; whnf) ?_)
                  refine ev_nil (hK159 _ ?_); clear hK159
                  refine good_region rfl ?_
                  refine ev_q rfl (q_move (by conv => lhs; whnf) ?_)
                  refine ev_q rfl (q_int rfl rfl ?_)
                  intro n170 hn170
                  replace hn170 := in64 hn170 (by omega) (by omega)
                  refine ev_q rfl (q_assign (by conv => lhs; whnf) ?_)
                  refine ev_nil ?_
                  clear hK147
                  refine ⟨i + 1, ?_, ?_, ?_⟩
                  · exact ⟨by omega, by omega, dig_ext hJ hu hdg⟩
                  · first | omega | (simp only []; omega) | (dsimp only; omega)
                  · refine sub_weak ?_ ?_
                    · exact weakH_none _
                    · refine weakE_upd ?e6 ?r6 (weakE_upd ?e5 ?r5 (weakE_upd ?e4 ?r4 (weakE_upd ?e0 ?r0 (weakE_junk _ _))))
                      case e0 => first | rfl | exact fI (by omega) | (simp_all)
                      case r0 => intro h hh; cases hh
                      case e4 => first | rfl | exact fI (by omega) | (simp_all)
                      case r4 => intro h hh; cases hh
                      case e5 => first | rfl | exact fI (by omega) | (first | exact fI numV_0.symm | exact fI numV_0 | exact fI (by rw [numV_s hI hu hdg]; omega))
                      case r5 => intro h hh; cases hh
                      case e6 => first | rfl | exact fI (by omega) | (simp_all)
                      case r6 => intro h hh; cases hh
          · replace hb145 := eqT hb145
            refine ev_q rfl (q_move (by conv => lhs; whnf) ?_)
            refine ev_q rfl (q_move (by conv => lhs; whnf) ?_)
            refine ev_q rfl (q_lenS tStr9 rfl ?_)
            intro n171 hn171
            refine ev_q rfl (q_int rfl rfl ?_)
            intro b172 hb172; cases b172
            · replace hb172 := dF hb172
              have hz : ¬ ((ua.toNat : Int) = 48 ∧ (s.size : Int) > 1) := by omega
              refine ev_q rfl (q_pickT rfl (by conv => lhs; whnf) ?_)
              refine ev_q rfl (q_pickF rfl (by conv => lhs; whnf) ?_)
              refine ev_nil (hK138 _ ?_); clear hK138
              refine good_condF rfl ?_
              refine good_skip (hK137 _ ?_); clear hK137
              refine good_seq fun K173 hK173 => ?_
              refine good_region rfl ?_
              refine ev_q rfl (q_assign (by conv => lhs; whnf) ?_)
              refine ev_nil (hK173 _ ?_); clear hK173
              refine good_seq fun K174 hK174 => ?_
              refine good_seq fun K175 hK175 => ?_
              refine good_region rfl ?_
              refine ev_q rfl (q_move (by conv => lhs; whnf) ?_)
              refine ev_q rfl (q_assign (by conv => lhs; whnf) ?_)
              refine ev_nil (hK175 _ ?_); clear hK175
              refine good_block ?_
              refine good_loop (α := Nat) (fun i => { env := upd (upd (upd (upd ((fun _ => .junk)) 0 (.s (.string s))) 4 (.s (.int .i64 ((sg s : Int))))) 5 (.s (.int .i64 (numV s (sg s) i)))) 6 (.s (.int .i64 ((i : Int)))), H := fun _ => none }) (fun i => sg s ≤ i ∧ i ≤ s.size ∧ ∀ j u, sg s ≤ j → j < i → s[j]? = some u → dig u) (fun i => s.size - i) (sg s) ?_ ?_ ?_
              · exact ⟨Nat.le_refl _, hle, fun j u h1 h2 => by omega⟩
              · refine sub_weak ?_ ?_
                · exact weakH_none _
                · refine weakE_upd ?e6 ?r6 (weakE_upd ?e5 ?r5 (weakE_upd ?e4 ?r4 (weakE_upd ?e0 ?r0 (weakE_junk _ _))))
                  case e0 => first | rfl | exact fI (by omega) | (simp_all)
                  case r0 => intro h hh; cases hh
                  case e4 => first | rfl | exact fI (by omega) | (simp_all)
                  case r4 => intro h hh; cases hh
                  case e5 => first | rfl | exact fI (by omega) | (first | exact fI numV_0.symm | exact fI numV_0 | exact fI (by rw [numV_s hI hu hdg]; omega))
                  case r5 => intro h hh; cases hh
                  case e6 => first | rfl | exact fI (by omega) | (simp_all)
                  case r6 => intro h hh; cases hh
              · rintro i ⟨hI, hI2, hJ⟩
                refine good_seq fun K176 hK176 => ?_
                refine good_seq fun K177 hK177 => ?_
                refine good_region rfl ?_
                refine ev_q rfl (q_move (by conv => lhs; whnf) ?_)
                refine ev_q rfl (q_move (by conv => lhs; whnf) ?_)
                refine ev_q rfl (q_lenS tStr9 rfl ?_)
                intro n178 hn178
                refine ev_q rfl (q_int rfl rfl ?_)
                intro b179 hb179; cases b179
                · replace hb179 := dF hb179
                  obtain rfl : i = s.size := by omega
                  have hnl := numV_lt hJ (Nat.le_refl _) h18
                  have hy := num_y rfl h0a h18 hle hua hz hJ
                  refine ev_nil (hK177 _ ?_); clear hK177
                  refine good_condF rfl ?_
                  refine good_exit ?_
                  repeat (first | refine thenQ_exit ?_ | refine blockQ_pass rfl ?_)
                  refine blockQ_exit (hK174 _ ?_); clear hK174
                  refine good_seq fun K180 hK180 => ?_
                  refine good_seq fun K181 hK181 => ?_
                  refine good_region rfl ?_
                  refine ev_q rfl (q_move (by conv => lhs; whnf) ?_)
                  refine ev_q rfl (q_int rfl rfl ?_)
                  intro b182 hb182; cases b182
                  · replace hb182 := eqF hb182
                    rw [if_neg (by omega)] at hy
                    refine ev_nil (hK181 _ ?_); clear hK181
                    refine good_condF rfl ?_
                    refine good_skip (hK180 _ ?_); clear hK180
                    refine good_seq fun K183 hK183 => ?_
                    refine good_region rfl ?_
                    refine ev_q rfl (q_move (by conv => lhs; whnf) ?_)
                    refine ev_q rfl (q_assign (by conv => lhs; whnf) ?_)
                    refine ev_q rfl (q_assign (by conv => lhs; whnf) ?_)
                    refine ev_nil (hK183 _ ?_); clear hK183
                    refine good_ret ?_
                    repeat (first | refine thenQ_ret ?_ | refine blockQ_ret ?_)
                    refine ret_many rfl ?_
                    refine res_tmp (by conv => lhs; whnf) rfl ?_
                    refine res_tmp (by conv => lhs; whnf) rfl ?_
                    refine res_nil ?_
                    clear hK176
                    first | exact fTup1 (fI (rdN_no hc).symm) (fTup1 (fF hc) rfl) | exact fTup1 (fI (by rw [hy.2]; first | done | omega)) (fTup1 (fT hy.1) rfl)
                  · replace hb182 := eqT hb182
                    rw [if_pos (by omega)] at hy
                    refine ev_nil (hK181 _ ?_); clear hK181
                    refine good_condT rfl ?_
                    refine good_region rfl ?_
                    refine ev_q rfl (q_move (by conv => lhs; whnf) ?_)
                    refine ev_q rfl (q_neg rfl ?_)
                    intro n184 hn184
                    replace hn184 := neg64 hn184 (by omega) (by omega)
                    refine ev_q rfl (q_assign (by conv => lhs; whnf) ?_)
                    refine ev_nil (hK180 _ ?_); clear hK180
                    refine good_seq fun K185 hK185 => ?_
                    refine good_region rfl ?_
                    refine ev_q rfl (q_move (by conv => lhs; whnf) ?_)
                    refine ev_q rfl (q_assign (by conv => lhs; whnf) ?_)
                    refine ev_q rfl (q_assign (by conv => lhs; whnf) ?_)
                    refine ev_nil (hK185 _ ?_); clear hK185
                    refine good_ret ?_
                    repeat (first | refine thenQ_ret ?_ | refine blockQ_ret ?_)
                    refine ret_many rfl ?_
                    refine res_tmp (by conv => lhs; whnf) rfl ?_
                    refine res_tmp (by conv => lhs; whnf) rfl ?_
                    refine res_nil ?_
                    clear hK176
                    first | exact fTup1 (fI (rdN_no hc).symm) (fTup1 (fF hc) rfl) | exact fTup1 (fI (by rw [hy.2]; first | done | omega)) (fTup1 (fT hy.1) rfl)
                · replace hb179 := dT hb179
                  obtain ⟨u, hu⟩ := getB (s := s) (i := i) (by omega)
                  have hnl := numV_lt2 hJ (by omega) h18
                  refine ev_nil (hK177 _ ?_); clear hK177
                  refine good_condT rfl ?_
                  refine good_skip (hK176 _ ?_); clear hK176
                  refine good_seq fun K186 hK186 => ?_
                  refine good_block ?_
                  refine good_seq fun K187 hK187 => ?_
                  refine good_seq fun K188 hK188 => ?_
                  refine good_region rfl ?_
                  refine ev_q rfl (q_move (by conv => lhs; whnf) ?_)
                  refine ev_q rfl (q_move (by conv => lhs; whnf) ?_)
                  refine ev_q rfl (q_indexS tStr9 rfl rfl (by first | decide | exact Int.natCast_nonneg _ | omega) (by exact hu) ?_)
                  intro n189 hn189
                  subst hn189
                  refine ev_q rfl (q_callB rfl rfl (rfl) (D_spec_l01Digit ..) ?_)
                  intro b190 hb190; cases b190
                  · first | replace hb190 := dF hb190 | skip
                    have hc := num_n4 rfl hI hu hb190
                    refine ev_q rfl (q_not rfl rfl ?_)
                    refine ev_nil (hK188 _ ?_); clear hK188
                    refine good_condT rfl ?_
                    refine good_seq fun K191 hK191 => ?_
                    refine good_region rfl ?_
                    refine ev_q rfl (q_assign (by conv => lhs; whnf) ?_)
                    refine ev_q rfl (q_assign (by conv => lhs; whnf) ?_)
                    refine ev_nil (hK191 _ ?_); clear hK191
                    refine good_ret ?_
                    repeat (first | refine thenQ_ret ?_ | refine blockQ_ret ?_)
                    refine ret_many rfl ?_
                    refine res_tmp (by conv => lhs; whnf) rfl ?_
                    refine res_tmp (by conv => lhs; whnf) rfl ?_
                    refine res_nil ?_
                    clear hK174 hK186 hK187
                    first | exact fTup1 (fI (rdN_no hc).symm) (fTup1 (fF hc) rfl) | exact fTup1 (fI (by rw [hy.2]; first | done | omega)) (fTup1 (fT hy.1) rfl)
                  · first | replace hb190 := dT hb190 | skip
                    have hdg : dig u := hb190
                    refine ev_q rfl (q_not rfl rfl ?_)
                    refine ev_nil (hK188 _ ?_); clear hK188
                    refine good_condF rfl ?_
                    refine good_skip (hK187 _ ?_); clear hK187
                    refine good_region rfl ?_
                    refine ev_q rfl (q_move (by conv => lhs; whnf) ?_)
                    refine ev_q rfl (q_int rfl rfl ?_)
                    intro n192 hn192
                    replace hn192 := in64 hn192 (by omega) (by omega)
                    refine ev_q rfl (q_move (by conv => lhs; whnf) ?_)
                    refine ev_q rfl (q_move (by conv => lhs; whnf) ?_)
                    refine ev_q rfl (q_indexS tStr9 rfl rfl (by first | decide | exact Int.natCast_nonneg _ | omega) (by exact hu) ?_)
                    intro n193 hn193
                    subst hn193
                    refine ev_q rfl (q_int rfl rfl ?_)
                    intro n194 hn194
                    replace hn194 := u8w hn194 (by have := hdg.1; omega) (by have := u.toNat_lt; omega)
                    refine ev_q rfl (q_conv tK5 tK2 rfl ?_)
                    intro n195 hn195
                    replace hn195 := in64 hn195 (by omega) (by omega)
                    refine ev_q rfl (q_int rfl rfl ?_)
                    intro n196 hn196
                    replace hn196 := in64 hn196 (by omega) (by omega)
                    refine ev_q rfl (q_assign (by conv => lhs; whnf) ?_)
                    refine ev_nil (hK186 _ ?_); clear hK186
                    refine good_region rfl ?_
                    refine ev_q rfl (q_move (by conv => lhs; whnf) ?_)
                    refine ev_q rfl (q_int rfl rfl ?_)
                    intro n197 hn197
                    replace hn197 := in64 hn197 (by omega) (by omega)
                    refine ev_q rfl (q_assign (by conv => lhs; whnf) ?_)
                    refine ev_nil ?_
                    clear hK174
                    refine ⟨i + 1, ?_, ?_, ?_⟩
                    · exact ⟨by omega, by omega, dig_ext hJ hu hdg⟩
                    · first | omega | (simp only []; omega) | (dsimp only; omega)
                    · refine sub_weak ?_ ?_
                      · exact weakH_none _
                      · refine weakE_upd ?e6 ?r6 (weakE_upd ?e5 ?r5 (weakE_upd ?e4 ?r4 (weakE_upd ?e0 ?r0 (weakE_junk _ _))))
                        case e0 => first | rfl | exact fI (by omega) | (simp_all)
                        case r0 => intro h hh; cases hh
                        case e4 => first | rfl | exact fI (by omega) | (simp_all)
                        case r4 => intro h hh; cases hh
                        case e5 => first | rfl | exact fI (by omega) | (first | exact fI numV_0.symm | exact fI numV_0 | exact fI (by rw [numV_s hI hu hdg]; omega))
                        case r5 => intro h hh; cases hh
                        case e6 => first | rfl | exact fI (by omega) | (simp_all)
                        case r6 => intro h hh; cases hh
            · replace hb172 := dT hb172
              have hc := num_n3 ha hua2 (by omega) (by omega)
              refine ev_q rfl (q_pickT rfl (by conv => lhs; whnf) ?_)
              refine ev_q rfl (q_pickF rfl (by conv => lhs; whnf) ?_)
              refine ev_nil (hK138 _ ?_); clear hK138
              refine good_condT rfl ?_
              refine good_seq fun K198 hK198 => ?_
              refine good_region rfl ?_
              refine ev_q rfl (q_assign (by conv => lhs; whnf) ?_)
              refine ev_q rfl (q_assign (by conv => lhs; whnf) ?_)
              refine ev_nil (hK198 _ ?_); clear hK198
              refine good_ret ?_
              repeat (first | refine thenQ_ret ?_ | refine blockQ_ret ?_)
              refine ret_many rfl ?_
              refine res_tmp (by conv => lhs; whnf) rfl ?_
              refine res_tmp (by conv => lhs; whnf) rfl ?_
              refine res_nil ?_
              clear hK137
              first | exact fTup1 (fI (rdN_no hc).symm) (fTup1 (fF hc) rfl) | exact fTup1 (fI (by rw [hy.2]; first | done | omega)) (fTup1 (fT hy.1) rfl)
        · replace hb143 := dT hb143
          have hc := num_n2 ha (by omega)
          refine ev_q rfl (q_pickF rfl (by conv => lhs; whnf) ?_)
          refine ev_q rfl (q_move (by conv => lhs; whnf) ?_)
          refine ev_skip rfl ?_
          refine ev_skip rfl ?_
          refine ev_skip rfl ?_
          refine ev_skip rfl ?_
          refine ev_skip rfl ?_
          refine ev_skip rfl ?_
          refine ev_skip rfl ?_
          refine ev_skip rfl ?_
          refine ev_skip rfl ?_
          refine ev_q rfl (q_pickT rfl (by conv => lhs; whnf) ?_)
          refine ev_nil (hK138 _ ?_); clear hK138
          refine good_condT rfl ?_
          refine good_seq fun K199 hK199 => ?_
          refine good_region rfl ?_
          refine ev_q rfl (q_assign (by conv => lhs; whnf) ?_)
          refine ev_q rfl (q_assign (by conv => lhs; whnf) ?_)
          refine ev_nil (hK199 _ ?_); clear hK199
          refine good_ret ?_
          repeat (first | refine thenQ_ret ?_ | refine blockQ_ret ?_)
          refine ret_many rfl ?_
          refine res_tmp (by conv => lhs; whnf) rfl ?_
          refine res_tmp (by conv => lhs; whnf) rfl ?_
          refine res_nil ?_
          clear hK137
          first | exact fTup1 (fI (rdN_no hc).symm) (fTup1 (fF hc) rfl) | exact fTup1 (fI (by rw [hy.2]; first | done | omega)) (fTup1 (fT hy.1) rfl)
      · replace hb140 := eqT hb140
        have hc := num_n1 ha (by omega)
        refine ev_q rfl (q_move (by conv => lhs; whnf) ?_)
        refine ev_skip rfl ?_
        refine ev_skip rfl ?_
        refine ev_skip rfl ?_
        refine ev_skip rfl ?_
        refine ev_skip rfl ?_
        refine ev_q rfl (q_pickT rfl (by conv => lhs; whnf) ?_)
        refine ev_q rfl (q_move (by conv => lhs; whnf) ?_)
        refine ev_skip rfl ?_
        refine ev_skip rfl ?_
        refine ev_skip rfl ?_
        refine ev_skip rfl ?_
        refine ev_skip rfl ?_
        refine ev_skip rfl ?_
        refine ev_skip rfl ?_
        refine ev_skip rfl ?_
        refine ev_skip rfl ?_
        refine ev_q rfl (q_pickT rfl (by conv => lhs; whnf) ?_)
        refine ev_nil (hK138 _ ?_); clear hK138
        refine good_condT rfl ?_
        refine good_seq fun K200 hK200 => ?_
        refine good_region rfl ?_
        refine ev_q rfl (q_assign (by conv => lhs; whnf) ?_)
        refine ev_q rfl (q_assign (by conv => lhs; whnf) ?_)
        refine ev_nil (hK200 _ ?_); clear hK200
        refine good_ret ?_
        repeat (first | refine thenQ_ret ?_ | refine blockQ_ret ?_)
        refine ret_many rfl ?_
        refine res_tmp (by conv => lhs; whnf) rfl ?_
        refine res_tmp (by conv => lhs; whnf) rfl ?_
        refine res_nil ?_
        clear hK137
        first | exact fTup1 (fI (rdN_no hc).symm) (fTup1 (fF hc) rfl) | exact fTup1 (fI (by rw [hy.2]; first | done | omega)) (fTup1 (fT hy.1) rfl)

-- spec.l01Split
set_option maxRecDepth 20000 in
set_option maxHeartbeats 2000000 in
theorem D_spec_l01Split (c : UInt8) (s : ByteArray) (hs : s.size ≤ 1048576) : Den Tryd.prog 71 [.s (.string s), .s (.int .u8 c.toNat)] (.lst 1 ((pieces c s).map stA)) := by
  refine den_of_good Tryd.func71 (by decide) rfl (Nat.le_of_ble_eq_true rfl) (Nat.le_of_ble_eq_true rfl) ?_
  refine good_seq fun K1 hK1 => ?_
  refine good_region rfl ?_
  refine ev_q rfl (q_assign (by conv => lhs; whnf) ?_)
  refine ev_nil (hK1 _ ?_); clear hK1
  refine good_seq fun K2 hK2 => ?_
  refine good_region rfl ?_
  refine ev_k rfl (k_lit tE86 zA9 rfl rfl (by decide) (by decide) rfl rfl rfl ?_)
  refine ev_q rfl (q_assign (by conv => lhs; whnf) ?_)
  refine ev_nil (hK2 _ ?_); clear hK2
  refine good_seq fun K3 hK3 => ?_
  refine good_region rfl ?_
  refine ev_q rfl (q_assign (by conv => lhs; whnf) ?_)
  refine ev_nil (hK3 _ ?_); clear hK3
  refine good_seq fun K4 hK4 => ?_
  refine good_seq fun K5 hK5 => ?_
  refine good_region rfl ?_
  refine ev_q rfl (q_assign (by conv => lhs; whnf) ?_)
  refine ev_nil (hK5 _ ?_); clear hK5
  refine good_block ?_
  refine good_loop (α := List (List UInt8) × Nat × Nat) (fun (o, f, i) => { env := upd (upd (upd (upd (upd ((fun _ => .junk)) 0 (.s (.string s))) 1 (.s (.int .u8 c.toNat))) 5 (.own 26 o.length)) 6 (.s (.int .i64 ((f : Int))))) 7 (.s (.int .i64 ((i : Int)))), H := upd ((fun _ => none)) 26 (some (.row 9 1 (o.map pAV))) }) (fun (o, f, i) => ((f ≤ i ∧ i ≤ s.size) ∧ o.length ≤ i) ∧ pcs c s.data.toList = o ++ pcs c (s.data.toList.drop f) ∧ ∀ j b, f ≤ j → j < i → s[j]? = some b → b ≠ c) (fun (o, f, i) => s.size - i) ([], 0, 0) ?_ ?_ ?_
  · exact ⟨⟨⟨Nat.le_refl _, Nat.zero_le _⟩, Nat.le_refl _⟩, rfl, fun j b h1 h2 => absurd h2 (Nat.not_lt_zero _)⟩
  · refine Sub.trans (sub_move 5 8 26 rfl rfl rfl (by decide)) ?_
    refine sub_weak ?_ ?_
    · exact weakH_row (rowEq (rfl)) (weakH_none _)
    · refine weakE_upd ?e7 ?r7 (weakE_upd ?e6 ?r6 (weakE_upd ?e5 ?r5 (weakE_upd ?e1 ?r1 (weakE_upd ?e0 ?r0 (weakE_junk _ _)))))
      case e0 => first | rfl | exact fI (by omega) | (simp_all)
      case r0 => intro h hh; cases hh
      case e1 => first | rfl | exact fI (by omega) | (simp_all)
      case r1 => intro h hh; cases hh
      case e5 => first | rfl | exact fI (by omega) | (first | rfl | exact ownEq (by simp))
      case r5 => intro h hh; simp [refs] at hh; subst hh; rfl
      case e6 => first | rfl | exact fI (by omega) | (simp_all)
      case r6 => intro h hh; cases hh
      case e7 => first | rfl | exact fI (by omega) | (simp_all)
      case r7 => intro h hh; cases hh
  · rintro ⟨o, f, i⟩ ⟨⟨hI, hol⟩, hP, hJ⟩
    refine good_seq fun K6 hK6 => ?_
    refine good_seq fun K7 hK7 => ?_
    refine good_region rfl ?_
    refine ev_q rfl (q_move (by conv => lhs; whnf) ?_)
    refine ev_q rfl (q_move (by conv => lhs; whnf) ?_)
    refine ev_q rfl (q_lenS tStr9 rfl ?_)
    intro n8 hn8
    refine ev_q rfl (q_int rfl rfl ?_)
    intro b9 hb9; cases b9
    · replace hb9 := dF hb9
      obtain rfl : i = s.size := by omega
      refine ev_nil (hK7 _ ?_); clear hK7
      refine good_condF rfl ?_
      refine good_exit ?_
      repeat (first | refine thenQ_exit ?_ | refine blockQ_pass rfl ?_)
      refine blockQ_exit (hK4 _ ?_); clear hK4
      refine good_seq fun K10 hK10 => ?_
      refine good_region rfl ?_
      refine ev_q rfl (q_move (by conv => lhs; whnf) ?_)
      refine ev_q rfl (q_move (by conv => lhs; whnf) ?_)
      refine ev_q rfl (q_move (by conv => lhs; whnf) ?_)
      refine ev_q rfl (q_sliceS tStr9 rfl rfl rfl (by omega) (by omega) (by omega) ?_)
      intro l11 hl11
      have hx2 : l11 = s.extract f s.size := hl11
      refine ev_k rfl (k_lit tE86 zA9 rfl rfl (by decide) (by decide) rfl rfl rfl ?_)
      refine ev_k rfl (k_app tApp86 rfl rfl (by simp) rfl (.inl rfl) (by first | (simp [maxLen]; done) | (simp [maxLen]; omega)) (by first | (simp; done) | (simp; omega)) ?_)
      refine ev_q rfl (q_assign (by conv => lhs; whnf) ?_)
      refine ev_nil (hK10 _ ?_); clear hK10
      refine good_ret ?_
      repeat (first | refine thenQ_ret ?_ | refine blockQ_ret ?_)
      refine ret_tmp (st := _) rfl (by conv => lhs; whnf) rfl ?_
      clear hK6
      exact lstEq (by rw [List.take_of_length_le (by simp)]; exact sp_end hP hx2 hJ)
    · replace hb9 := dT hb9
      obtain ⟨u, hu⟩ := getB (s := s) (i := i) (by omega)
      refine ev_nil (hK7 _ ?_); clear hK7
      refine good_condT rfl ?_
      refine good_skip (hK6 _ ?_); clear hK6
      refine good_seq fun K12 hK12 => ?_
      refine good_block ?_
      refine good_seq fun K13 hK13 => ?_
      refine good_region rfl ?_
      refine ev_q rfl (q_move (by conv => lhs; whnf) ?_)
      refine ev_q rfl (q_move (by conv => lhs; whnf) ?_)
      refine ev_q rfl (q_indexS tStr9 rfl rfl (by exact Int.natCast_nonneg _) (by exact hu) ?_)
      intro n14 hn14
      refine ev_q rfl (q_move (by conv => lhs; whnf) ?_)
      refine ev_q rfl (q_int rfl rfl ?_)
      intro b15 hb15; cases b15
      · replace hb15 := eqF hb15
        have hne : u ≠ c := fun e => by subst e; omega
        refine ev_nil (hK13 _ ?_); clear hK13
        refine good_condF rfl ?_
        refine good_skip (hK12 _ ?_); clear hK12
        refine good_region rfl ?_
        refine ev_q rfl (q_move (by conv => lhs; whnf) ?_)
        refine ev_q rfl (q_int rfl rfl ?_)
        intro n16 hn16
        replace hn16 := in64 hn16 (by omega) (by omega)
        refine ev_q rfl (q_assign (by conv => lhs; whnf) ?_)
        refine ev_nil ?_
        clear hK4
        refine ⟨(o, f, i + 1), ?_, ?_, ?_⟩
        · exact ⟨⟨⟨by show f ≤ i + 1; omega, by show i + 1 ≤ s.size; omega⟩, by show o.length ≤ i + 1; omega⟩, hP, ne_ext hJ hu hne⟩
        · show s.size - (i + 1) < s.size - i; omega
        · refine sub_weak ?_ ?_
          · exact weakH_row (rowEq (by first | rfl | exact appG rfl hx)) (weakH_none _)
          · refine weakE_upd ?e7 ?r7 (weakE_upd ?e6 ?r6 (weakE_upd ?e5 ?r5 (weakE_upd ?e1 ?r1 (weakE_upd ?e0 ?r0 (weakE_junk _ _)))))
            case e0 => first | rfl | exact fI (by omega) | (simp_all)
            case r0 => intro h hh; cases hh
            case e1 => first | rfl | exact fI (by omega) | (simp_all)
            case r1 => intro h hh; cases hh
            case e5 => first | rfl | exact fI (by omega) | (first | rfl | exact ownEq (by simp))
            case r5 => intro h hh; simp [refs] at hh; subst hh; rfl
            case e6 => first | rfl | exact fI (by omega) | (simp_all)
            case r6 => intro h hh; cases hh
            case e7 => first | rfl | exact fI (by omega) | (simp_all)
            case r7 => intro h hh; cases hh
      · replace hb15 := eqT hb15
        rw [u8eq (a := u) (b := c) (by omega)] at hu
        refine ev_nil (hK13 _ ?_); clear hK13
        refine good_condT rfl ?_
        refine good_seq fun K17 hK17 => ?_
        refine good_region rfl ?_
        refine ev_q rfl (q_move (by conv => lhs; whnf) ?_)
        refine ev_q rfl (q_move (by conv => lhs; whnf) ?_)
        refine ev_q rfl (q_move (by conv => lhs; whnf) ?_)
        refine ev_q rfl (q_move (by conv => lhs; whnf) ?_)
        refine ev_q rfl (q_sliceS tStr9 rfl rfl rfl (by omega) (by omega) (by omega) ?_)
        intro l18 hl18
        have hx := ext0 (s := s) (f := f) (i := i) hl18
        refine ev_k rfl (k_lit tE86 zA9 rfl rfl (by decide) (by decide) rfl rfl rfl ?_)
        refine ev_k rfl (k_app tApp86 rfl rfl (by simp) rfl (.inr rfl) (by first | (simp [maxLen]; done) | (simp [maxLen]; omega)) (by first | (simp; done) | (simp; omega)) ?_)
        refine ev_q rfl (q_assign (by conv => lhs; whnf) ?_)
        refine ev_nil (hK17 _ ?_); clear hK17
        refine good_region rfl ?_
        refine ev_q rfl (q_move (by conv => lhs; whnf) ?_)
        refine ev_q rfl (q_int rfl rfl ?_)
        intro n19 hn19
        replace hn19 := in64 hn19 (by omega) (by omega)
        refine ev_q rfl (q_assign (by conv => lhs; whnf) ?_)
        refine ev_nil (hK12 _ ?_); clear hK12
        refine good_region rfl ?_
        refine ev_q rfl (q_move (by conv => lhs; whnf) ?_)
        refine ev_q rfl (q_int rfl rfl ?_)
        intro n20 hn20
        replace hn20 := in64 hn20 (by omega) (by omega)
        refine ev_q rfl (q_assign (by conv => lhs; whnf) ?_)
        refine ev_nil ?_
        clear hK4
        refine ⟨(o ++ [(s.extract f i).data.toList], i + 1, i + 1), ?_, ?_, ?_⟩
        · exact ⟨⟨⟨Nat.le_refl _, by show i + 1 ≤ s.size; omega⟩, by simp; omega⟩, pc_hit hP hI.1 hu hJ, fun j b h1 h2 => by have h1 : i + 1 ≤ j := h1; have h2 : j < i + 1 := h2; omega⟩
        · show s.size - (i + 1) < s.size - i; omega
        · refine sub_weak ?_ ?_
          · exact weakH_row (rowEq (by first | rfl | exact appG rfl hx)) (weakH_none _)
          · refine weakE_upd ?e7 ?r7 (weakE_upd ?e6 ?r6 (weakE_upd ?e5 ?r5 (weakE_upd ?e1 ?r1 (weakE_upd ?e0 ?r0 (weakE_junk _ _)))))
            case e0 => first | rfl | exact fI (by omega) | (simp_all)
            case r0 => intro h hh; cases hh
            case e1 => first | rfl | exact fI (by omega) | (simp_all)
            case r1 => intro h hh; cases hh
            case e5 => first | rfl | exact fI (by omega) | (first | rfl | exact ownEq (by simp))
            case r5 => intro h hh; simp [refs] at hh; subst hh; rfl
            case e6 => first | rfl | exact fI (by omega) | (simp_all)
            case r6 => intro h hh; cases hh
            case e7 => first | rfl | exact fI (by omega) | (simp_all)
            case r7 => intro h hh; cases hh

-- spec.ReadList
set_option maxRecDepth 20000 in
set_option maxHeartbeats 2000000 in
theorem D_spec_ReadList_X (s : ByteArray) (hs : s.size ≤ 1048576) : DenX Tryd.prog 69 [] [.s (.string s)] [(900003, .row 2 1 ((rlL s).map ci))] (.tup [.own 900003 (rlL s).length, .s (.bool (decide (rlB s)))]) := by
  have hpl := pieces_len (c := 44) (s := s)
  refine denX_of_good Tryd.func69 (by decide) rfl (Nat.le_of_ble_eq_true rfl) (Nat.le_of_ble_eq_true rfl) rfl ?_
  refine good_seq fun K1 hK1 => ?_
  refine good_region rfl ?_
  refine ev_q rfl (q_assign (by conv => lhs; whnf) ?_)
  refine ev_q rfl (q_assign (by conv => lhs; whnf) ?_)
  refine ev_nil (hK1 _ ?_); clear hK1
  refine good_seq fun K2 hK2 => ?_
  refine good_seq fun K3 hK3 => ?_
  refine good_region rfl ?_
  refine ev_q rfl (q_move (by conv => lhs; whnf) ?_)
  refine ev_q rfl (q_str rfl rfl ?_)
  intro b4 hb4; cases b4
  · replace hb4 := seF hb4
    have hnd : ¬ s = tx [45] := hb4
    refine ev_nil (hK3 _ ?_); clear hK3
    refine good_condF rfl ?_
    refine good_skip (hK2 _ ?_); clear hK2
    refine good_seq fun K5 hK5 => ?_
    refine good_region rfl ?_
    refine ev_q rfl (q_move (by conv => lhs; whnf) ?_)
    refine ev_q rfl (q_call rfl rfl (rfl) (D_spec_l01Split 44 s hs) rfl ?_)
    refine ev_q rfl (q_assign (by conv => lhs; whnf) ?_)
    refine ev_nil (hK5 _ ?_); clear hK5
    refine good_seq fun K6 hK6 => ?_
    refine good_seq fun K7 hK7 => ?_
    refine good_region rfl ?_
    refine ev_q rfl (q_move (by conv => lhs; whnf) ?_)
    refine ev_q rfl (q_len tEs86 rfl ?_)
    intro n8 hn8
    try simp only [List.length_map] at hn8
    refine ev_q rfl (q_int rfl rfl ?_)
    intro b9 hb9; cases b9
    · replace hb9 := dF hb9
      refine ev_nil (hK7 _ ?_); clear hK7
      refine good_condF rfl ?_
      refine good_skip (hK6 _ ?_); clear hK6
      refine good_seq fun K10 hK10 => ?_
      refine good_region rfl ?_
      refine ev_k rfl (k_lit tE69 zA2 rfl rfl (by decide) (by decide) rfl rfl rfl ?_)
      refine ev_q rfl (q_assign (by conv => lhs; whnf) ?_)
      refine ev_nil (hK10 _ ?_); clear hK10
      refine good_seq fun K11 hK11 => ?_
      refine good_seq fun K12 hK12 => ?_
      refine good_region rfl ?_
      refine ev_q rfl (q_assign (by conv => lhs; whnf) ?_)
      refine ev_nil (hK12 _ ?_); clear hK12
      refine good_block ?_
      refine good_loop (α := Nat) (fun i => { env := upd (upd (upd (upd ((fun _ => .junk)) 0 (.s (.string s))) 4 (.lst 1 ((pieces 44 s).map stA))) 5 (.own 42 ((pieces 44 s).take i).length)) 6 (.s (.int .i64 ((i : Int)))), H := upd ((fun _ => none)) 42 (some (.row 2 1 ((((pieces 44 s).take i).map rdN).map ci))) }) (fun i => i ≤ (pieces 44 s).length ∧ ∀ j q, j < i → (pieces 44 s)[j]? = some q → rdB q ∧ inM (rdN q)) (fun i => (pieces 44 s).length - i) 0 ?_ ?_ ?_
      · exact ⟨Nat.zero_le _, fun j u hj => by omega⟩
      · refine Sub.trans (sub_move 5 17 42 rfl rfl rfl (by decide)) ?_
        refine sub_weak ?_ ?_
        · exact weakH_row (rowEq (rfl)) (weakH_none _)
        · refine weakE_upd ?e6 ?r6 (weakE_upd ?e5 ?r5 (weakE_upd ?e4 ?r4 (weakE_upd ?e0 ?r0 (weakE_junk _ _))))
          case e0 => first | rfl | exact fI (by omega) | (simp_all)
          case r0 => intro h hh; cases hh
          case e4 => first | rfl | exact fI (by omega) | (simp_all)
          case r4 => intro h hh; cases hh
          case e5 => first | rfl | exact fI (by omega) | (first | rfl | (rw [hst]; exact ownEq (by simp)))
          case r5 => intro h hh; simp [refs] at hh; subst hh; rfl
          case e6 => first | rfl | exact fI (by omega) | (simp_all)
          case r6 => intro h hh; cases hh
      · rintro i ⟨hI, hJ⟩
        refine good_seq fun K13 hK13 => ?_
        refine good_seq fun K14 hK14 => ?_
        refine good_region rfl ?_
        refine ev_q rfl (q_move (by conv => lhs; whnf) ?_)
        refine ev_q rfl (q_move (by conv => lhs; whnf) ?_)
        refine ev_q rfl (q_len tEs86 rfl ?_)
        intro n15 hn15
        try simp only [List.length_map] at hn15
        refine ev_q rfl (q_int rfl rfl ?_)
        intro b16 hb16; cases b16
        · replace hb16 := dF hb16
          obtain rfl : i = (pieces 44 s).length := by omega
          have hall : rlP s := ⟨by omega, fun p hp => by obtain ⟨j, hj⟩ := List.getElem?_of_mem hp; exact hJ j p (List.getElem?_eq_some_iff.1 hj).1 hj⟩
          have hee := rl_y hnd hall
          refine ev_nil (hK14 _ ?_); clear hK14
          refine good_condF rfl ?_
          refine good_exit ?_
          repeat (first | refine thenQ_exit ?_ | refine blockQ_pass rfl ?_)
          refine blockQ_exit (hK11 _ ?_); clear hK11
          refine good_seq fun K17 hK17 => ?_
          refine good_region rfl ?_
          refine ev_q rfl (q_move (by conv => lhs; whnf) ?_)
          refine ev_q rfl (q_assign (by conv => lhs; whnf) ?_)
          refine ev_q rfl (q_assign (by conv => lhs; whnf) ?_)
          refine ev_nil (hK17 _ ?_); clear hK17
          refine good_weak (sub_move 2 42 900003 rfl rfl rfl (by decide)) ?_
          refine good_ret ?_
          repeat (first | refine thenQ_ret ?_ | refine blockQ_ret ?_)
          refine fx_many rfl ?_
          refine fxs_tmp (by conv => lhs; whnf) ?_
          refine fxs_tmp (by conv => lhs; whnf) ?_
          refine fx_nil ?_
          clear hK13
          obtain ⟨e2, e⟩ := hee
          try rw [List.take_length]
          exact ⟨_, .tup (.cons (conv_eq (by first | rfl | (rw [e]; done) | (rw [e]; rfl) | exact ownEq (by first | omega | simp_all))) (.cons (conv_eq (by first | rfl | exact fT (by first | exact e2 | assumption) | exact fF (by first | exact e2 | assumption) | exact fT' (by first | exact e2 | assumption) | (exfalso; first | omega | grind))) (.nil))), weakH_row (rowEq (by first | (rw [e]; done) | (rw [e]; rfl))) (weakH_none _), refsIn_ok rfl⟩
        · replace hb16 := dT hb16
          obtain ⟨q, hq⟩ := getL (xs := (pieces 44 s)) (n := (i : Int)) (by omega) (by omega)
          replace hq : (pieces 44 s)[i]? = some q := hq
          have hst := takeS hq
          refine ev_nil (hK14 _ ?_); clear hK14
          refine good_condT rfl ?_
          refine good_skip (hK13 _ ?_); clear hK13
          refine good_seq fun K18 hK18 => ?_
          refine good_block ?_
          refine good_seq fun K19 hK19 => ?_
          refine good_region rfl ?_
          refine ev_q rfl (q_move (by conv => lhs; whnf) ?_)
          refine ev_q rfl (q_move (by conv => lhs; whnf) ?_)
          refine ev_q rfl (q_idx tE86 rfl rfl (by exact Int.natCast_nonneg _) (by exact map_get hq) rfl ?_)
          refine ev_q rfl (q_load tA9 rfl ?_)
          refine ev_q rfl (q_call rfl rfl (rfl) (D_spec_l01Number q (by have := pc_sz (List.mem_of_getElem? hq); omega)) rfl ?_)
          refine ev_q rfl (q_move (by conv => lhs; whnf) ?_)
          refine ev_q rfl (q_extractI rfl rfl ?_)
          intro n20 hn20
          have h30 := hn20
          refine ev_q rfl (q_extractB rfl rfl ?_)
          intro b21 hb21; cases b21
          · first | replace hb21 := dF hb21 | skip
            have hee := rl_n hnd (fun h => hb21 (h.2 q (List.mem_of_getElem? hq)).1)
            refine ev_q rfl (q_assign (by conv => lhs; whnf) ?_)
            refine ev_q rfl (q_assign (by conv => lhs; whnf) ?_)
            refine ev_nil (hK19 _ ?_); clear hK19
            refine good_seq fun K22 hK22 => ?_
            refine good_seq fun K23 hK23 => ?_
            refine good_region rfl ?_
            refine ev_q rfl (q_move (by conv => lhs; whnf) ?_)
            refine ev_q rfl (q_not rfl rfl ?_)
            refine ev_q rfl (q_move (by conv => lhs; whnf) ?_)
            refine ev_skip rfl ?_
            refine ev_skip rfl ?_
            refine ev_skip rfl ?_
            refine ev_q rfl (q_pickT rfl (by conv => lhs; whnf) ?_)
            refine ev_nil (hK23 _ ?_); clear hK23
            refine good_condT rfl ?_
            refine good_seq fun K24 hK24 => ?_
            refine good_region rfl ?_
            refine ev_q rfl (q_assign (by conv => lhs; whnf) ?_)
            refine ev_q rfl (q_assign (by conv => lhs; whnf) ?_)
            refine ev_nil (hK24 _ ?_); clear hK24
            refine good_ret ?_
            repeat (first | refine thenQ_ret ?_ | refine blockQ_ret ?_)
            refine fx_many rfl ?_
            refine fxs_tmp (by conv => lhs; whnf) ?_
            refine fxs_tmp (by conv => lhs; whnf) ?_
            refine fx_nil ?_
            clear hK11 hK18 hK22
            obtain ⟨e2, e⟩ := hee
            try rw [List.take_length]
            exact ⟨_, .tup (.cons (conv_nil rfl (by decide) (by rw [e]; rfl)) (.cons (conv_eq (by first | rfl | exact fT (by first | exact e2 | assumption) | exact fF (by first | exact e2 | assumption) | exact fT' (by first | exact e2 | assumption) | (exfalso; first | omega | grind))) (.nil))), weakH_row (rowEq (by first | (rw [e]; done) | (rw [e]; rfl))) (weakH_none _), refsIn_ok rfl⟩
          · first | replace hb21 := dT hb21 | skip
            have hqb : rdB q := hb21
            refine ev_q rfl (q_assign (by conv => lhs; whnf) ?_)
            refine ev_q rfl (q_assign (by conv => lhs; whnf) ?_)
            refine ev_nil (hK19 _ ?_); clear hK19
            refine good_seq fun K25 hK25 => ?_
            refine good_seq fun K26 hK26 => ?_
            refine good_region rfl ?_
            refine ev_q rfl (q_move (by conv => lhs; whnf) ?_)
            refine ev_q rfl (q_not rfl rfl ?_)
            refine ev_q rfl (q_move (by conv => lhs; whnf) ?_)
            refine ev_q rfl (q_move (by conv => lhs; whnf) ?_)
            refine ev_q rfl (q_callB rfl rfl (rfl) (D_spec_l00In ..) ?_)
            intro b27 hb27; cases b27
            · first | replace hb27 := dF hb27 | skip
              have hee := rl_n hnd (fun h => hb27 (by rw [h30]; exact (h.2 q (List.mem_of_getElem? hq)).2))
              refine ev_q rfl (q_not rfl rfl ?_)
              refine ev_q rfl (q_pickF rfl (by conv => lhs; whnf) ?_)
              refine ev_nil (hK26 _ ?_); clear hK26
              refine good_condT rfl ?_
              refine good_seq fun K28 hK28 => ?_
              refine good_region rfl ?_
              refine ev_q rfl (q_assign (by conv => lhs; whnf) ?_)
              refine ev_q rfl (q_assign (by conv => lhs; whnf) ?_)
              refine ev_nil (hK28 _ ?_); clear hK28
              refine good_ret ?_
              repeat (first | refine thenQ_ret ?_ | refine blockQ_ret ?_)
              refine fx_many rfl ?_
              refine fxs_tmp (by conv => lhs; whnf) ?_
              refine fxs_tmp (by conv => lhs; whnf) ?_
              refine fx_nil ?_
              clear hK11 hK18 hK25
              obtain ⟨e2, e⟩ := hee
              try rw [List.take_length]
              exact ⟨_, .tup (.cons (conv_nil rfl (by decide) (by rw [e]; rfl)) (.cons (conv_eq (by first | rfl | exact fT (by first | exact e2 | assumption) | exact fF (by first | exact e2 | assumption) | exact fT' (by first | exact e2 | assumption) | (exfalso; first | omega | grind))) (.nil))), weakH_row (rowEq (by first | (rw [e]; done) | (rw [e]; rfl))) (weakH_none _), refsIn_ok rfl⟩
            · first | replace hb27 := dT hb27 | skip
              have hqm : inM (rdN q) := by have h2 := hb27; rw [h30] at h2; exact h2
              refine ev_q rfl (q_not rfl rfl ?_)
              refine ev_q rfl (q_pickF rfl (by conv => lhs; whnf) ?_)
              refine ev_nil (hK26 _ ?_); clear hK26
              refine good_condF rfl ?_
              refine good_skip (hK25 _ ?_); clear hK25
              refine good_region rfl ?_
              refine ev_q rfl (q_move (by conv => lhs; whnf) ?_)
              refine ev_q rfl (q_move (by conv => lhs; whnf) ?_)
              refine ev_k rfl (k_lit tE69 zA2 rfl rfl (by decide) (by decide) rfl rfl rfl ?_)
              refine ev_k rfl (k_app tApp69 rfl rfl (by simp) rfl (.inr rfl) (by first | (simp [maxLen]; done) | (simp [maxLen]; omega)) (by first | (simp; done) | (simp; omega)) ?_)
              refine ev_q rfl (q_assign (by conv => lhs; whnf) ?_)
              refine ev_nil (hK18 _ ?_); clear hK18
              refine good_region rfl ?_
              refine ev_q rfl (q_move (by conv => lhs; whnf) ?_)
              refine ev_q rfl (q_int rfl rfl ?_)
              intro n29 hn29
              replace hn29 := in64 hn29 (by omega) (by omega)
              refine ev_q rfl (q_assign (by conv => lhs; whnf) ?_)
              refine ev_nil ?_
              clear hK11
              refine ⟨i + 1, ?_, ?_, ?_⟩
              · exact ⟨by omega, all_extI (Q := fun _ (q : ByteArray) => rdB q ∧ inM (rdN q)) hJ hq ⟨hqb, hqm⟩⟩
              · first | omega | (simp only []; omega) | (dsimp only; omega)
              · refine sub_weak ?_ ?_
                · exact weakH_row (rowEq (appG (p := rdN q) (by rw [hst, List.map_append]; rfl) (fI h30))) (weakH_none _)
                · refine weakE_upd ?e6 ?r6 (weakE_upd ?e5 ?r5 (weakE_upd ?e4 ?r4 (weakE_upd ?e0 ?r0 (weakE_junk _ _))))
                  case e0 => first | rfl | exact fI (by omega) | (simp_all)
                  case r0 => intro h hh; cases hh
                  case e4 => first | rfl | exact fI (by omega) | (simp_all)
                  case r4 => intro h hh; cases hh
                  case e5 => first | rfl | exact fI (by omega) | (first | rfl | (rw [hst]; exact ownEq (by simp)))
                  case r5 => intro h hh; simp [refs] at hh; subst hh; rfl
                  case e6 => first | rfl | exact fI (by omega) | (simp_all)
                  case r6 => intro h hh; cases hh
    · replace hb9 := dT hb9
      have hee := rl_n hnd (fun h => by have := h.1; omega)
      refine ev_nil (hK7 _ ?_); clear hK7
      refine good_condT rfl ?_
      refine good_seq fun K30 hK30 => ?_
      refine good_region rfl ?_
      refine ev_q rfl (q_assign (by conv => lhs; whnf) ?_)
      refine ev_q rfl (q_assign (by conv => lhs; whnf) ?_)
      refine ev_nil (hK30 _ ?_); clear hK30
      refine good_ret ?_
      repeat (first | refine thenQ_ret ?_ | refine blockQ_ret ?_)
      refine fx_many rfl ?_
      refine fxs_tmp (by conv => lhs; whnf) ?_
      refine fxs_tmp (by conv => lhs; whnf) ?_
      refine fx_nil ?_
      clear hK6
      obtain ⟨e2, e⟩ := hee
      try rw [List.take_length]
      exact ⟨_, .tup (.cons (conv_nil rfl (by decide) (by rw [e]; rfl)) (.cons (conv_eq (by first | rfl | exact fT (by first | exact e2 | assumption) | exact fF (by first | exact e2 | assumption) | exact fT' (by first | exact e2 | assumption) | (exfalso; first | omega | grind))) (.nil))), weakH_row (rowEq (by first | (rw [e]; done) | (rw [e]; rfl))) (weakH_none _), refsIn_ok rfl⟩
  · replace hb4 := seT hb4
    have hee := rl_d hb4
    refine ev_nil (hK3 _ ?_); clear hK3
    refine good_condT rfl ?_
    refine good_seq fun K31 hK31 => ?_
    refine good_region rfl ?_
    refine ev_k rfl (k_lit tE69 zA2 rfl rfl (by decide) (by decide) rfl rfl rfl ?_)
    refine ev_q rfl (q_assign (by conv => lhs; whnf) ?_)
    refine ev_q rfl (q_assign (by conv => lhs; whnf) ?_)
    refine ev_nil (hK31 _ ?_); clear hK31
    refine good_weak (sub_move 2 11 900003 rfl rfl rfl (by decide)) ?_
    refine good_ret ?_
    repeat (first | refine thenQ_ret ?_ | refine blockQ_ret ?_)
    refine fx_many rfl ?_
    refine fxs_tmp (by conv => lhs; whnf) ?_
    refine fxs_tmp (by conv => lhs; whnf) ?_
    refine fx_nil ?_
    clear hK2
    obtain ⟨e2, e⟩ := hee
    try rw [List.take_length]
    exact ⟨_, .tup (.cons (conv_eq (by first | rfl | (rw [e]; done) | (rw [e]; rfl) | exact ownEq (by first | omega | simp_all))) (.cons (conv_eq (by first | rfl | exact fT (by first | exact e2 | assumption) | exact fF (by first | exact e2 | assumption) | exact fT' (by first | exact e2 | assumption) | (exfalso; first | omega | grind))) (.nil))), weakH_row (rowEq (by first | (rw [e]; done) | (rw [e]; rfl))) (weakH_none _), refsIn_ok rfl⟩
theorem D_spec_ReadList (s : ByteArray) (hs : s.size ≤ 1048576) : Den Tryd.prog 69 [.s (.string s)] (.tup [.lst 1 ((rlL s).map ci), .s (.bool (decide (rlB s)))]) :=
  den_of_denX (D_spec_ReadList_X s hs) (by change (some (.tup [.lst 1 (List.take (rlL s).length ((rlL s).map ci)), .s (.bool (decide (rlB s)))]) : Option AV) = some (.tup [.lst 1 ((rlL s).map ci), .s (.bool (decide (rlB s)))]); simp only [takeMap])

-- impl.abs
set_option maxRecDepth 20000 in
set_option maxHeartbeats 2000000 in
theorem D_impl_abs (a : Int) (h : -9223372036854775807 ≤ a ∧ a ≤ 9223372036854775807) : Den Tryd.prog 112 [.s (.int .i64 a)] (.s (.int .i64 ((a.natAbs : Int)))) := by
  refine den_of_good Tryd.func112 (by decide) rfl (Nat.le_of_ble_eq_true rfl) (Nat.le_of_ble_eq_true rfl) ?_
  refine good_seq fun K1 hK1 => ?_
  refine good_region rfl ?_
  refine ev_q rfl (q_assign (by conv => lhs; whnf) ?_)
  refine ev_nil (hK1 _ ?_); clear hK1
  refine good_seq fun K2 hK2 => ?_
  refine good_region rfl ?_
  refine ev_q rfl (q_move (by conv => lhs; whnf) ?_)
  refine ev_q rfl (q_move (by conv => lhs; whnf) ?_)
  refine ev_q rfl (q_neg rfl ?_)
  intro n3 hn3
  replace hn3 := neg64 hn3 (by omega) (by omega)
  refine ev_q rfl (q_max rfl rfl ?_)
  intro n4 hn4; simp only [mxI, mnI] at hn4
  refine ev_q rfl (q_assign (by conv => lhs; whnf) ?_)
  refine ev_nil (hK2 _ ?_); clear hK2
  refine good_ret ?_
  repeat (first | refine thenQ_ret ?_ | refine blockQ_ret ?_)
  refine ret_tmp (st := _) rfl (by conv => lhs; whnf) rfl ?_
  first | rfl | exact fI (by first | omega | grind) | (exfalso; first | omega | grind)

end Go.Proofs.YtodghlkodiidaaaDoor.DFnBasics
