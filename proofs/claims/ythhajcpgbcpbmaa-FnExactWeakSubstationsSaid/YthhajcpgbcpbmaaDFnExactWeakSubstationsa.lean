/- Walks through the functions that FnExactWeakSubstations reaches: what each answers. -/
import Derived.Test.YthhajcpgbcpbmaaEvO
import Derived.Test.YthhajcpgbcpbmaaProg
set_option linter.unusedVariables false
set_option linter.unusedSimpArgs false
namespace Go.Proofs.Ythhajcpgbcpbmaa.DFnExactWeakSubstations
open Go Go.RowKit Go.Proofs Go.Proofs.Ythhajcpgbcpbmaa Go.Proofs.Ythhajcpgbcpbmaa.Ev
def ci (n : Int) : AV := .s (.int .i64 n)
def within (xs : List Int) (lo hi : Int) : Prop := ∀ (j : Nat) (q : Int), xs[j]? = some q → lo ≤ q ∧ q ≤ hi
noncomputable instance (xs : List Int) (lo hi : Int) : Decidable (within xs lo hi) := Classical.propDecidable _
theorem all_extI {α : Type} {xs : List α} {i : Nat} {Q : Nat → α → Prop} {p : α} (hJ : ∀ j q, j < i → xs[j]? = some q → Q j q) (hp : xs[i]? = some p) (h : Q i p) : ∀ j q, j < i + 1 → xs[j]? = some q → Q j q := by
  intro j q hj hq
  by_cases e : j = i
  · subst e; rw [hp] at hq; cases hq; exact h
  · exact hJ j q (by omega) hq
theorem all_finI {α : Type} {xs : List α} {i : Nat} {Q : Nat → α → Prop} (hJ : ∀ j q, j < i → xs[j]? = some q → Q j q) (hi : xs.length ≤ i) : ∀ j q, xs[j]? = some q → Q j q := by
  intro j q hq
  exact hJ j q (by have := (List.getElem?_eq_some_iff.1 hq).1; omega) hq
theorem fi_some {α : Type} {xs : List α} {p : α → Prop} [DecidablePred p] {i : Nat} {q : α} (hq : xs[i]? = some q) (hJ : ∀ (j : Nat) (q : α), j < i → xs[j]? = some q → ¬ p q) (h : p q) : xs.findIdx? (fun x => decide (p x)) = some i := by
  rw [List.findIdx?_eq_some_iff_getElem]
  obtain ⟨hl, he⟩ := List.getElem?_eq_some_iff.1 hq
  refine ⟨hl, by simpa [he] using h, fun j hj => ?_⟩
  simpa using hJ j _ hj (List.getElem?_eq_getElem (by omega))
theorem fi_none {α : Type} {xs : List α} {p : α → Prop} [DecidablePred p] (hJ : ∀ (j : Nat) (q : α), xs[j]? = some q → ¬ p q) : xs.findIdx? (fun x => decide (p x)) = none := by
  rw [List.findIdx?_eq_none_iff]
  intro x hx
  obtain ⟨j, hj⟩ := List.getElem?_of_mem hx
  simpa using hJ j x hj
theorem fi_any {α : Type} {xs : List α} {p : α → Prop} [DecidablePred p] : (0 : Int) ≤ (match xs.findIdx? (fun x => decide (p x)) with | some j => (j : Int) | none => -1) ↔ ∃ x ∈ xs, p x := by
  cases h : xs.findIdx? (fun x => decide (p x)) with
  | none =>
    rw [List.findIdx?_eq_none_iff] at h
    simp at h ⊢
    exact h
  | some j =>
    rw [List.findIdx?_eq_some_iff_getElem] at h
    obtain ⟨hl, h1, _⟩ := h
    simp only [Int.natCast_nonneg, true_iff]
    exact ⟨_, List.getElem_mem hl, by simpa using h1⟩
theorem within_any {xs : List Int} {lo hi : Int} : within xs lo hi ↔ ¬ ∃ x ∈ xs, ¬ (lo ≤ x ∧ x ≤ hi) := by
  constructor
  · intro h ⟨x, hx, hn⟩
    obtain ⟨j, hj⟩ := List.getElem?_of_mem hx
    exact hn (h j x hj)
  · intro h j q hq
    apply Classical.byContradiction
    intro hn
    exact h ⟨q, List.mem_of_getElem? hq, hn⟩
def small (u : UInt8) : Bool := decide (97 ≤ u.toNat ∧ u.toNat ≤ 122)
def digit (u : UInt8) : Bool := decide (48 ≤ u.toNat ∧ u.toNat ≤ 57)
def nbc (u : UInt8) : Bool := small u || digit u
def allNb (s : ByteArray) : Bool := s.data.all nbc
def head1 (s : ByteArray) : Bool := match s[0]? with
  | some u => small u
  | none => false
def isName (s : ByteArray) : Bool := decide (1 ≤ s.size) && decide (s.size ≤ 10) && head1 s && allNb s
theorem getB {s : ByteArray} {i : Nat} (h : i < s.size) : ∃ u, s[i]? = some u := ⟨s[i], by simp [h]⟩
theorem allNb_T {s : ByteArray} (h : ∀ j u, j < s.size → s[j]? = some u → nbc u = true) : allNb s = true := by
  unfold allNb
  rw [Array.all_eq_true]
  intro i hi
  exact h i _ hi (getElem?_pos s i hi)
theorem allNb_F {s : ByteArray} {j : Nat} {u : UInt8} (h : s[j]? = some u) (hn : nbc u = false) : allNb s = false := by
  have hj : j < s.size := by
    apply Classical.byContradiction; intro hc
    rw [getElem?_neg s j hc] at h; cases h
  unfold allNb
  rw [Array.all_eq_false]
  refine ⟨j, hj, ?_⟩
  rw [getElem?_pos s j hj] at h
  cases h
  intro hc
  have hc2 : nbc s[j] = true := hc
  rw [hn] at hc2; cases hc2
theorem isName_long {s : ByteArray} (h : ¬ s.size ≤ 10) : isName s = false := by simp [isName, h]
theorem isName_none {s : ByteArray} (h : s.size = 0) : isName s = false := by simp [isName, h]
theorem isName_head {s : ByteArray} {u : UInt8} (h : s[0]? = some u) (hn : small u = false) : isName s = false := by simp [isName, head1, h, hn]
theorem isName_eq {s : ByteArray} {u : UInt8} (h1 : 1 ≤ s.size) (h2 : s.size ≤ 10) (h : s[0]? = some u) (hn : small u = true) : isName s = allNb s := by simp [isName, head1, h, hn, h1, h2]
theorem fB {b c : Bool} (h : b = c) : AV.s (.bool b) = .s (.bool c) := by rw [h]
def tot {α : Type} (f : α → Nat) (xs : List α) (i : Nat) : Nat := ((xs.take i).map f).sum
theorem tot_zero {α : Type} (f : α → Nat) (xs : List α) : tot f xs 0 = 0 := by simp [tot]
theorem tot_step {α : Type} {f : α → Nat} {xs : List α} {i : Nat} {p : α} (h : xs[i]? = some p) : tot f xs (i + 1) = tot f xs i + f p := by
  unfold tot
  rw [List.take_add_one, h]; simp
theorem tot_le {α : Type} {f : α → Nat} {xs : List α} {i : Nat} : tot f xs i ≤ tot f xs xs.length := by
  unfold tot
  rw [List.take_length]
  have e : (xs.map f).sum = ((xs.take i).map f).sum + ((xs.drop i).map f).sum := by rw [← List.sum_append, ← List.map_append, List.take_append_drop]
  omega
theorem tot_end {α : Type} {f : α → Nat} {xs : List α} {i : Nat} (h : xs.length ≤ i) : tot f xs i = tot f xs xs.length := by
  unfold tot; rw [List.take_of_length_le h, List.take_of_length_le (Nat.le_refl _)]
theorem bytesLess_tri : ∀ (x y : List UInt8), Op.bytesLess x y = false ↔ (Op.bytesLess y x = true ∨ y = x)
  | [], [] => by simp [Op.bytesLess]
  | [], _ :: _ => by simp [Op.bytesLess]
  | _ :: _, [] => by simp [Op.bytesLess]
  | a :: x, b :: y => by
    have ih := bytesLess_tri x y
    have e1 : (a = b) ↔ a.toNat = b.toNat := ⟨fun h => by rw [h], fun h => UInt8.toNat_inj.1 h⟩
    have e2 : a < b ↔ a.toNat < b.toNat := UInt8.lt_iff_toNat_lt
    have e3 : b < a ↔ b.toNat < a.toNat := UInt8.lt_iff_toNat_lt
    by_cases h : a = b
    · subst h; simp [Op.bytesLess, ih]
    · have l : Op.bytesLess (a :: x) (b :: y) = decide (a < b) := by simp [Op.bytesLess, h]
      have r : Op.bytesLess (b :: y) (a :: x) = decide (b < a) := by simp [Op.bytesLess, Ne.symm h]
      have hn : ¬ a.toNat = b.toNat := fun e => h (e1.2 e)
      have hc : ¬ (b :: y = a :: x) := fun e => h (List.cons.inj e).1.symm
      rw [l, r]
      simp only [decide_eq_false_iff_not, decide_eq_true_eq, e2, e3, hc, or_false]
      omega
def idLt (x y : ByteArray) : Prop := Op.bytesLess x.toList y.toList = true
structure Sb where
  id : ByteArray
  nd : Int
  tr : Int
  su : Int
  re : Int
def sbA (x : Sb) : AV := .agg [.s (.string x.id), .s (.int .i64 x.nd), .s (.int .i64 x.tr), .s (.int .i64 x.su), .s (.int .i64 x.re)]
def sbZ : AV := .agg [.s (.string ⟨#[]⟩), .s (.int .i64 0), .s (.int .i64 0), .s (.int .i64 0), .s (.int .i64 0)]
def sbOk (x : Sb) : Prop := isName x.id = true ∧ (0 ≤ x.nd ∧ x.nd ≤ 15) ∧ (1 ≤ x.tr ∧ x.tr ≤ 100000) ∧ (0 ≤ x.su ∧ x.su ≤ 18000) ∧ (0 ≤ x.re ∧ x.re ≤ x.su - 1)
def sbAt (xs : List Sb) (j : Nat) (x : Sb) : Prop := sbOk x ∧ ∀ y, 0 < j → xs[j - 1]? = some y → idLt y.id x.id
def subsOk (xs : List Sb) : Prop := xs.length ≤ 12 ∧ ∀ (j : Nat) (x : Sb), xs[j]? = some x → sbAt xs j x
noncomputable instance (xs : List Sb) : Decidable (subsOk xs) := Classical.propDecidable _
theorem subs_no {xs : List Sb} {i : Nat} {p : Sb} (h : xs[i]? = some p) (hn : ¬ sbAt xs i p) : ¬ subsOk xs := fun ⟨_, h2⟩ => hn (h2 i p h)
theorem all_extS {α : Type} {xs : List α} {i : Nat} {Q : Nat → α → Prop} {p : α} (hJ : ∀ j q, j < i → xs[j]? = some q → Q j q) (hp : xs[i]? = some p) (h : Q i p) : ∀ j q, j < i + 1 → xs[j]? = some q → Q j q := by
  intro j q hj hq
  by_cases e : j = i
  · subst e; rw [hp] at hq; cases hq; exact h
  · exact hJ j q (by omega) hq
theorem all_finS {α : Type} {xs : List α} {i : Nat} {Q : Nat → α → Prop} (hJ : ∀ j q, j < i → xs[j]? = some q → Q j q) (hi : xs.length ≤ i) : ∀ j q, xs[j]? = some q → Q j q := by
  intro j q hq
  exact hJ j q (by have := (List.getElem?_eq_some_iff.1 hq).1; omega) hq
theorem lt_ge {x y : ByteArray} (h : false = !Op.bytesLess x.toList y.toList) : idLt x y := by simpa [idLt] using h.symm
theorem nlt_ge {x y : ByteArray} (h : true = !Op.bytesLess x.toList y.toList) : ¬ idLt x y := by simp [idLt]; simpa using h.symm
theorem lt_le {x y : ByteArray} (h : false = (Op.bytesLess y.toList x.toList || y.toList == x.toList)) : idLt x y := by
  unfold idLt
  cases e : Op.bytesLess x.toList y.toList with
  | true => rfl
  | false =>
    have := (bytesLess_tri _ _).1 e
    rcases this with h1 | h1
    · rw [h1] at h; simp at h
    · rw [h1] at h; simp at h
theorem nlt_le {x y : ByteArray} (h : true = (Op.bytesLess y.toList x.toList || y.toList == x.toList)) : ¬ idLt x y := by
  unfold idLt
  intro e
  have : Op.bytesLess x.toList y.toList = false := (bytesLess_tri _ _).2 (by have h2 := h.symm; simp only [Bool.or_eq_true, beq_iff_eq] at h2; exact h2)
  rw [this] at e; cases e
theorem srN_ex (p : Int → Prop) : ∀ n : Nat, ∃ k : Nat, k ≤ n ∧ (∀ j : Nat, j < k → ¬ p j) ∧ (k < n → p k)
  | 0 => ⟨0, Nat.le_refl _, fun j h => absurd h (Nat.not_lt_zero _), fun h => absurd h (Nat.not_lt_zero _)⟩
  | n + 1 => by
    obtain ⟨k, h1, h2, h3⟩ := srN_ex p n
    by_cases e : k = n
    · subst e
      by_cases hp : p k
      · exact ⟨k, by omega, h2, fun _ => hp⟩
      · refine ⟨k + 1, Nat.le_refl _, fun j hj => ?_, fun h => by omega⟩
        by_cases ej : j = k
        · subst ej; exact hp
        · exact h2 j (by omega)
    · exact ⟨k, by omega, h2, fun _ => h3 (by omega)⟩
noncomputable def srN (p : Int → Prop) [DecidablePred p] (n : Nat) : Nat := Classical.choose (srN_ex p n)
theorem srN_spec (p : Int → Prop) [DecidablePred p] (n : Nat) : srN p n ≤ n ∧ (∀ j : Nat, j < srN p n → ¬ p j) ∧ (srN p n < n → p (srN p n)) := Classical.choose_spec (srN_ex p n)
theorem srN_uniq {p : Int → Prop} [DecidablePred p] {n k : Nat} (h1 : k ≤ n) (h2 : ∀ j : Nat, j < k → ¬ p j) (h3 : k < n → p k) : srN p n = k := by
  obtain ⟨g1, g2, g3⟩ := srN_spec p n
  rcases Nat.lt_trichotomy (srN p n) k with h | h | h
  · exact absurd (g3 (by omega)) (h2 _ h)
  · exact h
  · exact absurd (h3 (by omega)) (g2 _ h)
theorem shr1 {x n : Int} (h : n = x.fdiv (2 ^ (min (1 : Int).toNat IntKind.u64.bits))) (h0 : 0 ≤ x) : n = x / 2 := by
  rw [h, Int.fdiv_eq_ediv_of_nonneg _ (by decide)]; rfl
theorem wrapU {m n : Int} (h : n = IntKind.u64.wrap m) (h0 : 0 ≤ m) (h1 : m ≤ 9223372036854775807) : n = m := by
  have e : IntKind.u64.wrap m = m % 18446744073709551616 := by simp [IntKind.wrap, IntKind.bits, IntKind.signed]
  rw [e] at h; omega
noncomputable def lst (p : Int → Prop) [DecidablePred p] (lo hi : Int) : Int := lo + srN (fun i => p (lo + i)) (hi - lo + 1).toNat
theorem lst_spec (p : Int → Prop) [DecidablePred p] {lo hi : Int} (h : lo ≤ hi + 1) : lo ≤ lst p lo hi ∧ lst p lo hi ≤ hi + 1 ∧ (∀ a, lo ≤ a → a < lst p lo hi → ¬ p a) ∧ (lst p lo hi ≤ hi → p (lst p lo hi)) := by
  obtain ⟨h1, h2, h3⟩ := srN_spec (fun i => p (lo + i)) (hi - lo + 1).toNat
  refine ⟨by unfold lst; omega, by unfold lst; omega, fun a ha hl => ?_, fun hl => h3 (by unfold lst at hl; omega)⟩
  have := h2 (a - lo).toNat (by unfold lst at hl; omega)
  rwa [show lo + ((a - lo).toNat : Int) = a by omega] at this
theorem lst_uniq {p : Int → Prop} [DecidablePred p] {lo hi k : Int} (h0 : lo ≤ k) (h1 : k ≤ hi + 1) (h2 : ∀ a, lo ≤ a → a < k → ¬ p a) (h3 : k ≤ hi → p k) : lst p lo hi = k := by
  obtain ⟨g0, g1, g2, g3⟩ := lst_spec p (lo := lo) (hi := hi) (by omega)
  by_cases e : lst p lo hi < k
  · exact absurd (g3 (by omega)) (h2 _ g0 e)
  · by_cases e2 : k < lst p lo hi
    · exact absurd (h3 (by omega)) (g2 _ h0 e2)
    · omega
theorem dr_mono' {a a' b : Int} (hb : 0 < b) (h : a ≤ a') : dr a b ≤ dr a' b := by
  have e : ∀ x, dr x b = if x < 0 then -((b - 2 * x) / (2 * b)) else (2 * x + b) / (2 * b) := fun x => by unfold dr drP; rw [if_neg (by omega)]
  rw [e, e]
  split
  · split
    · have := Int.ediv_le_ediv (a := b - 2 * a') (b := b - 2 * a) (c := 2 * b) (by omega) (by omega)
      omega
    · have h1 := Int.ediv_nonneg (a := b - 2 * a) (b := 2 * b) (by omega) (by omega)
      have h2 := Int.ediv_nonneg (a := 2 * a' + b) (b := 2 * b) (by omega) (by omega)
      omega
  · rw [if_neg (by omega)]
    exact Int.ediv_le_ediv (by omega) (by omega)
theorem dr_nonneg {a b : Int} (hb : 0 < b) (ha : 0 ≤ a) : 0 ≤ dr a b := by
  unfold dr drP; rw [if_neg (by omega), if_neg (by omega)]
  exact Int.ediv_nonneg (by omega) (by omega)
theorem dr_nonpos {a b : Int} (hb : 0 < b) (ha : a ≤ 0) : dr a b ≤ 0 := by
  have := dr_mono' hb ha
  have h0 : dr 0 b = 0 := by
    unfold dr drP; rw [if_neg (by omega), if_neg (by omega)]
    exact Int.ediv_eq_zero_of_lt (by omega) (by omega)
  omega
def gP (q pr b : Int) : Int := dr (q * 4186 * (pr - b)) 100000
def mdP (su re pr b : Int) : Int := dr (pr - su + b - re) 2
def cP (tr su re pr b : Int) : Int := dr (tr * mdP su re pr b) 100
def mi (a b : Int) : Int := if a < b then a else b
def mx0 (a : Int) : Int := if 0 > a then 0 else a
def lesP (tr su re pr q b : Int) : Int := mi (gP q pr b) (cP tr su re pr b)
theorem gP_anti {q pr a b : Int} (hq : 0 ≤ q) (h : a ≤ b) : gP q pr b ≤ gP q pr a :=
  dr_mono' (by omega) (Int.mul_le_mul_of_nonneg_left (by omega) (by omega))
theorem gP_nn {q pr b : Int} (hq : 0 ≤ q) (h : b ≤ pr) : 0 ≤ gP q pr b := dr_nonneg (by omega) (Int.mul_nonneg (by omega) (by omega))
theorem mdP_mono {su re pr a b : Int} (h : a ≤ b) : mdP su re pr a ≤ mdP su re pr b := dr_mono' (by omega) (by omega)
theorem cP_mono {tr su re pr a b : Int} (ht : 0 ≤ tr) (h : a ≤ b) : cP tr su re pr a ≤ cP tr su re pr b :=
  dr_mono' (by omega) (Int.mul_le_mul_of_nonneg_left (mdP_mono h) ht)
/-- The greatest place of the greatest value. -/
def IsBest (f : Int → Int) (lo hi b : Int) : Prop := (lo ≤ b ∧ b ≤ hi) ∧ (∀ a, lo ≤ a → a ≤ hi → f a ≤ f b) ∧ (∀ a, b < a → a ≤ hi → f a < f b)
theorem IsBest.uniq {f : Int → Int} {lo hi b c : Int} (h : IsBest f lo hi b) (k : IsBest f lo hi c) : b = c := by
  obtain ⟨h1, h2, h3⟩ := h
  obtain ⟨k1, k2, k3⟩ := k
  rcases Int.lt_trichotomy b c with e | e | e
  · have := h3 c e k1.2; have := k2 b h1.1 h1.2; omega
  · exact e
  · have := k3 b e h1.2; have := h2 c k1.1 k1.2; omega
def bst (f : Int → Int) (lo : Int) : Nat → Int
  | 0 => lo
  | n + 1 => if f (lo + n + 1) ≥ f (bst f lo n) then lo + n + 1 else bst f lo n
theorem bst_T {f : Int → Int} {lo : Int} {n : Nat} (h : f (lo + n + 1) ≥ f (bst f lo n)) : bst f lo (n + 1) = lo + n + 1 := if_pos h
theorem bst_F {f : Int → Int} {lo : Int} {n : Nat} (h : ¬ f (lo + n + 1) ≥ f (bst f lo n)) : bst f lo (n + 1) = bst f lo n := if_neg h
theorem bst_spec {f : Int → Int} {lo : Int} : ∀ n : Nat, IsBest f lo (lo + n) (bst f lo n)
  | 0 => ⟨by simp [bst], fun a h1 h2 => by have : a = lo := by omega
                                           subst this; exact Int.le_refl _, fun a h1 h2 => by simp [bst] at h1; omega⟩
  | n + 1 => by
    obtain ⟨h1, h2, h3⟩ := bst_spec (f := f) (lo := lo) n
    by_cases h : f (lo + n + 1) ≥ f (bst f lo n)
    · rw [bst_T h]
      refine ⟨by omega, fun a ha hb => ?_, fun a ha hb => by omega⟩
      by_cases e : a = lo + n + 1
      · subst e; exact Int.le_refl _
      · have := h2 a ha (by omega); omega
    · rw [bst_F h]
      refine ⟨by omega, fun a ha hb => ?_, fun a ha hb => ?_⟩
      · by_cases e : a = lo + n + 1
        · subst e; omega
        · exact h2 a ha (by omega)
      · by_cases e : a = lo + n + 1
        · subst e; omega
        · exact h3 a ha (by omega)
def bB (f : Int → Int) (lo hi : Int) : Int := bst f lo (hi - lo).toNat
theorem bB_best {f : Int → Int} {lo hi : Int} (h : lo ≤ hi) : IsBest f lo hi (bB f lo hi) := by
  have := bst_spec (f := f) (lo := lo) (hi - lo).toNat
  rwa [show lo + ((hi - lo).toNat : Int) = hi by omega] at this
theorem bB_uniq {f : Int → Int} {lo hi b : Int} (h : IsBest f lo hi b) : b = bB f lo hi := h.uniq (bB_best (by have := h.1; omega))
/-- Two curves that meet. -/
structure Meet (g c : Int → Int) (lo hi : Int) : Prop where
  le : lo ≤ hi
  anti : ∀ a b, lo ≤ a → a ≤ b → b ≤ hi → g b ≤ g a
  mono : ∀ a b, lo ≤ a → a ≤ b → b ≤ hi → c a ≤ c b
  nn : ∀ a, lo ≤ a → a ≤ hi → 0 ≤ g a
theorem mi_le1 {a b : Int} : mi a b ≤ a := by unfold mi; split <;> omega
theorem mi_le2 {a b : Int} : mi a b ≤ b := by unfold mi; split <;> omega
theorem mi_ge {a b x : Int} (h1 : x ≤ a) (h2 : x ≤ b) : x ≤ mi a b := by unfold mi; split <;> omega
theorem mi_cases (a b : Int) : mi a b = a ∨ mi a b = b := by unfold mi; split <;> simp
theorem mx0_ge (a : Int) : 0 ≤ mx0 a ∧ a ≤ mx0 a := by unfold mx0; split <;> omega
theorem mx0_le {a b : Int} (h : a ≤ b) : mx0 a ≤ mx0 b := by unfold mx0; split <;> split <;> omega
theorem mx0_cases (a : Int) : (a < 0 ∧ mx0 a = 0) ∨ (0 ≤ a ∧ mx0 a = a) := by unfold mx0; split <;> omega
theorem meet_top {g c : Int → Int} {lo hi l : Int} (m : Meet g c lo hi) (h1 : lo ≤ l ∧ l ≤ hi) (h2 : l = lo ∨ c l ≤ g l) (h3 : l = hi ∨ g (l + 1) < c (l + 1)) (a : Int) (ha : lo ≤ a ∧ a ≤ hi) :
    mi (g a) (c a) ≤ mi (g l) (c l) ∨ (l + 1 ≤ hi ∧ mi (g a) (c a) ≤ mi (g (l + 1)) (c (l + 1))) := by
  by_cases e : a ≤ l
  · left
    rcases h2 with h2 | h2
    · have : a = l := by omega
      rw [this]; exact Int.le_refl _
    · have h4 := m.mono a l ha.1 e h1.2
      have h5 : mi (g a) (c a) ≤ c a := mi_le2
      exact mi_ge (by omega) (by omega)
  · right
    rcases h3 with h3 | h3
    · omega
    · have h4 := m.anti (l + 1) a (by omega) (by omega) ha.2
      have h5 : mi (g a) (c a) ≤ g a := mi_le1
      exact ⟨by omega, mi_ge (by omega) (by omega)⟩
theorem meet_best {g c : Int → Int} {lo hi b v : Int} (m : Meet g c lo hi) (hb : lo ≤ b ∧ b ≤ hi) (hv : mx0 (mi (g b) (c b)) = v) (htop : ∀ a, lo ≤ a → a ≤ hi → mx0 (mi (g a) (c a)) ≤ v) (hend : b = hi ∨ mx0 (mi (g (b + 1)) (c (b + 1))) < v) :
    IsBest (fun a => mi (g a) (c a)) lo hi b := by
  have v0 : 0 ≤ v := by have := (mx0_ge (mi (g b) (c b))).1; omega
  have le : ∀ a, lo ≤ a → a ≤ hi → mi (g a) (c a) ≤ v := fun a h1 h2 => by have := (mx0_ge (mi (g a) (c a))).2; have := htop a h1 h2; omega
  by_cases hp : 0 < v
  · have eb : mi (g b) (c b) = v := by rcases mx0_cases (mi (g b) (c b)) with h | h <;> omega
    refine ⟨hb, fun a h1 h2 => by show mi (g a) (c a) ≤ mi (g b) (c b); rw [eb]; exact le a h1 h2, fun a h1 h2 => ?_⟩
    rcases hend with h | h
    · omega
    · show mi (g a) (c a) < mi (g b) (c b)
      have h3 := (mx0_ge (mi (g (b + 1)) (c (b + 1)))).2
      have h4 := m.mono b (b + 1) hb.1 (by omega) (by omega)
      have h5 : mi (g b) (c b) ≤ c b := mi_le2
      have h6 : g (b + 1) < v := by
        rcases mi_cases (g (b + 1)) (c (b + 1)) with e | e <;> omega
      have h7 := m.anti (b + 1) a (by omega) (by omega) h2
      have h8 : mi (g a) (c a) ≤ g a := mi_le1
      omega
  · have hz : v = 0 := by omega
    have hbh : b = hi := by
      rcases hend with h | h
      · exact h
      · have := (mx0_ge (mi (g (b + 1)) (c (b + 1)))).1; omega
    subst hbh
    refine ⟨hb, fun a h1 h2 => ?_, fun a h1 h2 => by omega⟩
    show mi (g a) (c a) ≤ mi (g b) (c b)
    have h3 := le a h1 h2
    have h4 := m.mono a b h1 h2 (Int.le_refl _)
    have h5 := m.nn b hb.1 (Int.le_refl _)
    have h6 : mi (g a) (c a) ≤ c a := mi_le2
    exact mi_ge (by omega) (by omega)
theorem les_meet {tr su re pr q : Int} (ht : 0 ≤ tr) (hq : 0 ≤ q) (h : re ≤ pr) : Meet (gP q pr) (cP tr su re pr) re pr :=
  ⟨h, fun a b _ h1 _ => gP_anti hq h1, fun a b _ h1 _ => cP_mono ht h1, fun a _ h1 => gP_nn hq h1⟩
def pwP (tr su re pr q : Int) : Int := if pr < re then 0 else mx0 (lesP tr su re pr q (bB (lesP tr su re pr q) re pr))
theorem pw_le {f f' : Int → Int} {lo hi hi' : Int} (h : lo ≤ hi) (h' : hi ≤ hi') (hf : ∀ b, lo ≤ b → b ≤ hi → mx0 (f b) ≤ mx0 (f' b)) : mx0 (f (bB f lo hi)) ≤ mx0 (f' (bB f' lo hi')) := by
  have b1 := bB_best (f := f) h
  have b2 := bB_best (f := f') (lo := lo) (hi := hi') (by omega)
  have h1 := hf _ b1.1.1 b1.1.2
  have h2 := b2.2.1 (bB f lo hi) b1.1.1 (by have := b1.1.2; omega)
  have h3 := mx0_le h2
  omega
theorem pw_nn {tr su re pr q : Int} : 0 ≤ pwP tr su re pr q := by
  unfold pwP
  split
  · exact Int.le_refl _
  · exact (mx0_ge _).1
theorem mi_mono {a b a' b' : Int} (h1 : a ≤ a') (h2 : b ≤ b') : mi a b ≤ mi a' b' := by unfold mi; split <;> split <;> omega
theorem gP_q {q q' pr b : Int} (h : q ≤ q') (hb : b ≤ pr) : gP q pr b ≤ gP q' pr b := dr_mono' (by omega) (Int.mul_le_mul_of_nonneg_right (by omega) (by omega))
theorem gP_p {q pr pr' b : Int} (hq : 0 ≤ q) (h : pr ≤ pr') : gP q pr b ≤ gP q pr' b := dr_mono' (by omega) (Int.mul_le_mul_of_nonneg_left (by omega) (by omega))
theorem cP_p {tr su re pr pr' b : Int} (ht : 0 ≤ tr) (h : pr ≤ pr') : cP tr su re pr b ≤ cP tr su re pr' b :=
  dr_mono' (by omega) (Int.mul_le_mul_of_nonneg_left (dr_mono' (by omega) (by omega)) ht)
theorem pw_q {tr su re pr q q' : Int} (h : q ≤ q') : pwP tr su re pr q ≤ pwP tr su re pr q' := by
  unfold pwP
  split
  · exact Int.le_refl _
  · exact pw_le (by omega) (Int.le_refl _) fun b h1 h2 => mx0_le (mi_mono (gP_q h h2) (Int.le_refl _))
theorem pw_p {tr su re pr pr' q : Int} (ht : 0 ≤ tr) (hq : 0 ≤ q) (h : pr ≤ pr') : pwP tr su re pr q ≤ pwP tr su re pr' q := by
  by_cases e : pr < re
  · rw [show pwP tr su re pr q = 0 from if_pos e]; exact pw_nn
  · unfold pwP
    rw [if_neg e, if_neg (by omega)]
    exact pw_le (by omega) h fun b h1 h2 => mx0_le (mi_mono (gP_p hq h) (cP_p ht h))
theorem pw_t {tr tr' su re pr q : Int} (ht : 0 ≤ tr) (h : tr ≤ tr') : pwP tr su re pr q ≤ pwP tr' su re pr q := by
  unfold pwP
  split
  · exact Int.le_refl _
  · refine pw_le (by omega) (Int.le_refl _) fun b h1 h2 => ?_
    by_cases hm : 0 ≤ mdP su re pr b
    · exact mx0_le (mi_mono (Int.le_refl _) (dr_mono' (by omega) (Int.mul_le_mul_of_nonneg_right h hm)))
    · have h3 : cP tr su re pr b ≤ 0 := dr_nonpos (by omega) (Int.mul_nonpos_of_nonneg_of_nonpos ht (by omega))
      have h4 : lesP tr su re pr q b ≤ cP tr su re pr b := mi_le2
      have h5 := (mx0_ge (lesP tr' su re pr q b)).1
      rcases mx0_cases (lesP tr su re pr q b) with h6 | h6 <;> omega
noncomputable def pfP (tr su re pr ld : Int) : Int := lst (fun n => pwP tr su re pr n ≥ ld) 0 100000
noncomputable def lpP (tr su re ld q : Int) : Int := lst (fun n => pwP tr su re n q ≥ ld) 0 18000
noncomputable def ltP (su re pr ld : Int) : Int := lst (fun n => pwP n su re pr 100000 ≥ ld) 1 100000
def ixs (p : Nat → Prop) [DecidablePred p] : Nat → List Int
  | 0 => []
  | n + 1 => if p n then ixs p n ++ [(n : Int)] else ixs p n
theorem ixs_T {p : Nat → Prop} [DecidablePred p] {n : Nat} (h : p n) : ixs p (n + 1) = ixs p n ++ [(n : Int)] := if_pos h
theorem ixs_F {p : Nat → Prop} [DecidablePred p] {n : Nat} (h : ¬ p n) : ixs p (n + 1) = ixs p n := if_neg h
theorem ixs_len {p : Nat → Prop} [DecidablePred p] : ∀ n : Nat, (ixs p n).length ≤ n
  | 0 => Nat.le_refl _
  | n + 1 => by
    have := ixs_len (p := p) n
    by_cases h : p n
    · rw [ixs_T h]; simp; omega
    · rw [ixs_F h]; omega
def gd (xs : List Int) (i : Nat) : Int := xs.getD i 0
theorem gd_eq {xs : List Int} {i : Nat} {p : Int} (h : xs[i]? = some p) : gd xs i = p := by simp [gd, List.getD, h]
def sb0 : Sb := ⟨⟨#[]⟩, 0, 0, 0, 0⟩
def gs (xs : List Sb) (i : Nat) : Sb := xs.getD i sb0
theorem gs_eq {xs : List Sb} {i : Nat} {p : Sb} (h : xs[i]? = some p) : gs xs i = p := by simp [gs, List.getD, h]
noncomputable def pfj (xs : List Sb) (ds : List Int) (pr : Int) (i : Nat) : Int := pfP (gs xs i).tr (gs xs i).su (gs xs i).re pr (gd ds i)
theorem pfj_eq {xs : List Sb} {ds : List Int} {pr : Int} {i : Nat} {p : Sb} {l : Int} (hp : xs[i]? = some p) (hl : ds[i]? = some l) : pfj xs ds pr i = pfP p.tr p.su p.re pr l := by unfold pfj; rw [gs_eq hp, gd_eq hl]
theorem pfP_bd {tr su re pr ld : Int} : 0 ≤ pfP tr su re pr ld ∧ pfP tr su re pr ld ≤ 100001 := by
  have := lst_spec (fun n => pwP tr su re pr n ≥ ld) (lo := 0) (hi := 100000) (by omega)
  exact ⟨this.1, this.2.1⟩
theorem pf_re {tr su re pr ld : Int} (h0 : 0 < pfP tr su re pr ld) (h1 : pfP tr su re pr ld ≤ 100000) : re ≤ pr := by
  apply Classical.byContradiction
  intro h
  have hz : ∀ n, pwP tr su re pr n = 0 := fun n => if_pos (by omega)
  obtain ⟨_, _, a3, a4⟩ := lst_spec (fun n => pwP tr su re pr n ≥ ld) (lo := 0) (hi := 100000) (by omega)
  have b1 := a4 h1
  have b2 := a3 0 (Int.le_refl _) h0
  simp only [hz] at b1 b2
  exact b2 b1
noncomputable def bkj (xs : List Sb) (ds : List Int) (pr : Int) (i : Nat) : Int := bB (lesP (gs xs i).tr (gs xs i).su (gs xs i).re pr (pfj xs ds pr i)) (gs xs i).re pr
noncomputable def rmS (xs : List Sb) (ds : List Int) (pr : Int) : Nat → Int
  | 0 => 0
  | n + 1 => if pfj xs ds pr n > 0 then rmS xs ds pr n + pfj xs ds pr n * bkj xs ds pr n else rmS xs ds pr n
noncomputable def rmA (xs : List Sb) (ds : List Int) (pr : Int) : Nat → Int
  | 0 => 0
  | n + 1 => if pfj xs ds pr n > 0 then rmA xs ds pr n + pfj xs ds pr n else rmA xs ds pr n
theorem rmS_T {xs : List Sb} {ds : List Int} {pr : Int} {n : Nat} (h : pfj xs ds pr n > 0) : rmS xs ds pr (n + 1) = rmS xs ds pr n + pfj xs ds pr n * bkj xs ds pr n := if_pos h
theorem rmS_F {xs : List Sb} {ds : List Int} {pr : Int} {n : Nat} (h : ¬ pfj xs ds pr n > 0) : rmS xs ds pr (n + 1) = rmS xs ds pr n := if_neg h
theorem rmA_T {xs : List Sb} {ds : List Int} {pr : Int} {n : Nat} (h : pfj xs ds pr n > 0) : rmA xs ds pr (n + 1) = rmA xs ds pr n + pfj xs ds pr n := if_pos h
theorem rmA_F {xs : List Sb} {ds : List Int} {pr : Int} {n : Nat} (h : ¬ pfj xs ds pr n > 0) : rmA xs ds pr (n + 1) = rmA xs ds pr n := if_neg h
noncomputable def sbC (xs : List Sb) (ds : List Int) (pr : Int) : Int := if subsOk xs then (if (0 ≤ pr ∧ pr ≤ 18000) ∧ ds.length = xs.length ∧ within ds 0 100000000 then 0 else 2) else 1
theorem sbC_ok {xs : List Sb} {ds : List Int} {pr : Int} (h : sbC xs ds pr = 0) : subsOk xs ∧ (0 ≤ pr ∧ pr ≤ 18000) ∧ ds.length = xs.length ∧ within ds 0 100000000 := by
  unfold sbC at h
  split at h
  · split at h
    · exact ⟨by assumption, by assumption⟩
    · omega
  · omega
theorem sbC0 {xs : List Sb} {ds : List Int} {pr : Int} (h : subsOk xs) (h1 : 0 ≤ pr ∧ pr ≤ 18000) (h2 : ds.length = xs.length) (h3 : within ds 0 100000000) : sbC xs ds pr = 0 := by unfold sbC; rw [if_pos h, if_pos ⟨h1, h2, h3⟩]
theorem sbC1 {xs : List Sb} {ds : List Int} {pr : Int} (h : ¬ subsOk xs) : sbC xs ds pr = 1 := by unfold sbC; rw [if_neg h]
theorem sbC2 {xs : List Sb} {ds : List Int} {pr : Int} (h : subsOk xs) (h1 : ¬ ((0 ≤ pr ∧ pr ≤ 18000) ∧ ds.length = xs.length ∧ within ds 0 100000000)) : sbC xs ds pr = 2 := by unfold sbC; rw [if_pos h, if_neg h1]
theorem rm_bd {xs : List Sb} {ds : List Int} {pr : Int} (hok : subsOk xs ∧ (0 ≤ pr ∧ pr ≤ 18000) ∧ ds.length = xs.length ∧ within ds 0 100000000) : ∀ n : Nat, n ≤ xs.length → (∀ j, j < n → pfj xs ds pr j ≤ 100000) → (0 ≤ rmS xs ds pr n ∧ rmS xs ds pr n ≤ n * 1800000000) ∧ (0 ≤ rmA xs ds pr n ∧ rmA xs ds pr n ≤ n * 100000)
  | 0, _, _ => by simp [rmS, rmA]
  | n + 1, hn, hJ => by
    have ih := rm_bd hok n (by omega) (fun j hj => hJ j (by omega))
    have hp : xs[n]? = some (xs[n]'(by omega)) := List.getElem?_eq_getElem (by omega)
    have hl : ds[n]? = some (ds[n]'(by have := hok.2.2.1; omega)) := List.getElem?_eq_getElem (by have := hok.2.2.1; omega)
    have hx := (hok.1.2 n _ hp).1
    have hj := hJ n (by omega)
    by_cases h : pfj xs ds pr n > 0
    · rw [rmS_T h, rmA_T h]
      have hre : (gs xs n).re ≤ pr := pf_re h hj
      have hb := (bB_best (f := lesP (gs xs n).tr (gs xs n).su (gs xs n).re pr (pfj xs ds pr n)) hre).1
      have hr0 : 0 ≤ (gs xs n).re := by rw [gs_eq hp]; exact hx.2.2.2.2.1
      have hm := mulB (a := pfj xs ds pr n) (b := bkj xs ds pr n) (A := 100000) (B := 18000) (by omega) hj (by unfold bkj; omega) (by unfold bkj; omega)
      omega
    · rw [rmS_F h, rmA_F h]; omega
noncomputable instance (xs : List Sb) (ds : List Int) (pr : Int) (n : Nat) : Decidable (∀ j, j < n → pfj xs ds pr j ≤ 100000) := Classical.propDecidable _
noncomputable def rmC (xs : List Sb) (ds : List Int) (pr : Int) : Int := if sbC xs ds pr = 0 then (if (∀ j, j < xs.length → pfj xs ds pr j ≤ 100000) ∧ ¬ rmA xs ds pr xs.length = 0 then 0 else 6) else sbC xs ds pr
theorem rmC_c {xs : List Sb} {ds : List Int} {pr : Int} (h : ¬ sbC xs ds pr = 0) : rmC xs ds pr = sbC xs ds pr := by unfold rmC; rw [if_neg h]
theorem rmC_6 {xs : List Sb} {ds : List Int} {pr : Int} (h : sbC xs ds pr = 0) (h1 : ¬ ((∀ j, j < xs.length → pfj xs ds pr j ≤ 100000) ∧ ¬ rmA xs ds pr xs.length = 0)) : rmC xs ds pr = 6 := by unfold rmC; rw [if_pos h, if_neg h1]
theorem rmC_0 {xs : List Sb} {ds : List Int} {pr : Int} (h : sbC xs ds pr = 0) (h1 : ∀ j, j < xs.length → pfj xs ds pr j ≤ 100000) (h2 : ¬ rmA xs ds pr xs.length = 0) : rmC xs ds pr = 0 := by unfold rmC; rw [if_pos h, if_pos ⟨h1, h2⟩]
def mkC (k : Int) (xs : List Int) (i : Nat) : List AV := ((List.range i).map fun (j : Nat) => ci (k + j)) ++ (xs.drop i).map ci
theorem mkC0 {k : Int} {xs : List Int} : mkC k xs 0 = xs.map ci := by simp [mkC]
theorem mkC_len {k : Int} {xs : List Int} {i : Nat} (h : i ≤ xs.length) : (mkC k xs i).length = xs.length := by simp [mkC]; omega
theorem mkC_get {k : Int} {xs : List Int} {i : Nat} {p : Int} (h : xs[i]? = some p) : (mkC k xs i)[i]? = some (ci p) := by
  unfold mkC
  rw [List.getElem?_append_right (by simp)]
  simp [h]
theorem mkC_set {k : Int} {xs : List Int} {i : Nat} (h : i < xs.length) : (mkC k xs i).set i (ci (k + i)) = mkC k xs (i + 1) := by
  unfold mkC
  rw [List.set_append_right _ _ (by simp)]
  simp only [List.length_map, List.length_range, Nat.sub_self]
  rw [List.drop_eq_getElem_cons h, List.map_cons, List.set_cons_zero, List.range_succ, List.map_append]
  simp
theorem mkC_held {k : Int} {xs : List Int} {i : Nat} (h : i < xs.length) : (mkC k xs xs.length)[i]? = some (ci (k + i)) := by
  unfold mkC
  rw [List.getElem?_append_left (by simpa using h)]
  simp [h]
theorem mkC_take {k : Int} {xs : List Int} : (mkC k xs xs.length).take xs.length = mkC k xs xs.length := takeLen (by rw [mkC_len (Nat.le_refl _)]; exact Nat.le_refl _)
theorem pure_ci {xs : List Int} : (flats (xs.map ci)).all noMem = true := by
  induction xs with
  | nil => rfl
  | cons x xs ih => simp only [List.map_cons, flats, List.flatMap_cons, List.all_append, Bool.and_eq_true]; exact ⟨rfl, ih⟩
theorem wrap8 {m n : Int} (h : n = IntKind.u8.wrap m) (h0 : 0 ≤ m) (h1 : m ≤ 255) : n = m := by
  have e : IntKind.u8.wrap m = m % 256 := by simp [IntKind.wrap, IntKind.bits, IntKind.signed]
  rw [e] at h; omega
noncomputable def mkD (n : Nat) (o : ByteArray) : ByteArray := if 0 < n then mkD (n / 10) (strOfNums [48 + ((n % 10 : Nat) : Int)] ++ o) else o
termination_by n
theorem mkD_step {n : Nat} {o s : ByteArray} {a b : Int} (h : 0 < n) (ha : a = 48 + ((n % 10 : Nat) : Int)) (hb : b = ((n / 10 : Nat) : Int)) (hs : s = strOfNums [a] ++ o) : mkD b.toNat s = mkD n o := by
  subst ha hb hs
  rw [mkD.eq_1 n o, if_pos h]; rfl
theorem mkD_end {n : Nat} {o : ByteArray} (h : ¬ 0 < n) : mkD n o = o := by rw [mkD.eq_1, if_neg h]
theorem str1_size {a : Int} {o s : ByteArray} (h : s = strOfNums [a] ++ o) : s.size = 1 + o.size := by rw [h, ByteArray.size_append, strOfNums_size]; rfl
noncomputable def mkT (k : Int) : ByteArray := if k ≤ 0 then ⟨#[109, 48]⟩ else ⟨#[109]⟩ ++ mkD k.toNat ⟨#[]⟩
theorem mkT0 {k : Int} (h : k ≤ 0) : mkT k = ⟨#[109, 48]⟩ := if_pos h
theorem mkT1 {k : Int} (h : ¬ k ≤ 0) : mkT k = ⟨#[109]⟩ ++ mkD k.toNat ⟨#[]⟩ := if_neg h
theorem setGet {es : List AV} {i : Nat} {e : AV} (h : i < es.length) : (es.set i e)[i]? = some e := by simp [h]
noncomputable def mkSb (k : Int) (j : Nat) : AV := .agg [.s (.string (mkT (k + 5 * j))), .s (.int .i64 (k + 5 * j + 1)), .s (.int .i64 (k + 5 * j + 2)), .s (.int .i64 (k + 5 * j + 3)), .s (.int .i64 (k + 5 * j + 4))]
noncomputable def mkS (k : Int) (xs : List Sb) (i : Nat) : List AV := ((List.range i).map (mkSb k)) ++ (xs.drop i).map sbA
theorem mkS0 {k : Int} {xs : List Sb} : mkS k xs 0 = xs.map sbA := by simp [mkS]
theorem mkS_len {k : Int} {xs : List Sb} {i : Nat} (h : i ≤ xs.length) : (mkS k xs i).length = xs.length := by simp [mkS]; omega
theorem mkS_get {k : Int} {xs : List Sb} {i : Nat} {p : Sb} (h : xs[i]? = some p) : (mkS k xs i)[i]? = some (sbA p) := by
  unfold mkS
  rw [List.getElem?_append_right (by simp)]
  simp [h]
theorem mkS_set {k : Int} {xs : List Sb} {i : Nat} (h : i < xs.length) : (mkS k xs i).set i (mkSb k i) = mkS k xs (i + 1) := by
  unfold mkS
  rw [List.set_append_right _ _ (by simp)]
  simp only [List.length_map, List.length_range, Nat.sub_self]
  rw [List.drop_eq_getElem_cons h, List.map_cons, List.set_cons_zero, List.range_succ, List.map_append]
  simp
theorem mkS_step {k a b c d : Int} {xs : List Sb} {i : Nat} {e1 e2 e3 e4 : AV} (h : i < xs.length) (ha : a = k + 5 * i + 1) (hb : b = k + 5 * i + 2) (hc : c = k + 5 * i + 3) (hd : d = k + 5 * i + 4) :
    (((((mkS k xs i).set i e1).set i e2).set i e3).set i e4).set i (.agg [.s (.string (mkT (k + 5 * i))), .s (.int .i64 a), .s (.int .i64 b), .s (.int .i64 c), .s (.int .i64 d)]) = mkS k xs (i + 1) := by
  subst ha hb hc hd
  simp only [List.set_set]
  exact mkS_set h
theorem mkS_take {k : Int} {xs : List Sb} : (mkS k xs xs.length).take xs.length = mkS k xs xs.length := takeLen (by rw [mkS_len (Nat.le_refl _)]; exact Nat.le_refl _)
theorem pure_sb {xs : List Sb} : (flats (xs.map sbA)).all noMem = true := by
  induction xs with
  | nil => rfl
  | cons x xs ih => simp only [List.map_cons, flats, List.flatMap_cons, List.all_append, Bool.and_eq_true]; exact ⟨rfl, ih⟩
def wkP (xs : List Sb) (ds : List Int) (pr : Int) (i : Nat) : Prop := 100000 < pfj xs ds pr i
noncomputable instance (xs : List Sb) (ds : List Int) (pr : Int) : DecidablePred (wkP xs ds pr) := fun i => Classical.propDecidable _
noncomputable def wkL (xs : List Sb) (ds : List Int) (pr : Int) : List Int := if sbC xs ds pr = 0 then ixs (wkP xs ds pr) xs.length else []
theorem wkL_no {xs : List Sb} {ds : List Int} {pr : Int} (h : ¬ sbC xs ds pr = 0) : wkL xs ds pr = [] := if_neg h
theorem wkL_ok {xs : List Sb} {ds : List Int} {pr : Int} (h : sbC xs ds pr = 0) : wkL xs ds pr = ixs (wkP xs ds pr) xs.length := if_pos h
theorem wkL_len {xs : List Sb} {ds : List Int} {pr : Int} : (wkL xs ds pr).length ≤ 12 ∧ (wkL xs ds pr).length ≤ xs.length := by
  by_cases h : sbC xs ds pr = 0
  · rw [wkL_ok h]
    have := (sbC_ok h).1.1
    have := ixs_len (p := wkP xs ds pr) xs.length
    omega
  · rw [wkL_no h]; simp
theorem fO23_0 : fOff Try.prog 23 0 = some 0 := by kernel_rfl
theorem fO23_1 : fOff Try.prog 23 1 = some 1 := by kernel_rfl
theorem fO23_2 : fOff Try.prog 23 2 = some 2 := by kernel_rfl
theorem fO23_3 : fOff Try.prog 23 3 = some 3 := by kernel_rfl
theorem fO23_4 : fOff Try.prog 23 4 = some 4 := by kernel_rfl
theorem fO27_0 : fOff Try.prog 27 0 = some 0 := by kernel_rfl
theorem fO27_1 : fOff Try.prog 27 1 = some 1 := by kernel_rfl
theorem fO27_2 : fOff Try.prog 27 2 = some 2 := by kernel_rfl
theorem fO27_3 : fOff Try.prog 27 3 = some 3 := by kernel_rfl
theorem fO27_4 : fOff Try.prog 27 4 = some 4 := by kernel_rfl
theorem hmix : Try.prog.follows .mixedOrders = true := by kernel_rfl
theorem sz2 : tSz Try.prog 2 = some 1 := by kernel_rfl
theorem sz27 : tSz Try.prog 27 = some 5 := by kernel_rfl
theorem sz9 : tSz Try.prog 9 = some 1 := by kernel_rfl
theorem tA2 : tAgg Try.prog 2 = some none := by kernel_rfl
theorem tA23 : tAgg Try.prog 23 = some (some 5) := by kernel_rfl
theorem tA27 : tAgg Try.prog 27 = some (some 5) := by kernel_rfl
theorem tA53 : tAgg Try.prog 53 = some none := by kernel_rfl
theorem tA9 : tAgg Try.prog 9 = some none := by kernel_rfl
theorem tApp37 : tApp Try.prog 37 = some (2, 1, 8) := by kernel_rfl
theorem tB4 : tIsBool Try.prog 4 = true := by kernel_rfl
theorem tBy2 : tBytes Try.prog 2 = some 8 := by kernel_rfl
theorem tBy27 : tBytes Try.prog 27 = some 48 := by kernel_rfl
theorem tByS46 : tIsBytes Try.prog 46 = true := by kernel_rfl
theorem tE30 : tElem Try.prog 30 = some (23, 5) := by kernel_rfl
theorem tE33 : tElem Try.prog 33 = some (27, 5) := by kernel_rfl
theorem tE37 : tElem Try.prog 37 = some (2, 1) := by kernel_rfl
theorem tE46 : tElem Try.prog 46 = some (5, 1) := by kernel_rfl
theorem tEs30 : (tElem Try.prog 30).isSome = true := by kernel_rfl
theorem tEs33 : (tElem Try.prog 33).isSome = true := by kernel_rfl
theorem tEs37 : (tElem Try.prog 37).isSome = true := by kernel_rfl
theorem tK3 : tKind Try.prog 3 = some .i64 := by kernel_rfl
theorem tK5 : tKind Try.prog 5 = some .u8 := by kernel_rfl
theorem tK84 : tKind Try.prog 84 = some .u64 := by kernel_rfl
theorem tStr9 : tIsStr Try.prog 9 = true := by kernel_rfl
theorem zA2 : zeroA Try.prog 2 = some [.s (.int .i64 0)] := by kernel_rfl
theorem zA27 : zeroA Try.prog 27 = some [.s (.string ⟨#[]⟩), .s (.int .i64 0), .s (.int .i64 0), .s (.int .i64 0), .s (.int .i64 0)] := by kernel_rfl
theorem zA5 : zeroA Try.prog 5 = some [.s (.int .u8 0)] := by kernel_rfl

-- impl.within
set_option maxRecDepth 20000 in
set_option maxHeartbeats 2000000 in
theorem D_impl_within (a lo hi : Int)  : Den Try.prog 51 [.s (.int .i64 a), .s (.int .i64 lo), .s (.int .i64 hi)] (.s (.bool (decide (lo ≤ a ∧ a ≤ hi)))) := by
  refine den_of_good Try.func51 (by decide) rfl (Nat.le_of_ble_eq_true rfl) (Nat.le_of_ble_eq_true rfl) ?_
  refine good_seq fun K1 hK1 => ?_
  refine good_region rfl ?_
  refine ev_q rfl (q_assign (by conv => lhs; whnf) ?_)
  refine ev_nil (hK1 _ ?_); clear hK1
  refine good_seq fun K2 hK2 => ?_
  refine good_region rfl ?_
  refine ev_q rfl (q_move (by conv => lhs; whnf) ?_)
  refine ev_q rfl (q_move (by conv => lhs; whnf) ?_)
  refine ev_q rfl (q_int rfl rfl ?_)
  intro b3 hb3; cases b3
  · replace hb3 := dF hb3
    refine ev_q rfl (q_move (by conv => lhs; whnf) ?_)
    refine ev_skip rfl ?_
    refine ev_skip rfl ?_
    refine ev_skip rfl ?_
    refine ev_q rfl (q_pickF rfl (by conv => lhs; whnf) ?_)
    refine ev_q rfl (q_assign (by conv => lhs; whnf) ?_)
    refine ev_nil (hK2 _ ?_); clear hK2
    refine good_ret ?_
    repeat (first | refine thenQ_ret ?_ | refine blockQ_ret ?_)
    refine ret_tmp (st := _) rfl (by conv => lhs; whnf) rfl ?_
    first | rfl | exact fT (by first | omega | grind) | exact fF (by first | omega | grind) | exact fT' (by first | omega | grind) | (exfalso; first | omega | grind)
  · replace hb3 := dT hb3
    refine ev_q rfl (q_move (by conv => lhs; whnf) ?_)
    refine ev_q rfl (q_move (by conv => lhs; whnf) ?_)
    refine ev_q rfl (q_move (by conv => lhs; whnf) ?_)
    refine ev_q rfl (q_int rfl rfl ?_)
    intro b4 hb4; cases b4
    · replace hb4 := dF hb4
      refine ev_q rfl (q_pickT rfl (by conv => lhs; whnf) ?_)
      refine ev_q rfl (q_assign (by conv => lhs; whnf) ?_)
      refine ev_nil (hK2 _ ?_); clear hK2
      refine good_ret ?_
      repeat (first | refine thenQ_ret ?_ | refine blockQ_ret ?_)
      refine ret_tmp (st := _) rfl (by conv => lhs; whnf) rfl ?_
      first | rfl | exact fT (by first | omega | grind) | exact fF (by first | omega | grind) | exact fT' (by first | omega | grind) | (exfalso; first | omega | grind)
    · replace hb4 := dT hb4
      refine ev_q rfl (q_pickT rfl (by conv => lhs; whnf) ?_)
      refine ev_q rfl (q_assign (by conv => lhs; whnf) ?_)
      refine ev_nil (hK2 _ ?_); clear hK2
      refine good_ret ?_
      repeat (first | refine thenQ_ret ?_ | refine blockQ_ret ?_)
      refine ret_tmp (st := _) rfl (by conv => lhs; whnf) rfl ?_
      first | rfl | exact fT (by first | omega | grind) | exact fF (by first | omega | grind) | exact fT' (by first | omega | grind) | (exfalso; first | omega | grind)

-- spec.l00In
set_option maxRecDepth 20000 in
set_option maxHeartbeats 2000000 in
theorem D_spec_l00In (a lo hi : Int)  : Den Try.prog 47 [.s (.int .i64 a), .s (.int .i64 lo), .s (.int .i64 hi)] (.s (.bool (decide (lo ≤ a ∧ a ≤ hi)))) := by
  refine den_of_good Try.func47 (by decide) rfl (Nat.le_of_ble_eq_true rfl) (Nat.le_of_ble_eq_true rfl) ?_
  refine good_seq fun K1 hK1 => ?_
  refine good_region rfl ?_
  refine ev_q rfl (q_assign (by conv => lhs; whnf) ?_)
  refine ev_nil (hK1 _ ?_); clear hK1
  refine good_seq fun K2 hK2 => ?_
  refine good_region rfl ?_
  refine ev_q rfl (q_move (by conv => lhs; whnf) ?_)
  refine ev_q rfl (q_move (by conv => lhs; whnf) ?_)
  refine ev_q rfl (q_int rfl rfl ?_)
  intro b3 hb3; cases b3
  · replace hb3 := dF hb3
    refine ev_q rfl (q_move (by conv => lhs; whnf) ?_)
    refine ev_skip rfl ?_
    refine ev_skip rfl ?_
    refine ev_skip rfl ?_
    refine ev_q rfl (q_pickF rfl (by conv => lhs; whnf) ?_)
    refine ev_q rfl (q_assign (by conv => lhs; whnf) ?_)
    refine ev_nil (hK2 _ ?_); clear hK2
    refine good_ret ?_
    repeat (first | refine thenQ_ret ?_ | refine blockQ_ret ?_)
    refine ret_tmp (st := _) rfl (by conv => lhs; whnf) rfl ?_
    first | rfl | exact fT (by first | omega | grind) | exact fF (by first | omega | grind) | exact fT' (by first | omega | grind) | (exfalso; first | omega | grind)
  · replace hb3 := dT hb3
    refine ev_q rfl (q_move (by conv => lhs; whnf) ?_)
    refine ev_q rfl (q_move (by conv => lhs; whnf) ?_)
    refine ev_q rfl (q_move (by conv => lhs; whnf) ?_)
    refine ev_q rfl (q_int rfl rfl ?_)
    intro b4 hb4; cases b4
    · replace hb4 := dF hb4
      refine ev_q rfl (q_pickT rfl (by conv => lhs; whnf) ?_)
      refine ev_q rfl (q_assign (by conv => lhs; whnf) ?_)
      refine ev_nil (hK2 _ ?_); clear hK2
      refine good_ret ?_
      repeat (first | refine thenQ_ret ?_ | refine blockQ_ret ?_)
      refine ret_tmp (st := _) rfl (by conv => lhs; whnf) rfl ?_
      first | rfl | exact fT (by first | omega | grind) | exact fF (by first | omega | grind) | exact fT' (by first | omega | grind) | (exfalso; first | omega | grind)
    · replace hb4 := dT hb4
      refine ev_q rfl (q_pickT rfl (by conv => lhs; whnf) ?_)
      refine ev_q rfl (q_assign (by conv => lhs; whnf) ?_)
      refine ev_nil (hK2 _ ?_); clear hK2
      refine good_ret ?_
      repeat (first | refine thenQ_ret ?_ | refine blockQ_ret ?_)
      refine ret_tmp (st := _) rfl (by conv => lhs; whnf) rfl ?_
      first | rfl | exact fT (by first | omega | grind) | exact fF (by first | omega | grind) | exact fT' (by first | omega | grind) | (exfalso; first | omega | grind)

-- laws.toInt64S
set_option maxRecDepth 20000 in
set_option maxHeartbeats 2000000 in
theorem D_laws_toInt64S_X (xs : List Int) (hx : xs.length ≤ 17592186044416) : DenX Try.prog 33 [] [.lst 1 (xs.map ci)] [(7, .row 2 1 (xs.map ci))] (.own 7 xs.length) := by
  refine denX_of_good Try.func33 (by decide) rfl (Nat.le_of_ble_eq_true rfl) (Nat.le_of_ble_eq_true rfl) rfl ?_
  refine good_seq fun K1 hK1 => ?_
  refine good_region rfl ?_
  refine ev_q rfl (q_assign (by conv => lhs; whnf) ?_)
  refine ev_nil (hK1 _ ?_); clear hK1
  refine good_seq fun K2 hK2 => ?_
  refine good_region rfl ?_
  refine ev_q rfl (q_move (by conv => lhs; whnf) ?_)
  refine ev_q rfl (q_len tEs37 rfl ?_)
  intro n3 hn3
  try simp only [List.length_map] at hn3
  refine ev_k rfl (k_make tE37 rfl rfl zA2 tBy2 rfl (by omega) (by omega) (by omega) rfl (by show _ = xs.length; omega) ?_)
  refine ev_q rfl (q_assign (by conv => lhs; whnf) ?_)
  refine ev_nil (hK2 _ ?_); clear hK2
  refine good_seq fun K4 hK4 => ?_
  refine good_seq fun K5 hK5 => ?_
  refine good_region rfl ?_
  refine ev_q rfl (q_assign (by conv => lhs; whnf) ?_)
  refine ev_nil (hK5 _ ?_); clear hK5
  refine good_block ?_
  refine good_loop (α := Nat) (fun i => { env := upd (upd (upd ((fun _ => .junk)) 0 (.lst 1 (xs.map ci))) 3 (.own 7 xs.length)) 4 (.s (.int .i64 i)), H := upd ((fun _ => none)) 7 (some (.row 2 1 (fillC ci (ci 0) xs i))) }) (fun i => i ≤ xs.length) (fun i => xs.length - i) 0 ?_ ?_ ?_
  · show 0 ≤ _; omega
  · refine sub_weak ?_ ?_
    · exact weakH_row (rowEq (fill0 rfl)) (weakH_none _)
    · refine weakE_upd ?e4 ?r4 (weakE_upd ?e3 ?r3 (weakE_upd ?e0 ?r0 (weakE_junk _ _)))
      case e0 => first | rfl | exact fI (by omega) | (simp_all)
      case r0 => intro h hh; cases hh
      case e3 => first | rfl | exact fI (by omega) | (simp_all)
      case r3 => intro h hh; simp [refs] at hh; subst hh; rfl
      case e4 => first | rfl | exact fI (by omega) | (simp_all)
      case r4 => intro h hh; cases hh
  · rintro i hI
    refine good_seq fun K6 hK6 => ?_
    refine good_seq fun K7 hK7 => ?_
    refine good_region rfl ?_
    refine ev_q rfl (q_move (by conv => lhs; whnf) ?_)
    refine ev_q rfl (q_move (by conv => lhs; whnf) ?_)
    refine ev_q rfl (q_len tEs37 rfl ?_)
    intro n8 hn8
    try simp only [List.length_map] at hn8
    refine ev_q rfl (q_int rfl rfl ?_)
    intro b9 hb9; cases b9
    · replace hb9 := dF hb9
      refine ev_nil (hK7 _ ?_); clear hK7
      refine good_condF rfl ?_
      refine good_exit ?_
      repeat (first | refine thenQ_exit ?_ | refine blockQ_pass rfl ?_)
      refine blockQ_exit (hK4 _ ?_); clear hK4
      refine good_seq fun K10 hK10 => ?_
      refine good_region rfl ?_
      refine ev_q rfl (q_move (by conv => lhs; whnf) ?_)
      refine ev_q rfl (q_assign (by conv => lhs; whnf) ?_)
      refine ev_nil (hK10 _ ?_); clear hK10
      refine good_ret ?_
      repeat (first | refine thenQ_ret ?_ | refine blockQ_ret ?_)
      refine fx_tmp rfl (by conv => lhs; whnf) ?_
      clear hK6
      exact ⟨_, conv_eq (by first | rfl | (rw [e]; done) | (rw [e]; rfl) | exact ownEq (by first | omega | simp_all)), weakH_row (rowEq (by have e := fillE (f := ci) (z := ci 0) (xs := xs) (i := i) (by omega) rfl; rw [takeLen (by simp [fillC]; omega)] at e; exact e)) (weakH_none _), refsIn_ok rfl⟩
    · replace hb9 := dT hb9
      obtain ⟨p, hp⟩ := getL (xs := xs) (n := (i : Int)) (by omega) (by omega)
      refine ev_nil (hK7 _ ?_); clear hK7
      refine good_condT rfl ?_
      refine good_skip (hK6 _ ?_); clear hK6
      refine good_seq fun K11 hK11 => ?_
      refine good_block ?_
      refine good_region rfl ?_
      refine ev_q rfl (q_move (by conv => lhs; whnf) ?_)
      refine ev_q rfl (q_move (by conv => lhs; whnf) ?_)
      refine ev_q rfl (q_move (by conv => lhs; whnf) ?_)
      refine ev_q rfl (q_move (by conv => lhs; whnf) ?_)
      refine ev_q rfl (q_idx tE37 rfl rfl (by exact Int.natCast_nonneg _) (by exact map_get hp) rfl ?_)
      refine ev_q rfl (q_load tA2 rfl ?_)
      refine ev_q rfl (q_idxO tE37 rfl rfl rfl (by exact Int.natCast_nonneg _) (by omega) rfl ?_)
      refine ev_k rfl (k_storeE sz2 rfl (by conv => lhs; whnf) rfl rfl rfl (Nat.le_of_ble_eq_true rfl) rfl (by exact fillG (by omega)) (Nat.le_of_ble_eq_true rfl) rfl ?_)
      refine ev_nil (hK11 _ ?_); clear hK11
      refine good_region rfl ?_
      refine ev_q rfl (q_move (by conv => lhs; whnf) ?_)
      refine ev_q rfl (q_int rfl rfl ?_)
      intro n12 hn12
      replace hn12 := in64 hn12 (by omega) (by omega)
      refine ev_q rfl (q_assign (by conv => lhs; whnf) ?_)
      refine ev_nil ?_
      clear hK4
      refine ⟨i + 1, ?_, ?_, ?_⟩
      · show _ ≤ _; omega
      · first | omega | (simp only []; omega) | (dsimp only; omega)
      · refine sub_weak ?_ ?_
        · exact weakH_row (rowEq (fillS hp rfl)) (weakH_none _)
        · refine weakE_upd ?e4 ?r4 (weakE_upd ?e3 ?r3 (weakE_upd ?e0 ?r0 (weakE_junk _ _)))
          case e0 => first | rfl | exact fI (by omega) | (simp_all)
          case r0 => intro h hh; cases hh
          case e3 => first | rfl | exact fI (by omega) | (simp_all)
          case r3 => intro h hh; simp [refs] at hh; subst hh; rfl
          case e4 => first | rfl | exact fI (by omega) | (simp_all)
          case r4 => intro h hh; cases hh
theorem D_laws_toInt64S (xs : List Int) (hx : xs.length ≤ 17592186044416) : Den Try.prog 33 [.lst 1 (xs.map ci)] (.lst 1 (xs.map ci)) :=
  den_of_denX (D_laws_toInt64S_X xs hx) (by change (some (.lst 1 (List.take xs.length (xs.map ci))) : Option AV) = some (.lst 1 (xs.map ci)); simp only [takeMap])

-- laws.eqInt64S
set_option maxRecDepth 20000 in
set_option maxHeartbeats 2000000 in
theorem D_laws_eqInt64S (xs : List Int) (hx : xs.length ≤ 17592186044416) : Den Try.prog 35 [.lst 1 (xs.map ci), .lst 1 (xs.map ci)] (.s (.bool true)) := by
  refine den_of_good Try.func35 (by decide) rfl (Nat.le_of_ble_eq_true rfl) (Nat.le_of_ble_eq_true rfl) ?_
  refine good_seq fun K1 hK1 => ?_
  refine good_region rfl ?_
  refine ev_q rfl (q_assign (by conv => lhs; whnf) ?_)
  refine ev_nil (hK1 _ ?_); clear hK1
  refine good_seq fun K2 hK2 => ?_
  refine good_seq fun K3 hK3 => ?_
  refine good_region rfl ?_
  refine ev_q rfl (q_move (by conv => lhs; whnf) ?_)
  refine ev_q rfl (q_len tEs37 rfl ?_)
  intro n4 hn4
  try simp only [List.length_map] at hn4
  refine ev_q rfl (q_move (by conv => lhs; whnf) ?_)
  refine ev_q rfl (q_len tEs37 rfl ?_)
  intro n5 hn5
  try simp only [List.length_map] at hn5
  refine ev_q rfl (q_int rfl rfl ?_)
  intro b6 hb6; cases b6
  · replace hb6 := neF hb6
    refine ev_nil (hK3 _ ?_); clear hK3
    refine good_condF rfl ?_
    refine good_skip (hK2 _ ?_); clear hK2
    refine good_seq fun K7 hK7 => ?_
    refine good_seq fun K8 hK8 => ?_
    refine good_region rfl ?_
    refine ev_q rfl (q_assign (by conv => lhs; whnf) ?_)
    refine ev_nil (hK8 _ ?_); clear hK8
    refine good_block ?_
    refine good_loop (α := Nat) (fun i => { env := upd (upd (upd ((fun _ => .junk)) 0 (.lst 1 (xs.map ci))) 1 (.lst 1 (xs.map ci))) 5 (.s (.int .i64 i)), H := fun _ => none }) (fun i => i ≤ xs.length) (fun i => xs.length - i) 0 ?_ ?_ ?_
    · show 0 ≤ _; omega
    · refine sub_weak ?_ ?_
      · exact weakH_none _
      · refine weakE_upd ?e5 ?r5 (weakE_upd ?e1 ?r1 (weakE_upd ?e0 ?r0 (weakE_junk _ _)))
        case e0 => first | rfl | exact fI (by omega) | (simp_all)
        case r0 => intro h hh; cases hh
        case e1 => first | rfl | exact fI (by omega) | (simp_all)
        case r1 => intro h hh; cases hh
        case e5 => first | rfl | exact fI (by omega) | (simp_all)
        case r5 => intro h hh; cases hh
    · rintro i hI
      refine good_seq fun K9 hK9 => ?_
      refine good_seq fun K10 hK10 => ?_
      refine good_region rfl ?_
      refine ev_q rfl (q_move (by conv => lhs; whnf) ?_)
      refine ev_q rfl (q_move (by conv => lhs; whnf) ?_)
      refine ev_q rfl (q_len tEs37 rfl ?_)
      intro n11 hn11
      try simp only [List.length_map] at hn11
      refine ev_q rfl (q_int rfl rfl ?_)
      intro b12 hb12; cases b12
      · replace hb12 := dF hb12
        refine ev_nil (hK10 _ ?_); clear hK10
        refine good_condF rfl ?_
        refine good_exit ?_
        repeat (first | refine thenQ_exit ?_ | refine blockQ_pass rfl ?_)
        refine blockQ_exit (hK7 _ ?_); clear hK7
        refine good_seq fun K13 hK13 => ?_
        refine good_region rfl ?_
        refine ev_q rfl (q_assign (by conv => lhs; whnf) ?_)
        refine ev_nil (hK13 _ ?_); clear hK13
        refine good_ret ?_
        repeat (first | refine thenQ_ret ?_ | refine blockQ_ret ?_)
        refine ret_tmp (st := _) rfl (by conv => lhs; whnf) rfl ?_
        clear hK9
        first | rfl | (exfalso; omega)
      · replace hb12 := dT hb12
        obtain ⟨p, hp⟩ := getL (xs := xs) (n := (i : Int)) (by omega) (by omega)
        replace hp : xs[i]? = some p := hp
        refine ev_nil (hK10 _ ?_); clear hK10
        refine good_condT rfl ?_
        refine good_skip (hK9 _ ?_); clear hK9
        refine good_seq fun K14 hK14 => ?_
        refine good_block ?_
        refine good_seq fun K15 hK15 => ?_
        refine good_draw 9 hmix (by kernel_rfl) rfl ?_
        refine qo_q rfl (q_move (by conv => lhs; whnf) ?_)
        refine qo_q rfl (q_move (by conv => lhs; whnf) ?_)
        refine qo_q rfl (q_idx tE37 rfl rfl (by exact Int.natCast_nonneg _) (by exact map_get hp) rfl ?_)
        refine qo_q rfl (q_load tA2 rfl ?_)
        refine qo_q rfl (q_move (by conv => lhs; whnf) ?_)
        refine qo_q rfl (q_move (by conv => lhs; whnf) ?_)
        refine qo_q rfl (q_idx tE37 rfl rfl (by exact Int.natCast_nonneg _) (by exact map_get hp) rfl ?_)
        refine qo_q rfl (q_load tA2 rfl ?_)
        refine qo_q rfl (q_int rfl rfl ?_)
        intro b16 hb16; cases b16
        · replace hb16 := neF hb16
          refine qo_nil ?_
          refine ev_nil (hK15 _ ?_); clear hK15
          refine good_condF rfl ?_
          refine good_skip (hK14 _ ?_); clear hK14
          refine good_region rfl ?_
          refine ev_q rfl (q_move (by conv => lhs; whnf) ?_)
          refine ev_q rfl (q_int rfl rfl ?_)
          intro n17 hn17
          replace hn17 := in64 hn17 (by omega) (by omega)
          refine ev_q rfl (q_assign (by conv => lhs; whnf) ?_)
          refine ev_nil ?_
          clear hK7
          refine ⟨i + 1, ?_, ?_, ?_⟩
          · show _ ≤ _; omega
          · first | omega | (simp only []; omega) | (dsimp only; omega)
          · refine sub_weak ?_ ?_
            · exact weakH_none _
            · refine weakE_upd ?e5 ?r5 (weakE_upd ?e1 ?r1 (weakE_upd ?e0 ?r0 (weakE_junk _ _)))
              case e0 => first | rfl | exact fI (by omega) | (simp_all)
              case r0 => intro h hh; cases hh
              case e1 => first | rfl | exact fI (by omega) | (simp_all)
              case r1 => intro h hh; cases hh
              case e5 => first | rfl | exact fI (by omega) | (simp_all)
              case r5 => intro h hh; cases hh
        · replace hb16 := neT hb16
          refine qo_nil ?_
          refine ev_nil (hK15 _ ?_); clear hK15
          refine good_condT rfl ?_
          refine good_seq fun K18 hK18 => ?_
          refine good_region rfl ?_
          refine ev_q rfl (q_assign (by conv => lhs; whnf) ?_)
          refine ev_nil (hK18 _ ?_); clear hK18
          refine good_ret ?_
          repeat (first | refine thenQ_ret ?_ | refine blockQ_ret ?_)
          refine ret_tmp (st := _) rfl (by conv => lhs; whnf) rfl ?_
          clear hK7 hK14
          first | rfl | (exfalso; omega)
  · replace hb6 := neT hb6
    refine ev_nil (hK3 _ ?_); clear hK3
    refine good_condT rfl ?_
    refine good_seq fun K19 hK19 => ?_
    refine good_region rfl ?_
    refine ev_q rfl (q_assign (by conv => lhs; whnf) ?_)
    refine ev_nil (hK19 _ ?_); clear hK19
    refine good_ret ?_
    repeat (first | refine thenQ_ret ?_ | refine blockQ_ret ?_)
    refine ret_tmp (st := _) rfl (by conv => lhs; whnf) rfl ?_
    clear hK2
    first | rfl | (exfalso; omega)

-- laws.markInt64S
set_option maxRecDepth 20000 in
set_option maxHeartbeats 2000000 in
theorem D_laws_markInt64S (xs : List Int) (k : Int) (hx : xs.length ≤ 17592186044416) (hk : 0 ≤ k ∧ k ≤ 1000000000000000) : DenX Try.prog 39 [(1000000, .row 2 1 (xs.map ci))] [.own 1000000 xs.length, .s (.int .i64 k)] [(1000000, .row 2 1 (mkC k xs xs.length))] (.s (.int .i64 (k + xs.length))) := by
  refine denX_of_good Try.func39 (by decide) rfl (Nat.le_of_ble_eq_true rfl) (Nat.le_of_ble_eq_true rfl) rfl ?_
  refine good_seq fun K1 hK1 => ?_
  refine good_region rfl ?_
  refine ev_q rfl (q_assign (by conv => lhs; whnf) ?_)
  refine ev_nil (hK1 _ ?_); clear hK1
  refine good_seq fun K2 hK2 => ?_
  refine good_seq fun K3 hK3 => ?_
  refine good_region rfl ?_
  refine ev_q rfl (q_assign (by conv => lhs; whnf) ?_)
  refine ev_nil (hK3 _ ?_); clear hK3
  refine good_block ?_
  refine good_loop (α := Nat) (fun i => { env := upd (upd (upd ((fun _ => .junk)) 0 (.own 1000000 xs.length)) 1 (.s (.int .i64 (k + i)))) 5 (.s (.int .i64 i)), H := upd ((fun _ => none)) 1000000 (some (.row 2 1 (mkC k xs i))) }) (fun i => i ≤ xs.length) (fun i => xs.length - i) 0 ?_ ?_ ?_
  · show 0 ≤ _; omega
  · refine sub_weak ?_ ?_
    · exact weakH_row (rowEq (mkC0.symm)) (weakH_none _)
    · refine weakE_upd ?e5 ?r5 (weakE_upd ?e1 ?r1 (weakE_upd ?e0 ?r0 (weakE_junk _ _)))
      case e0 => first | rfl | exact fI (by omega) | (simp_all)
      case r0 => intro h hh; simp [refs] at hh; subst hh; rfl
      case e1 => first | rfl | exact fI (by omega) | (simp_all)
      case r1 => intro h hh; cases hh
      case e5 => first | rfl | exact fI (by omega) | (simp_all)
      case r5 => intro h hh; cases hh
  · rintro i hI
    refine good_seq fun K4 hK4 => ?_
    refine good_seq fun K5 hK5 => ?_
    refine good_region rfl ?_
    refine ev_q rfl (q_move (by conv => lhs; whnf) ?_)
    refine ev_q rfl (q_move (by conv => lhs; whnf) ?_)
    refine ev_q rfl (q_len tEs37 rfl ?_)
    intro n6 hn6
    try simp only [List.length_map] at hn6
    refine ev_q rfl (q_int rfl rfl ?_)
    intro b7 hb7; cases b7
    · replace hb7 := dF hb7
      refine ev_nil (hK5 _ ?_); clear hK5
      refine good_condF rfl ?_
      refine good_exit ?_
      repeat (first | refine thenQ_exit ?_ | refine blockQ_pass rfl ?_)
      refine blockQ_exit (hK2 _ ?_); clear hK2
      refine good_seq fun K8 hK8 => ?_
      refine good_region rfl ?_
      refine ev_q rfl (q_move (by conv => lhs; whnf) ?_)
      refine ev_q rfl (q_assign (by conv => lhs; whnf) ?_)
      refine ev_nil (hK8 _ ?_); clear hK8
      refine good_ret ?_
      repeat (first | refine thenQ_ret ?_ | refine blockQ_ret ?_)
      refine fx_tmp rfl (by conv => lhs; whnf) ?_
      clear hK4
      exact ⟨_, conv_eq (by first | rfl | exact fI (by first | omega | grind) | (exfalso; first | omega | grind)), weakH_row (rowEq (by rw [show i = xs.length by omega])) (weakH_none _), refsIn_ok rfl⟩
    · replace hb7 := dT hb7
      obtain ⟨p, hp⟩ := getL (xs := xs) (n := (i : Int)) (by omega) (by omega)
      refine ev_nil (hK5 _ ?_); clear hK5
      refine good_condT rfl ?_
      refine good_skip (hK4 _ ?_); clear hK4
      refine good_seq fun K9 hK9 => ?_
      refine good_block ?_
      refine good_seq fun K10 hK10 => ?_
      refine good_region rfl ?_
      refine ev_q rfl (q_move (by conv => lhs; whnf) ?_)
      refine ev_q rfl (q_move (by conv => lhs; whnf) ?_)
      refine ev_q rfl (q_move (by conv => lhs; whnf) ?_)
      refine ev_q rfl (q_idxO tE37 rfl rfl rfl (by exact Int.natCast_nonneg _) (by omega) rfl ?_)
      refine ev_k rfl (k_storeE sz2 rfl (by conv => lhs; whnf) rfl rfl rfl (Nat.le_of_ble_eq_true rfl) rfl (by exact mkC_get hp) (Nat.le_of_ble_eq_true rfl) rfl ?_)
      refine ev_nil (hK10 _ ?_); clear hK10
      refine good_region rfl ?_
      refine ev_q rfl (q_move (by conv => lhs; whnf) ?_)
      refine ev_q rfl (q_int rfl rfl ?_)
      intro n11 hn11
      replace hn11 := in64 hn11 (by omega) (by omega)
      refine ev_q rfl (q_assign (by conv => lhs; whnf) ?_)
      refine ev_nil (hK9 _ ?_); clear hK9
      refine good_region rfl ?_
      refine ev_q rfl (q_move (by conv => lhs; whnf) ?_)
      refine ev_q rfl (q_int rfl rfl ?_)
      intro n12 hn12
      replace hn12 := in64 hn12 (by omega) (by omega)
      refine ev_q rfl (q_assign (by conv => lhs; whnf) ?_)
      refine ev_nil ?_
      clear hK2
      refine ⟨i + 1, ?_, ?_, ?_⟩
      · show _ ≤ _; omega
      · first | omega | (simp only []; omega) | (dsimp only; omega)
      · refine sub_weak ?_ ?_
        · exact weakH_row (rowEq (mkC_set (by omega))) (weakH_none _)
        · refine weakE_upd ?e5 ?r5 (weakE_upd ?e1 ?r1 (weakE_upd ?e0 ?r0 (weakE_junk _ _)))
          case e0 => first | rfl | exact fI (by omega) | (simp_all)
          case r0 => intro h hh; simp [refs] at hh; subst hh; rfl
          case e1 => first | rfl | exact fI (by omega) | (simp_all)
          case r1 => intro h hh; cases hh
          case e5 => first | rfl | exact fI (by omega) | (simp_all)
          case r5 => intro h hh; cases hh

-- laws.heldInt64S
set_option maxRecDepth 20000 in
set_option maxHeartbeats 2000000 in
theorem D_laws_heldInt64S (xs : List Int) (k : Int) (hx : xs.length ≤ 17592186044416) (hk : 0 ≤ k ∧ k ≤ 1000000000000000) : Den Try.prog 40 [.lst 1 (mkC k xs xs.length), .s (.int .i64 k)] (.s (.int .i64 (k + xs.length))) := by
  have hl := mkC_len (k := k) (xs := xs) (Nat.le_refl _)
  refine den_of_good Try.func40 (by decide) rfl (Nat.le_of_ble_eq_true rfl) (Nat.le_of_ble_eq_true rfl) ?_
  refine good_seq fun K1 hK1 => ?_
  refine good_region rfl ?_
  refine ev_q rfl (q_assign (by conv => lhs; whnf) ?_)
  refine ev_nil (hK1 _ ?_); clear hK1
  refine good_seq fun K2 hK2 => ?_
  refine good_seq fun K3 hK3 => ?_
  refine good_region rfl ?_
  refine ev_q rfl (q_assign (by conv => lhs; whnf) ?_)
  refine ev_nil (hK3 _ ?_); clear hK3
  refine good_block ?_
  refine good_loop (α := Nat) (fun i => { env := upd (upd (upd ((fun _ => .junk)) 0 (.lst 1 (mkC k xs xs.length))) 1 (.s (.int .i64 (k + i)))) 5 (.s (.int .i64 i)), H := fun _ => none }) (fun i => i ≤ xs.length) (fun i => xs.length - i) 0 ?_ ?_ ?_
  · show 0 ≤ _; omega
  · refine sub_weak ?_ ?_
    · exact weakH_none _
    · refine weakE_upd ?e5 ?r5 (weakE_upd ?e1 ?r1 (weakE_upd ?e0 ?r0 (weakE_junk _ _)))
      case e0 => first | rfl | exact fI (by omega) | (simp_all)
      case r0 => intro h hh; cases hh
      case e1 => first | rfl | exact fI (by omega) | (simp_all)
      case r1 => intro h hh; cases hh
      case e5 => first | rfl | exact fI (by omega) | (simp_all)
      case r5 => intro h hh; cases hh
  · rintro i hI
    refine good_seq fun K4 hK4 => ?_
    refine good_seq fun K5 hK5 => ?_
    refine good_region rfl ?_
    refine ev_q rfl (q_move (by conv => lhs; whnf) ?_)
    refine ev_q rfl (q_move (by conv => lhs; whnf) ?_)
    refine ev_q rfl (q_len tEs37 rfl ?_)
    intro n6 hn6
    try simp only [List.length_map] at hn6
    refine ev_q rfl (q_int rfl rfl ?_)
    intro b7 hb7; cases b7
    · replace hb7 := dF hb7
      refine ev_nil (hK5 _ ?_); clear hK5
      refine good_condF rfl ?_
      refine good_exit ?_
      repeat (first | refine thenQ_exit ?_ | refine blockQ_pass rfl ?_)
      refine blockQ_exit (hK2 _ ?_); clear hK2
      refine good_seq fun K8 hK8 => ?_
      refine good_region rfl ?_
      refine ev_q rfl (q_move (by conv => lhs; whnf) ?_)
      refine ev_q rfl (q_assign (by conv => lhs; whnf) ?_)
      refine ev_nil (hK8 _ ?_); clear hK8
      refine good_ret ?_
      repeat (first | refine thenQ_ret ?_ | refine blockQ_ret ?_)
      refine ret_tmp (st := _) rfl (by conv => lhs; whnf) rfl ?_
      clear hK4
      first | rfl | exact fI (by first | omega | grind) | (exfalso; first | omega | grind)
    · replace hb7 := dT hb7
      refine ev_nil (hK5 _ ?_); clear hK5
      refine good_condT rfl ?_
      refine good_skip (hK4 _ ?_); clear hK4
      refine good_seq fun K9 hK9 => ?_
      refine good_block ?_
      refine good_seq fun K10 hK10 => ?_
      refine good_seq fun K11 hK11 => ?_
      refine good_region rfl ?_
      refine ev_q rfl (q_move (by conv => lhs; whnf) ?_)
      refine ev_q rfl (q_move (by conv => lhs; whnf) ?_)
      refine ev_q rfl (q_idx tE37 rfl rfl (by exact Int.natCast_nonneg _) (by exact mkC_held (by omega)) rfl ?_)
      refine ev_q rfl (q_load tA2 rfl ?_)
      refine ev_q rfl (q_move (by conv => lhs; whnf) ?_)
      refine ev_q rfl (q_int rfl rfl ?_)
      intro b12 hb12; cases b12
      · replace hb12 := neF hb12
        refine ev_nil (hK11 _ ?_); clear hK11
        refine good_condF rfl ?_
        refine good_skip (hK10 _ ?_); clear hK10
        refine good_region rfl ?_
        refine ev_q rfl (q_move (by conv => lhs; whnf) ?_)
        refine ev_q rfl (q_int rfl rfl ?_)
        intro n13 hn13
        replace hn13 := in64 hn13 (by omega) (by omega)
        refine ev_q rfl (q_assign (by conv => lhs; whnf) ?_)
        refine ev_nil (hK9 _ ?_); clear hK9
        refine good_region rfl ?_
        refine ev_q rfl (q_move (by conv => lhs; whnf) ?_)
        refine ev_q rfl (q_int rfl rfl ?_)
        intro n14 hn14
        replace hn14 := in64 hn14 (by omega) (by omega)
        refine ev_q rfl (q_assign (by conv => lhs; whnf) ?_)
        refine ev_nil ?_
        clear hK2
        refine ⟨i + 1, ?_, ?_, ?_⟩
        · show _ ≤ _; omega
        · first | omega | (simp only []; omega) | (dsimp only; omega)
        · refine sub_weak ?_ ?_
          · exact weakH_none _
          · refine weakE_upd ?e5 ?r5 (weakE_upd ?e1 ?r1 (weakE_upd ?e0 ?r0 (weakE_junk _ _)))
            case e0 => first | rfl | exact fI (by omega) | (simp_all)
            case r0 => intro h hh; cases hh
            case e1 => first | rfl | exact fI (by omega) | (simp_all)
            case r1 => intro h hh; cases hh
            case e5 => first | rfl | exact fI (by omega) | (simp_all)
            case r5 => intro h hh; cases hh
      · replace hb12 := neT hb12
        refine ev_nil (hK11 _ ?_); clear hK11
        refine good_condT rfl ?_
        refine good_seq fun K15 hK15 => ?_
        refine good_region rfl ?_
        refine ev_q rfl (q_assign (by conv => lhs; whnf) ?_)
        refine ev_nil (hK15 _ ?_); clear hK15
        refine good_ret ?_
        repeat (first | refine thenQ_ret ?_ | refine blockQ_ret ?_)
        refine ret_tmp (st := _) rfl (by conv => lhs; whnf) rfl ?_
        clear hK2 hK9 hK10
        first | rfl | exact fI (by first | omega | grind) | (exfalso; first | omega | grind)

-- laws.markText
set_option maxRecDepth 20000 in
set_option maxHeartbeats 2000000 in
theorem D_laws_markText (k : Int) (hk : k ≤ 100000000000000) : Den Try.prog 72 [.s (.int .i64 k)] (.s (.string (mkT k))) := by
  refine den_of_good Try.func72 (by decide) rfl (Nat.le_of_ble_eq_true rfl) (Nat.le_of_ble_eq_true rfl) ?_
  refine good_seq fun K1 hK1 => ?_
  refine good_region rfl ?_
  refine ev_q rfl (q_assign (by conv => lhs; whnf) ?_)
  refine ev_nil (hK1 _ ?_); clear hK1
  refine good_seq fun K2 hK2 => ?_
  refine good_seq fun K3 hK3 => ?_
  refine good_region rfl ?_
  refine ev_q rfl (q_move (by conv => lhs; whnf) ?_)
  refine ev_q rfl (q_int rfl rfl ?_)
  intro b4 hb4; cases b4
  · replace hb4 := dF hb4
    refine ev_nil (hK3 _ ?_); clear hK3
    refine good_condF rfl ?_
    refine good_skip (hK2 _ ?_); clear hK2
    refine good_seq fun K5 hK5 => ?_
    refine good_region rfl ?_
    refine ev_q rfl (q_assign (by conv => lhs; whnf) ?_)
    refine ev_nil (hK5 _ ?_); clear hK5
    refine good_seq fun K6 hK6 => ?_
    refine good_block ?_
    refine good_loop (α := Nat × ByteArray) (fun (n, o) => { env := upd (upd ((fun _ => .junk)) 0 (.s (.int .i64 ((n : Int))))) 3 (.s (.string o)), H := fun _ => none }) (fun (n, o) => mkD n o = mkD k.toNat ⟨#[]⟩ ∧ (o.size : Int) + n ≤ k) (fun (n, o) => n) (k.toNat, ⟨#[]⟩) ?_ ?_ ?_
    · exact ⟨rfl, by show ((0 : Nat) : Int) + _ ≤ _; omega⟩
    · refine sub_weak ?_ ?_
      · exact weakH_none _
      · refine weakE_upd ?e3 ?r3 (weakE_upd ?e0 ?r0 (weakE_junk _ _))
        case e0 => first | rfl | exact fI (by omega) | (exact fI (by omega))
        case r0 => intro h hh; cases hh
        case e3 => first | rfl | exact fI (by omega) | (rfl)
        case r3 => intro h hh; cases hh
    · rintro ⟨n, o⟩ ⟨hI, hJ⟩
      refine good_seq fun K7 hK7 => ?_
      refine good_seq fun K8 hK8 => ?_
      refine good_region rfl ?_
      refine ev_q rfl (q_move (by conv => lhs; whnf) ?_)
      refine ev_q rfl (q_int rfl rfl ?_)
      intro b9 hb9; cases b9
      · replace hb9 := dF hb9
        refine ev_nil (hK8 _ ?_); clear hK8
        refine good_condF rfl ?_
        refine good_exit ?_
        repeat (first | refine thenQ_exit ?_ | refine blockQ_pass rfl ?_)
        refine blockQ_exit (hK6 _ ?_); clear hK6
        refine good_seq fun K10 hK10 => ?_
        refine good_region rfl ?_
        refine ev_q rfl (q_move (by conv => lhs; whnf) ?_)
        refine ev_q rfl (q_str rfl rfl ⟨by have : (⟨#[109]⟩ : ByteArray).size = 1 := rfl; omega, ?_⟩)
        intro s11 hs11
        refine ev_q rfl (q_assign (by conv => lhs; whnf) ?_)
        refine ev_nil (hK10 _ ?_); clear hK10
        refine good_ret ?_
        repeat (first | refine thenQ_ret ?_ | refine blockQ_ret ?_)
        refine ret_tmp (st := _) rfl (by conv => lhs; whnf) rfl ?_
        clear hK7
        first | exact congrArg (fun s => AV.s (Value.string s)) (mkT0 (k := k) (by omega)).symm | (have e := mkT1 (k := k) (by omega); rw [mkD_end (by omega)] at hI; rw [e, ← hI]; simp_all)
      · replace hb9 := dT hb9
        refine ev_nil (hK8 _ ?_); clear hK8
        refine good_condT rfl ?_
        refine good_skip (hK7 _ ?_); clear hK7
        refine good_block ?_
        refine good_seq fun K12 hK12 => ?_
        refine good_region rfl ?_
        refine ev_q rfl (q_move (by conv => lhs; whnf) ?_)
        refine ev_q rfl (q_int rfl rfl ⟨by omega, ?_⟩)
        intro n13 hn13
        first | replace hn13 := remE hn13 (by omega) | skip
        refine ev_q rfl (q_int rfl rfl ?_)
        intro n14 hn14
        replace hn14 := in64 hn14 (by omega) (by omega)
        refine ev_q rfl (q_conv tK3 tK5 rfl ?_)
        intro n15 hn15
        replace hn15 := wrap8 hn15 (by omega) (by omega)
        refine ev_k rfl (k_lit tE46 zA5 rfl rfl (by decide) (by decide) rfl rfl rfl ?_)
        refine ev_q rfl (q_txtO tByS46 tStr9 rfl rfl (by rfl) ?_)
        intro s16 hs16
        refine ev_q rfl (q_move (by conv => lhs; whnf) ?_)
        refine ev_q rfl (q_str rfl rfl ⟨by have := congrArg ByteArray.size hs16; rw [strOfNums_size] at this; simp at this; omega, ?_⟩)
        intro s17 hs17
        refine ev_q rfl (q_assign (by conv => lhs; whnf) ?_)
        refine ev_nil (hK12 _ ?_); clear hK12
        refine good_region rfl ?_
        refine ev_q rfl (q_move (by conv => lhs; whnf) ?_)
        refine ev_q rfl (q_int rfl rfl ⟨by omega, ?_⟩)
        intro n18 hn18
        first | replace hn18 := quoE hn18 (by omega) (by omega) | replace hn18 := quoT hn18 (by omega) (by omega)
        refine ev_q rfl (q_assign (by conv => lhs; whnf) ?_)
        refine ev_nil ?_
        clear hK6
        refine ⟨(n18.toNat, s17), ?_, ?_, ?_⟩
        · have e15 : s17 = strOfNums [n15] ++ o := by rw [hs17, hs16]
          have hz := str1_size e15
          exact ⟨(mkD_step (by omega) (by omega) (by omega) e15).trans hI, by first | omega | (dsimp only; omega)⟩
        · first | omega | (dsimp only; omega)
        · refine sub_weak ?_ ?_
          · exact weakH_none _
          · refine weakE_upd ?e3 ?r3 (weakE_upd ?e0 ?r0 (weakE_junk _ _))
            case e0 => first | rfl | exact fI (by omega) | (exact fI (by omega))
            case r0 => intro h hh; cases hh
            case e3 => first | rfl | exact fI (by omega) | (rfl)
            case r3 => intro h hh; cases hh
  · replace hb4 := dT hb4
    refine ev_nil (hK3 _ ?_); clear hK3
    refine good_condT rfl ?_
    refine good_seq fun K19 hK19 => ?_
    refine good_region rfl ?_
    refine ev_q rfl (q_assign (by conv => lhs; whnf) ?_)
    refine ev_nil (hK19 _ ?_); clear hK19
    refine good_ret ?_
    repeat (first | refine thenQ_ret ?_ | refine blockQ_ret ?_)
    refine ret_tmp (st := _) rfl (by conv => lhs; whnf) rfl ?_
    clear hK2
    first | exact congrArg (fun s => AV.s (Value.string s)) (mkT0 (k := k) (by omega)).symm | (have e := mkT1 (k := k) (by omega); rw [mkD_end (by omega)] at hI; rw [e, ← hI]; simp_all)

-- impl.allWithin$1
set_option maxRecDepth 20000 in
set_option maxHeartbeats 2000000 in
theorem D_impl_allWithin_1 (a lo hi : Int)  : Den Try.prog 100 [.s (.int .i64 a), .rp [.s (.int .i64 lo)], .rp [.s (.int .i64 hi)]] (.s (.bool (decide (¬ (lo ≤ a ∧ a ≤ hi))))) := by
  refine den_of_good Try.func100 (by decide) rfl (Nat.le_of_ble_eq_true rfl) (Nat.le_of_ble_eq_true rfl) ?_
  refine good_seq fun K1 hK1 => ?_
  refine good_region rfl ?_
  refine ev_q rfl (q_assign (by conv => lhs; whnf) ?_)
  refine ev_nil (hK1 _ ?_); clear hK1
  refine good_seq fun K2 hK2 => ?_
  refine good_region rfl ?_
  refine ev_q rfl (q_move (by conv => lhs; whnf) ?_)
  refine ev_q rfl (q_load tA2 rfl ?_)
  refine ev_q rfl (q_load tA2 rfl ?_)
  refine ev_q rfl (q_callB rfl rfl (rfl) (D_impl_within ..) ?_)
  intro b3 hb3; cases b3
  · first | replace hb3 := dF hb3 | skip
    refine ev_q rfl (q_not rfl rfl ?_)
    refine ev_q rfl (q_assign (by conv => lhs; whnf) ?_)
    refine ev_nil (hK2 _ ?_); clear hK2
    refine good_ret ?_
    repeat (first | refine thenQ_ret ?_ | refine blockQ_ret ?_)
    refine ret_tmp (st := _) rfl (by conv => lhs; whnf) rfl ?_
    first | rfl | exact fT (by first | omega | grind) | exact fF (by first | omega | grind) | exact fT' (by first | omega | grind) | (exfalso; first | omega | grind)
  · first | replace hb3 := dT hb3 | skip
    refine ev_q rfl (q_not rfl rfl ?_)
    refine ev_q rfl (q_assign (by conv => lhs; whnf) ?_)
    refine ev_nil (hK2 _ ?_); clear hK2
    refine good_ret ?_
    repeat (first | refine thenQ_ret ?_ | refine blockQ_ret ?_)
    refine ret_tmp (st := _) rfl (by conv => lhs; whnf) rfl ?_
    first | rfl | exact fT (by first | omega | grind) | exact fF (by first | omega | grind) | exact fT' (by first | omega | grind) | (exfalso; first | omega | grind)

-- slices.IndexFunc[[]int64,int64]
set_option maxRecDepth 20000 in
set_option maxHeartbeats 2000000 in
theorem D_slices_IndexFunc_int64_int64 (f : Nat) (caps : List AV) (p : Int → Prop) [DecidablePred p] (xs : List Int) (hx : xs.length ≤ 17592186044416) (hf : ∀ x ∈ xs, Den Try.prog f (.s (.int .i64 x) :: caps) (.s (.bool (decide (p x))))) : Den Try.prog 102 [.lst 1 (xs.map ci), .fn f caps] (.s (.int .i64 ((match xs.findIdx? (fun x => decide (p x)) with | some j => (j : Int) | none => -1)))) := by
  refine den_of_good Try.func102 (by decide) rfl (Nat.le_of_ble_eq_true rfl) (Nat.le_of_ble_eq_true rfl) ?_
  refine good_seq fun K1 hK1 => ?_
  refine good_region rfl ?_
  refine ev_q rfl (q_assign (by conv => lhs; whnf) ?_)
  refine ev_nil (hK1 _ ?_); clear hK1
  refine good_seq fun K2 hK2 => ?_
  refine good_seq fun K3 hK3 => ?_
  refine good_region rfl ?_
  refine ev_q rfl (q_move (by conv => lhs; whnf) ?_)
  refine ev_q rfl (q_len tEs37 rfl ?_)
  intro n4 hn4
  try simp only [List.length_map] at hn4
  refine ev_q rfl (q_move (by conv => lhs; whnf) ?_)
  refine ev_nil (hK3 _ ?_); clear hK3
  refine good_block ?_
  refine good_loop (α := Nat) (fun i => { env := upd (upd (upd (upd ((fun _ => .junk)) 0 (.lst 1 (xs.map ci))) 1 (.fn f caps)) 7 (.s (.int .i64 ((xs.length : Int))))) 8 (.s (.int .i64 i)), H := fun _ => none }) (fun i => i ≤ xs.length ∧ ∀ j q, j < i → xs[j]? = some q → ¬ p q) (fun i => xs.length - i) 0 ?_ ?_ ?_
  · exact ⟨by omega, fun j u hj => by omega⟩
  · refine sub_weak ?_ ?_
    · exact weakH_none _
    · refine weakE_upd ?e8 ?r8 (weakE_upd ?e7 ?r7 (weakE_upd ?e1 ?r1 (weakE_upd ?e0 ?r0 (weakE_junk _ _))))
      case e0 => first | rfl | exact fI (by omega) | (simp_all)
      case r0 => intro h hh; cases hh
      case e1 => first | rfl | exact fI (by omega) | (simp_all)
      case r1 => intro h hh; cases hh
      case e7 => first | rfl | exact fI (by omega) | (simp_all)
      case r7 => intro h hh; cases hh
      case e8 => first | rfl | exact fI (by omega) | (simp_all)
      case r8 => intro h hh; cases hh
  · rintro i ⟨hI, hJ⟩
    refine good_seq fun K5 hK5 => ?_
    refine good_region rfl ?_
    refine ev_q rfl (q_int rfl rfl ?_)
    intro b6 hb6; cases b6
    · replace hb6 := dF hb6
      refine ev_nil (hK5 _ ?_); clear hK5
      refine good_seq fun K7 hK7 => ?_
      refine good_condF rfl ?_
      refine good_exit ?_
      repeat (first | refine thenQ_exit ?_ | refine blockQ_pass rfl ?_)
      refine blockQ_exit (hK2 _ ?_); clear hK2
      refine good_seq fun K8 hK8 => ?_
      refine good_region rfl ?_
      refine ev_q rfl (q_assign (by conv => lhs; whnf) ?_)
      refine ev_nil (hK8 _ ?_); clear hK8
      refine good_ret ?_
      repeat (first | refine thenQ_ret ?_ | refine blockQ_ret ?_)
      refine ret_tmp (st := _) rfl (by conv => lhs; whnf) rfl ?_
      clear hK7
      first | exact fI (by have e := fi_some (i := i) hq hJ (by assumption); simp only [e]) | exact fI (by have e := fi_none (all_finI (Q := fun _ q => ¬ p q) hJ (by omega)); simp only [e])
    · replace hb6 := dT hb6
      obtain ⟨q, hq⟩ := getL (xs := xs) (n := (i : Int)) (by omega) (by omega)
      replace hq : xs[i]? = some q := hq
      refine ev_nil (hK5 _ ?_); clear hK5
      refine good_seq fun K9 hK9 => ?_
      refine good_condT rfl ?_
      refine good_skip (hK9 _ ?_); clear hK9
      refine good_seq fun K10 hK10 => ?_
      refine good_block ?_
      refine good_seq fun K11 hK11 => ?_
      refine good_region rfl ?_
      refine ev_q rfl (q_move (by conv => lhs; whnf) ?_)
      refine ev_q rfl (q_assign (by conv => lhs; whnf) ?_)
      refine ev_nil (hK11 _ ?_); clear hK11
      refine good_seq fun K12 hK12 => ?_
      refine good_region rfl ?_
      refine ev_q rfl (q_move (by conv => lhs; whnf) ?_)
      refine ev_q rfl (q_move (by conv => lhs; whnf) ?_)
      refine ev_q rfl (q_move (by conv => lhs; whnf) ?_)
      refine ev_q rfl (q_idx tE37 rfl rfl (by exact Int.natCast_nonneg _) (by exact map_get hq) rfl ?_)
      refine ev_q rfl (q_load tA2 rfl ?_)
      refine ev_q rfl (q_callB rfl rfl (rfl) (hf _ (List.mem_of_getElem? hq)) ?_)
      intro b13 hb13; cases b13
      · first | replace hb13 := dF hb13 | skip
        refine ev_nil (hK12 _ ?_); clear hK12
        refine good_condF rfl ?_
        refine good_skip (hK10 _ ?_); clear hK10
        refine good_region rfl ?_
        refine ev_q rfl (q_int rfl rfl ?_)
        intro n14 hn14
        replace hn14 := in64 hn14 (by omega) (by omega)
        refine ev_q rfl (q_move (by conv => lhs; whnf) ?_)
        refine ev_nil ?_
        clear hK2
        refine ⟨i + 1, ?_, ?_, ?_⟩
        · exact ⟨by omega, all_extI (Q := fun _ q => ¬ p q) hJ hq (by assumption)⟩
        · first | omega | (simp only []; omega) | (dsimp only; omega)
        · refine sub_weak ?_ ?_
          · exact weakH_none _
          · refine weakE_upd ?e8 ?r8 (weakE_upd ?e7 ?r7 (weakE_upd ?e1 ?r1 (weakE_upd ?e0 ?r0 (weakE_junk _ _))))
            case e0 => first | rfl | exact fI (by omega) | (simp_all)
            case r0 => intro h hh; cases hh
            case e1 => first | rfl | exact fI (by omega) | (simp_all)
            case r1 => intro h hh; cases hh
            case e7 => first | rfl | exact fI (by omega) | (simp_all)
            case r7 => intro h hh; cases hh
            case e8 => first | rfl | exact fI (by omega) | (simp_all)
            case r8 => intro h hh; cases hh
      · first | replace hb13 := dT hb13 | skip
        refine ev_nil (hK12 _ ?_); clear hK12
        refine good_condT rfl ?_
        refine good_seq fun K15 hK15 => ?_
        refine good_region rfl ?_
        refine ev_q rfl (q_move (by conv => lhs; whnf) ?_)
        refine ev_q rfl (q_assign (by conv => lhs; whnf) ?_)
        refine ev_nil (hK15 _ ?_); clear hK15
        refine good_ret ?_
        repeat (first | refine thenQ_ret ?_ | refine blockQ_ret ?_)
        refine ret_tmp (st := _) rfl (by conv => lhs; whnf) rfl ?_
        clear hK2 hK10
        first | exact fI (by have e := fi_some (i := i) hq hJ (by assumption); simp only [e]) | exact fI (by have e := fi_none (all_finI (Q := fun _ q => ¬ p q) hJ (by omega)); simp only [e])

-- slices.ContainsFunc[[]int64,int64]
set_option maxRecDepth 20000 in
set_option maxHeartbeats 2000000 in
theorem D_slices_ContainsFunc_int64_int64 (f : Nat) (caps : List AV) (p : Int → Prop) [DecidablePred p] (xs : List Int) [Decidable (∃ x ∈ xs, p x)] (hx : xs.length ≤ 17592186044416) (hf : ∀ x ∈ xs, Den Try.prog f (.s (.int .i64 x) :: caps) (.s (.bool (decide (p x))))) : Den Try.prog 99 [.lst 1 (xs.map ci), .fn f caps] (.s (.bool (decide (∃ x ∈ xs, p x)))) := by
  refine den_of_good Try.func99 (by decide) rfl (Nat.le_of_ble_eq_true rfl) (Nat.le_of_ble_eq_true rfl) ?_
  refine good_seq fun K1 hK1 => ?_
  refine good_region rfl ?_
  refine ev_q rfl (q_assign (by conv => lhs; whnf) ?_)
  refine ev_nil (hK1 _ ?_); clear hK1
  refine good_seq fun K2 hK2 => ?_
  refine good_region rfl ?_
  refine ev_q rfl (q_move (by conv => lhs; whnf) ?_)
  refine ev_q rfl (q_move (by conv => lhs; whnf) ?_)
  refine ev_q rfl (q_callI rfl rfl (rfl) (D_slices_IndexFunc_int64_int64 f caps p xs hx hf) ?_)
  intro n3 hn3
  refine ev_q rfl (q_int rfl rfl ?_)
  intro b4 hb4; cases b4
  · replace hb4 := dF hb4
    refine ev_q rfl (q_assign (by conv => lhs; whnf) ?_)
    refine ev_nil (hK2 _ ?_); clear hK2
    refine good_ret ?_
    repeat (first | refine thenQ_ret ?_ | refine blockQ_ret ?_)
    refine ret_tmp (st := _) rfl (by conv => lhs; whnf) rfl ?_
    first | exact fT (fi_any.1 (by omega)) | exact fF (fun h => absurd (fi_any.2 h) (by omega))
  · replace hb4 := dT hb4
    refine ev_q rfl (q_assign (by conv => lhs; whnf) ?_)
    refine ev_nil (hK2 _ ?_); clear hK2
    refine good_ret ?_
    repeat (first | refine thenQ_ret ?_ | refine blockQ_ret ?_)
    refine ret_tmp (st := _) rfl (by conv => lhs; whnf) rfl ?_
    first | exact fT (fi_any.1 (by omega)) | exact fF (fun h => absurd (fi_any.2 h) (by omega))

-- impl.allWithin
set_option maxRecDepth 20000 in
set_option maxHeartbeats 2000000 in
theorem D_impl_allWithin (xs : List Int) (lo hi : Int) (hx : xs.length ≤ 17592186044416) : Den Try.prog 90 [.lst 1 (xs.map ci), .s (.int .i64 lo), .s (.int .i64 hi)] (.s (.bool (decide (within xs lo hi)))) := by
  classical
  refine den_of_good Try.func90 (by decide) rfl (Nat.le_of_ble_eq_true rfl) (Nat.le_of_ble_eq_true rfl) ?_
  refine good_seq fun K1 hK1 => ?_
  refine good_region rfl ?_
  refine ev_k rfl (k_box (by conv => lhs; whnf) rfl rfl rfl ?_)
  refine ev_k rfl (k_box (by conv => lhs; whnf) rfl rfl rfl ?_)
  refine ev_q rfl (q_assign (by conv => lhs; whnf) ?_)
  refine ev_nil (hK1 _ ?_); clear hK1
  refine good_seq fun K2 hK2 => ?_
  refine good_region rfl ?_
  refine ev_q rfl (q_move (by conv => lhs; whnf) ?_)
  refine ev_q rfl (q_clo rfl rfl ?_)
  refine ev_q rfl (q_callB rfl rfl (rfl) (D_slices_ContainsFunc_int64_int64 _ _ (fun x => ¬ (lo ≤ x ∧ x ≤ hi)) xs hx (fun x _ => D_impl_allWithin_1 x lo hi)) ?_)
  intro b3 hb3; cases b3
  · first | replace hb3 := dF hb3 | skip
    refine ev_q rfl (q_not rfl rfl ?_)
    refine ev_q rfl (q_assign (by conv => lhs; whnf) ?_)
    refine ev_nil (hK2 _ ?_); clear hK2
    refine good_ret ?_
    repeat (first | refine thenQ_ret ?_ | refine blockQ_ret ?_)
    refine ret_tmp (st := _) rfl (by conv => lhs; whnf) rfl ?_
    first | exact fT (within_any.2 (by assumption)) | exact fF (fun h => absurd (within_any.1 h) (by simpa using ‹∃ x ∈ xs, ¬ (lo ≤ x ∧ x ≤ hi)›))
  · first | replace hb3 := dT hb3 | skip
    refine ev_q rfl (q_not rfl rfl ?_)
    refine ev_q rfl (q_assign (by conv => lhs; whnf) ?_)
    refine ev_nil (hK2 _ ?_); clear hK2
    refine good_ret ?_
    repeat (first | refine thenQ_ret ?_ | refine blockQ_ret ?_)
    refine ret_tmp (st := _) rfl (by conv => lhs; whnf) rfl ?_
    first | exact fT (within_any.2 (by assumption)) | exact fF (fun h => absurd (within_any.1 h) (by simpa using ‹∃ x ∈ xs, ¬ (lo ≤ x ∧ x ≤ hi)›))

-- spec.l01Small
set_option maxRecDepth 20000 in
set_option maxHeartbeats 2000000 in
theorem D_spec_l01Small (u : UInt8)  : Den Try.prog 95 [.s (.int .u8 u.toNat)] (.s (.bool (small u))) := by
  refine den_of_good Try.func95 (by decide) rfl (Nat.le_of_ble_eq_true rfl) (Nat.le_of_ble_eq_true rfl) ?_
  refine good_seq fun K1 hK1 => ?_
  refine good_region rfl ?_
  refine ev_q rfl (q_assign (by conv => lhs; whnf) ?_)
  refine ev_nil (hK1 _ ?_); clear hK1
  refine good_seq fun K2 hK2 => ?_
  refine good_region rfl ?_
  refine ev_q rfl (q_move (by conv => lhs; whnf) ?_)
  refine ev_q rfl (q_int rfl rfl ?_)
  intro b3 hb3; cases b3
  · replace hb3 := dF hb3
    refine ev_q rfl (q_move (by conv => lhs; whnf) ?_)
    refine ev_skip rfl ?_
    refine ev_skip rfl ?_
    refine ev_q rfl (q_pickF rfl (by conv => lhs; whnf) ?_)
    refine ev_q rfl (q_assign (by conv => lhs; whnf) ?_)
    refine ev_nil (hK2 _ ?_); clear hK2
    refine good_ret ?_
    repeat (first | refine thenQ_ret ?_ | refine blockQ_ret ?_)
    refine ret_tmp (st := _) rfl (by conv => lhs; whnf) rfl ?_
    exact fB (by simp only [small]; grind)
  · replace hb3 := dT hb3
    refine ev_q rfl (q_move (by conv => lhs; whnf) ?_)
    refine ev_q rfl (q_move (by conv => lhs; whnf) ?_)
    refine ev_q rfl (q_int rfl rfl ?_)
    intro b4 hb4; cases b4
    · replace hb4 := dF hb4
      refine ev_q rfl (q_pickT rfl (by conv => lhs; whnf) ?_)
      refine ev_q rfl (q_assign (by conv => lhs; whnf) ?_)
      refine ev_nil (hK2 _ ?_); clear hK2
      refine good_ret ?_
      repeat (first | refine thenQ_ret ?_ | refine blockQ_ret ?_)
      refine ret_tmp (st := _) rfl (by conv => lhs; whnf) rfl ?_
      exact fB (by simp only [small]; grind)
    · replace hb4 := dT hb4
      refine ev_q rfl (q_pickT rfl (by conv => lhs; whnf) ?_)
      refine ev_q rfl (q_assign (by conv => lhs; whnf) ?_)
      refine ev_nil (hK2 _ ?_); clear hK2
      refine good_ret ?_
      repeat (first | refine thenQ_ret ?_ | refine blockQ_ret ?_)
      refine ret_tmp (st := _) rfl (by conv => lhs; whnf) rfl ?_
      exact fB (by simp only [small]; grind)

-- spec.l01Digit
set_option maxRecDepth 20000 in
set_option maxHeartbeats 2000000 in
theorem D_spec_l01Digit (u : UInt8)  : Den Try.prog 96 [.s (.int .u8 u.toNat)] (.s (.bool (digit u))) := by
  refine den_of_good Try.func96 (by decide) rfl (Nat.le_of_ble_eq_true rfl) (Nat.le_of_ble_eq_true rfl) ?_
  refine good_seq fun K1 hK1 => ?_
  refine good_region rfl ?_
  refine ev_q rfl (q_assign (by conv => lhs; whnf) ?_)
  refine ev_nil (hK1 _ ?_); clear hK1
  refine good_seq fun K2 hK2 => ?_
  refine good_region rfl ?_
  refine ev_q rfl (q_move (by conv => lhs; whnf) ?_)
  refine ev_q rfl (q_int rfl rfl ?_)
  intro b3 hb3; cases b3
  · replace hb3 := dF hb3
    refine ev_q rfl (q_move (by conv => lhs; whnf) ?_)
    refine ev_skip rfl ?_
    refine ev_skip rfl ?_
    refine ev_q rfl (q_pickF rfl (by conv => lhs; whnf) ?_)
    refine ev_q rfl (q_assign (by conv => lhs; whnf) ?_)
    refine ev_nil (hK2 _ ?_); clear hK2
    refine good_ret ?_
    repeat (first | refine thenQ_ret ?_ | refine blockQ_ret ?_)
    refine ret_tmp (st := _) rfl (by conv => lhs; whnf) rfl ?_
    exact fB (by simp only [digit]; grind)
  · replace hb3 := dT hb3
    refine ev_q rfl (q_move (by conv => lhs; whnf) ?_)
    refine ev_q rfl (q_move (by conv => lhs; whnf) ?_)
    refine ev_q rfl (q_int rfl rfl ?_)
    intro b4 hb4; cases b4
    · replace hb4 := dF hb4
      refine ev_q rfl (q_pickT rfl (by conv => lhs; whnf) ?_)
      refine ev_q rfl (q_assign (by conv => lhs; whnf) ?_)
      refine ev_nil (hK2 _ ?_); clear hK2
      refine good_ret ?_
      repeat (first | refine thenQ_ret ?_ | refine blockQ_ret ?_)
      refine ret_tmp (st := _) rfl (by conv => lhs; whnf) rfl ?_
      exact fB (by simp only [digit]; grind)
    · replace hb4 := dT hb4
      refine ev_q rfl (q_pickT rfl (by conv => lhs; whnf) ?_)
      refine ev_q rfl (q_assign (by conv => lhs; whnf) ?_)
      refine ev_nil (hK2 _ ?_); clear hK2
      refine good_ret ?_
      repeat (first | refine thenQ_ret ?_ | refine blockQ_ret ?_)
      refine ret_tmp (st := _) rfl (by conv => lhs; whnf) rfl ?_
      exact fB (by simp only [digit]; grind)

-- impl.onlyNameBytes
set_option maxRecDepth 20000 in
set_option maxHeartbeats 2000000 in
theorem D_impl_onlyNameBytes (s : ByteArray) (hs : s.size ≤ 140737488351232) : Den Try.prog 97 [.s (.string s)] (.s (.bool (allNb s))) := by
  refine den_of_good Try.func97 (by decide) rfl (Nat.le_of_ble_eq_true rfl) (Nat.le_of_ble_eq_true rfl) ?_
  refine good_seq fun K1 hK1 => ?_
  refine good_region rfl ?_
  refine ev_q rfl (q_assign (by conv => lhs; whnf) ?_)
  refine ev_nil (hK1 _ ?_); clear hK1
  refine good_seq fun K2 hK2 => ?_
  refine good_seq fun K3 hK3 => ?_
  refine good_region rfl ?_
  refine ev_q rfl (q_move (by conv => lhs; whnf) ?_)
  refine ev_q rfl (q_lenS tStr9 rfl ?_)
  intro n4 hn4
  refine ev_q rfl (q_move (by conv => lhs; whnf) ?_)
  refine ev_nil (hK3 _ ?_); clear hK3
  refine good_block ?_
  refine good_loop (α := Nat) (fun i => { env := upd (upd (upd ((fun _ => .junk)) 0 (.s (.string s))) 6 (.s (.int .i64 (s.size)))) 7 (.s (.int .i64 i)), H := fun _ => none }) (fun i => i ≤ s.size ∧ ∀ j u, j < i → s[j]? = some u → nbc u = true) (fun i => s.size - i) 0 ?_ ?_ ?_
  · exact ⟨by omega, fun j u hj => by omega⟩
  · refine sub_weak ?_ ?_
    · exact weakH_none _
    · refine weakE_upd ?e7 ?r7 (weakE_upd ?e6 ?r6 (weakE_upd ?e0 ?r0 (weakE_junk _ _)))
      case e0 => first | rfl | exact fI (by omega) | (simp_all)
      case r0 => intro h hh; cases hh
      case e6 => first | rfl | exact fI (by omega) | (simp_all)
      case r6 => intro h hh; cases hh
      case e7 => first | rfl | exact fI (by omega) | (simp_all)
      case r7 => intro h hh; cases hh
  · rintro i ⟨hI, hJ⟩
    refine good_seq fun K5 hK5 => ?_
    refine good_region rfl ?_
    refine ev_q rfl (q_int rfl rfl ?_)
    intro b6 hb6; cases b6
    · replace hb6 := dF hb6
      refine ev_nil (hK5 _ ?_); clear hK5
      refine good_seq fun K7 hK7 => ?_
      refine good_condF rfl ?_
      refine good_exit ?_
      repeat (first | refine thenQ_exit ?_ | refine blockQ_pass rfl ?_)
      refine blockQ_exit (hK2 _ ?_); clear hK2
      refine good_seq fun K8 hK8 => ?_
      refine good_region rfl ?_
      refine ev_q rfl (q_assign (by conv => lhs; whnf) ?_)
      refine ev_nil (hK8 _ ?_); clear hK8
      refine good_ret ?_
      repeat (first | refine thenQ_ret ?_ | refine blockQ_ret ?_)
      refine ret_tmp (st := _) rfl (by conv => lhs; whnf) rfl ?_
      clear hK7
      first | exact fB (allNb_T (fun j u hj => hJ j u (by omega))).symm | exact fB (allNb_F hu (by simp only [nbc, small, digit]; grind)).symm
    · replace hb6 := dT hb6
      obtain ⟨u, hu⟩ := getB (s := s) (i := i) (by omega)
      refine ev_nil (hK5 _ ?_); clear hK5
      refine good_seq fun K9 hK9 => ?_
      refine good_condT rfl ?_
      refine good_skip (hK9 _ ?_); clear hK9
      refine good_seq fun K10 hK10 => ?_
      refine good_block ?_
      refine good_seq fun K11 hK11 => ?_
      refine good_region rfl ?_
      refine ev_q rfl (q_move (by conv => lhs; whnf) ?_)
      refine ev_q rfl (q_assign (by conv => lhs; whnf) ?_)
      refine ev_nil (hK11 _ ?_); clear hK11
      refine good_seq fun K12 hK12 => ?_
      refine good_region rfl ?_
      refine ev_q rfl (q_move (by conv => lhs; whnf) ?_)
      refine ev_q rfl (q_move (by conv => lhs; whnf) ?_)
      refine ev_q rfl (q_indexS tStr9 rfl rfl (by exact Int.natCast_nonneg _) (by exact hu) ?_)
      intro n13 hn13
      refine ev_q rfl (q_assign (by conv => lhs; whnf) ?_)
      refine ev_nil (hK12 _ ?_); clear hK12
      refine good_seq fun K14 hK14 => ?_
      refine good_region rfl ?_
      refine ev_q rfl (q_move (by conv => lhs; whnf) ?_)
      refine ev_q rfl (q_int rfl rfl ?_)
      intro b15 hb15; cases b15
      · replace hb15 := dF hb15
        refine ev_q rfl (q_move (by conv => lhs; whnf) ?_)
        refine ev_q rfl (q_move (by conv => lhs; whnf) ?_)
        refine ev_q rfl (q_int rfl rfl ?_)
        intro b16 hb16; cases b16
        · replace hb16 := dF hb16
          refine ev_q rfl (q_pickF rfl (by conv => lhs; whnf) ?_)
          refine ev_q rfl (q_move (by conv => lhs; whnf) ?_)
          refine ev_skip rfl ?_
          refine ev_skip rfl ?_
          refine ev_skip rfl ?_
          refine ev_skip rfl ?_
          refine ev_skip rfl ?_
          refine ev_skip rfl ?_
          refine ev_q rfl (q_pickF rfl (by conv => lhs; whnf) ?_)
          refine ev_nil (hK14 _ ?_); clear hK14
          refine good_condF rfl ?_
          refine good_skip (hK10 _ ?_); clear hK10
          refine good_region rfl ?_
          refine ev_q rfl (q_int rfl rfl ?_)
          intro n17 hn17
          replace hn17 := in64 hn17 (by omega) (by omega)
          refine ev_q rfl (q_move (by conv => lhs; whnf) ?_)
          refine ev_nil ?_
          clear hK2
          refine ⟨i + 1, ?_, ?_, ?_⟩
          · refine ⟨by omega, fun j v hj hv => ?_⟩
            by_cases hji : j = i
            · subst hji; rw [hu] at hv; cases hv; simp only [nbc, small, digit] at *; grind
            · exact hJ j v (by omega) hv
          · first | omega | (simp only []; omega) | (dsimp only; omega)
          · refine sub_weak ?_ ?_
            · exact weakH_none _
            · refine weakE_upd ?e7 ?r7 (weakE_upd ?e6 ?r6 (weakE_upd ?e0 ?r0 (weakE_junk _ _)))
              case e0 => first | rfl | exact fI (by omega) | (simp_all)
              case r0 => intro h hh; cases hh
              case e6 => first | rfl | exact fI (by omega) | (simp_all)
              case r6 => intro h hh; cases hh
              case e7 => first | rfl | exact fI (by omega) | (simp_all)
              case r7 => intro h hh; cases hh
        · replace hb16 := dT hb16
          refine ev_q rfl (q_pickF rfl (by conv => lhs; whnf) ?_)
          refine ev_q rfl (q_move (by conv => lhs; whnf) ?_)
          refine ev_q rfl (q_move (by conv => lhs; whnf) ?_)
          refine ev_q rfl (q_int rfl rfl ?_)
          intro b18 hb18; cases b18
          · replace hb18 := dF hb18
            refine ev_q rfl (q_move (by conv => lhs; whnf) ?_)
            refine ev_q rfl (q_move (by conv => lhs; whnf) ?_)
            refine ev_q rfl (q_int rfl rfl ?_)
            intro b19 hb19; cases b19
            · replace hb19 := dF hb19
              refine ev_q rfl (q_pickF rfl (by conv => lhs; whnf) ?_)
              refine ev_q rfl (q_pickT rfl (by conv => lhs; whnf) ?_)
              refine ev_nil (hK14 _ ?_); clear hK14
              refine good_condF rfl ?_
              refine good_skip (hK10 _ ?_); clear hK10
              refine good_region rfl ?_
              refine ev_q rfl (q_int rfl rfl ?_)
              intro n20 hn20
              replace hn20 := in64 hn20 (by omega) (by omega)
              refine ev_q rfl (q_move (by conv => lhs; whnf) ?_)
              refine ev_nil ?_
              clear hK2
              refine ⟨i + 1, ?_, ?_, ?_⟩
              · refine ⟨by omega, fun j v hj hv => ?_⟩
                by_cases hji : j = i
                · subst hji; rw [hu] at hv; cases hv; simp only [nbc, small, digit] at *; grind
                · exact hJ j v (by omega) hv
              · first | omega | (simp only []; omega) | (dsimp only; omega)
              · refine sub_weak ?_ ?_
                · exact weakH_none _
                · refine weakE_upd ?e7 ?r7 (weakE_upd ?e6 ?r6 (weakE_upd ?e0 ?r0 (weakE_junk _ _)))
                  case e0 => first | rfl | exact fI (by omega) | (simp_all)
                  case r0 => intro h hh; cases hh
                  case e6 => first | rfl | exact fI (by omega) | (simp_all)
                  case r6 => intro h hh; cases hh
                  case e7 => first | rfl | exact fI (by omega) | (simp_all)
                  case r7 => intro h hh; cases hh
            · replace hb19 := dT hb19
              refine ev_q rfl (q_pickF rfl (by conv => lhs; whnf) ?_)
              refine ev_q rfl (q_pickT rfl (by conv => lhs; whnf) ?_)
              refine ev_nil (hK14 _ ?_); clear hK14
              refine good_condT rfl ?_
              refine good_seq fun K21 hK21 => ?_
              refine good_region rfl ?_
              refine ev_q rfl (q_assign (by conv => lhs; whnf) ?_)
              refine ev_nil (hK21 _ ?_); clear hK21
              refine good_ret ?_
              repeat (first | refine thenQ_ret ?_ | refine blockQ_ret ?_)
              refine ret_tmp (st := _) rfl (by conv => lhs; whnf) rfl ?_
              clear hK2 hK10
              first | exact fB (allNb_T (fun j u hj => hJ j u (by omega))).symm | exact fB (allNb_F hu (by simp only [nbc, small, digit]; grind)).symm
          · replace hb18 := dT hb18
            refine ev_q rfl (q_move (by conv => lhs; whnf) ?_)
            refine ev_skip rfl ?_
            refine ev_skip rfl ?_
            refine ev_q rfl (q_pickT rfl (by conv => lhs; whnf) ?_)
            refine ev_q rfl (q_pickT rfl (by conv => lhs; whnf) ?_)
            refine ev_nil (hK14 _ ?_); clear hK14
            refine good_condT rfl ?_
            refine good_seq fun K22 hK22 => ?_
            refine good_region rfl ?_
            refine ev_q rfl (q_assign (by conv => lhs; whnf) ?_)
            refine ev_nil (hK22 _ ?_); clear hK22
            refine good_ret ?_
            repeat (first | refine thenQ_ret ?_ | refine blockQ_ret ?_)
            refine ret_tmp (st := _) rfl (by conv => lhs; whnf) rfl ?_
            clear hK2 hK10
            first | exact fB (allNb_T (fun j u hj => hJ j u (by omega))).symm | exact fB (allNb_F hu (by simp only [nbc, small, digit]; grind)).symm
      · replace hb15 := dT hb15
        refine ev_q rfl (q_move (by conv => lhs; whnf) ?_)
        refine ev_skip rfl ?_
        refine ev_skip rfl ?_
        refine ev_q rfl (q_pickT rfl (by conv => lhs; whnf) ?_)
        refine ev_q rfl (q_move (by conv => lhs; whnf) ?_)
        refine ev_q rfl (q_move (by conv => lhs; whnf) ?_)
        refine ev_q rfl (q_int rfl rfl ?_)
        intro b23 hb23; cases b23
        · replace hb23 := dF hb23
          refine ev_q rfl (q_move (by conv => lhs; whnf) ?_)
          refine ev_q rfl (q_move (by conv => lhs; whnf) ?_)
          refine ev_q rfl (q_int rfl rfl ?_)
          intro b24 hb24; cases b24
          · replace hb24 := dF hb24
            refine ev_q rfl (q_pickF rfl (by conv => lhs; whnf) ?_)
            refine ev_q rfl (q_pickT rfl (by conv => lhs; whnf) ?_)
            refine ev_nil (hK14 _ ?_); clear hK14
            refine good_condF rfl ?_
            refine good_skip (hK10 _ ?_); clear hK10
            refine good_region rfl ?_
            refine ev_q rfl (q_int rfl rfl ?_)
            intro n25 hn25
            replace hn25 := in64 hn25 (by omega) (by omega)
            refine ev_q rfl (q_move (by conv => lhs; whnf) ?_)
            refine ev_nil ?_
            clear hK2
            refine ⟨i + 1, ?_, ?_, ?_⟩
            · refine ⟨by omega, fun j v hj hv => ?_⟩
              by_cases hji : j = i
              · subst hji; rw [hu] at hv; cases hv; simp only [nbc, small, digit] at *; grind
              · exact hJ j v (by omega) hv
            · first | omega | (simp only []; omega) | (dsimp only; omega)
            · refine sub_weak ?_ ?_
              · exact weakH_none _
              · refine weakE_upd ?e7 ?r7 (weakE_upd ?e6 ?r6 (weakE_upd ?e0 ?r0 (weakE_junk _ _)))
                case e0 => first | rfl | exact fI (by omega) | (simp_all)
                case r0 => intro h hh; cases hh
                case e6 => first | rfl | exact fI (by omega) | (simp_all)
                case r6 => intro h hh; cases hh
                case e7 => first | rfl | exact fI (by omega) | (simp_all)
                case r7 => intro h hh; cases hh
          · replace hb24 := dT hb24
            refine ev_q rfl (q_pickF rfl (by conv => lhs; whnf) ?_)
            refine ev_q rfl (q_pickT rfl (by conv => lhs; whnf) ?_)
            refine ev_nil (hK14 _ ?_); clear hK14
            refine good_condT rfl ?_
            refine good_seq fun K26 hK26 => ?_
            refine good_region rfl ?_
            refine ev_q rfl (q_assign (by conv => lhs; whnf) ?_)
            refine ev_nil (hK26 _ ?_); clear hK26
            refine good_ret ?_
            repeat (first | refine thenQ_ret ?_ | refine blockQ_ret ?_)
            refine ret_tmp (st := _) rfl (by conv => lhs; whnf) rfl ?_
            clear hK2 hK10
            first | exact fB (allNb_T (fun j u hj => hJ j u (by omega))).symm | exact fB (allNb_F hu (by simp only [nbc, small, digit]; grind)).symm
        · replace hb23 := dT hb23
          refine ev_q rfl (q_move (by conv => lhs; whnf) ?_)
          refine ev_skip rfl ?_
          refine ev_skip rfl ?_
          refine ev_q rfl (q_pickT rfl (by conv => lhs; whnf) ?_)
          refine ev_q rfl (q_pickT rfl (by conv => lhs; whnf) ?_)
          refine ev_nil (hK14 _ ?_); clear hK14
          refine good_condT rfl ?_
          refine good_seq fun K27 hK27 => ?_
          refine good_region rfl ?_
          refine ev_q rfl (q_assign (by conv => lhs; whnf) ?_)
          refine ev_nil (hK27 _ ?_); clear hK27
          refine good_ret ?_
          repeat (first | refine thenQ_ret ?_ | refine blockQ_ret ?_)
          refine ret_tmp (st := _) rfl (by conv => lhs; whnf) rfl ?_
          clear hK2 hK10
          first | exact fB (allNb_T (fun j u hj => hJ j u (by omega))).symm | exact fB (allNb_F hu (by simp only [nbc, small, digit]; grind)).symm

-- impl.IsName
set_option maxRecDepth 20000 in
set_option maxHeartbeats 2000000 in
theorem D_impl_IsName (s : ByteArray) (hs : s.size ≤ 140737488351232) : Den Try.prog 80 [.s (.string s)] (.s (.bool (isName s))) := by
  refine den_of_good Try.func80 (by decide) rfl (Nat.le_of_ble_eq_true rfl) (Nat.le_of_ble_eq_true rfl) ?_
  refine good_seq fun K1 hK1 => ?_
  refine good_region rfl ?_
  refine ev_q rfl (q_assign (by conv => lhs; whnf) ?_)
  refine ev_nil (hK1 _ ?_); clear hK1
  refine good_seq fun K2 hK2 => ?_
  refine good_seq fun K3 hK3 => ?_
  refine good_region rfl ?_
  refine ev_q rfl (q_move (by conv => lhs; whnf) ?_)
  refine ev_q rfl (q_lenS tStr9 rfl ?_)
  intro n4 hn4
  refine ev_q rfl (q_int rfl rfl ?_)
  intro b5 hb5; cases b5
  · replace hb5 := dF hb5
    refine ev_q rfl (q_move (by conv => lhs; whnf) ?_)
    refine ev_q rfl (q_move (by conv => lhs; whnf) ?_)
    refine ev_q rfl (q_lenS tStr9 rfl ?_)
    intro n6 hn6
    refine ev_q rfl (q_int rfl rfl ?_)
    intro b7 hb7; cases b7
    · replace hb7 := dF hb7
      obtain ⟨u, hu⟩ := getB (s := s) (i := 0) (by omega)
      refine ev_q rfl (q_pickF rfl (by conv => lhs; whnf) ?_)
      refine ev_q rfl (q_move (by conv => lhs; whnf) ?_)
      refine ev_q rfl (q_move (by conv => lhs; whnf) ?_)
      refine ev_q rfl (q_indexS tStr9 rfl rfl (by decide) (by exact hu) ?_)
      intro n8 hn8
      refine ev_q rfl (q_int rfl rfl ?_)
      intro b9 hb9; cases b9
      · replace hb9 := dF hb9
        refine ev_q rfl (q_pickF rfl (by conv => lhs; whnf) ?_)
        refine ev_q rfl (q_move (by conv => lhs; whnf) ?_)
        refine ev_q rfl (q_move (by conv => lhs; whnf) ?_)
        refine ev_q rfl (q_indexS tStr9 rfl rfl (by decide) (by exact hu) ?_)
        intro n10 hn10
        refine ev_q rfl (q_int rfl rfl ?_)
        intro b11 hb11; cases b11
        · replace hb11 := dF hb11
          refine ev_q rfl (q_pickF rfl (by conv => lhs; whnf) ?_)
          refine ev_nil (hK3 _ ?_); clear hK3
          refine good_condF rfl ?_
          refine good_skip (hK2 _ ?_); clear hK2
          refine good_seq fun K12 hK12 => ?_
          refine good_region rfl ?_
          refine ev_q rfl (q_move (by conv => lhs; whnf) ?_)
          refine ev_q rfl (q_callB rfl rfl (rfl) (D_impl_onlyNameBytes _ hs) ?_)
          intro b13 hb13; cases b13
          · first | replace hb13 := dF hb13 | skip
            refine ev_q rfl (q_assign (by conv => lhs; whnf) ?_)
            refine ev_nil (hK12 _ ?_); clear hK12
            refine good_ret ?_
            repeat (first | refine thenQ_ret ?_ | refine blockQ_ret ?_)
            refine ret_tmp (st := _) rfl (by conv => lhs; whnf) rfl ?_
            first | exact fB (isName_none (by omega)).symm | exact fB (isName_long (by omega)).symm | exact fB (isName_head hu (by simp only [small]; grind)).symm | (exact fB (by rw [isName_eq (by omega) (by omega) hu (by simp only [small]; grind)]; grind))
          · first | replace hb13 := dT hb13 | skip
            refine ev_q rfl (q_assign (by conv => lhs; whnf) ?_)
            refine ev_nil (hK12 _ ?_); clear hK12
            refine good_ret ?_
            repeat (first | refine thenQ_ret ?_ | refine blockQ_ret ?_)
            refine ret_tmp (st := _) rfl (by conv => lhs; whnf) rfl ?_
            first | exact fB (isName_none (by omega)).symm | exact fB (isName_long (by omega)).symm | exact fB (isName_head hu (by simp only [small]; grind)).symm | (exact fB (by rw [isName_eq (by omega) (by omega) hu (by simp only [small]; grind)]; grind))
        · replace hb11 := dT hb11
          refine ev_q rfl (q_pickF rfl (by conv => lhs; whnf) ?_)
          refine ev_nil (hK3 _ ?_); clear hK3
          refine good_condT rfl ?_
          refine good_seq fun K14 hK14 => ?_
          refine good_region rfl ?_
          refine ev_q rfl (q_assign (by conv => lhs; whnf) ?_)
          refine ev_nil (hK14 _ ?_); clear hK14
          refine good_ret ?_
          repeat (first | refine thenQ_ret ?_ | refine blockQ_ret ?_)
          refine ret_tmp (st := _) rfl (by conv => lhs; whnf) rfl ?_
          clear hK2
          first | exact fB (isName_none (by omega)).symm | exact fB (isName_long (by omega)).symm | exact fB (isName_head hu (by simp only [small]; grind)).symm | (exact fB (by rw [isName_eq (by omega) (by omega) hu (by simp only [small]; grind)]; grind))
      · replace hb9 := dT hb9
        refine ev_q rfl (q_pickF rfl (by conv => lhs; whnf) ?_)
        refine ev_q rfl (q_move (by conv => lhs; whnf) ?_)
        refine ev_skip rfl ?_
        refine ev_skip rfl ?_
        refine ev_skip rfl ?_
        refine ev_q rfl (q_pickT rfl (by conv => lhs; whnf) ?_)
        refine ev_nil (hK3 _ ?_); clear hK3
        refine good_condT rfl ?_
        refine good_seq fun K15 hK15 => ?_
        refine good_region rfl ?_
        refine ev_q rfl (q_assign (by conv => lhs; whnf) ?_)
        refine ev_nil (hK15 _ ?_); clear hK15
        refine good_ret ?_
        repeat (first | refine thenQ_ret ?_ | refine blockQ_ret ?_)
        refine ret_tmp (st := _) rfl (by conv => lhs; whnf) rfl ?_
        clear hK2
        first | exact fB (isName_none (by omega)).symm | exact fB (isName_long (by omega)).symm | exact fB (isName_head hu (by simp only [small]; grind)).symm | (exact fB (by rw [isName_eq (by omega) (by omega) hu (by simp only [small]; grind)]; grind))
    · replace hb7 := dT hb7
      refine ev_q rfl (q_pickF rfl (by conv => lhs; whnf) ?_)
      refine ev_q rfl (q_move (by conv => lhs; whnf) ?_)
      refine ev_skip rfl ?_
      refine ev_skip rfl ?_
      refine ev_skip rfl ?_
      refine ev_q rfl (q_pickT rfl (by conv => lhs; whnf) ?_)
      refine ev_q rfl (q_move (by conv => lhs; whnf) ?_)
      refine ev_skip rfl ?_
      refine ev_skip rfl ?_
      refine ev_skip rfl ?_
      refine ev_q rfl (q_pickT rfl (by conv => lhs; whnf) ?_)
      refine ev_nil (hK3 _ ?_); clear hK3
      refine good_condT rfl ?_
      refine good_seq fun K16 hK16 => ?_
      refine good_region rfl ?_
      refine ev_q rfl (q_assign (by conv => lhs; whnf) ?_)
      refine ev_nil (hK16 _ ?_); clear hK16
      refine good_ret ?_
      repeat (first | refine thenQ_ret ?_ | refine blockQ_ret ?_)
      refine ret_tmp (st := _) rfl (by conv => lhs; whnf) rfl ?_
      clear hK2
      first | exact fB (isName_none (by omega)).symm | exact fB (isName_long (by omega)).symm | exact fB (isName_head hu (by simp only [small]; grind)).symm | (exact fB (by rw [isName_eq (by omega) (by omega) hu (by simp only [small]; grind)]; grind))
  · replace hb5 := dT hb5
    refine ev_q rfl (q_move (by conv => lhs; whnf) ?_)
    refine ev_skip rfl ?_
    refine ev_skip rfl ?_
    refine ev_skip rfl ?_
    refine ev_q rfl (q_pickT rfl (by conv => lhs; whnf) ?_)
    refine ev_q rfl (q_move (by conv => lhs; whnf) ?_)
    refine ev_skip rfl ?_
    refine ev_skip rfl ?_
    refine ev_skip rfl ?_
    refine ev_q rfl (q_pickT rfl (by conv => lhs; whnf) ?_)
    refine ev_q rfl (q_move (by conv => lhs; whnf) ?_)
    refine ev_skip rfl ?_
    refine ev_skip rfl ?_
    refine ev_skip rfl ?_
    refine ev_q rfl (q_pickT rfl (by conv => lhs; whnf) ?_)
    refine ev_nil (hK3 _ ?_); clear hK3
    refine good_condT rfl ?_
    refine good_seq fun K17 hK17 => ?_
    refine good_region rfl ?_
    refine ev_q rfl (q_assign (by conv => lhs; whnf) ?_)
    refine ev_nil (hK17 _ ?_); clear hK17
    refine good_ret ?_
    repeat (first | refine thenQ_ret ?_ | refine blockQ_ret ?_)
    refine ret_tmp (st := _) rfl (by conv => lhs; whnf) rfl ?_
    clear hK2
    first | exact fB (isName_none (by omega)).symm | exact fB (isName_long (by omega)).symm | exact fB (isName_head hu (by simp only [small]; grind)).symm | (exact fB (by rw [isName_eq (by omega) (by omega) hu (by simp only [small]; grind)]; grind))

-- spec.l01Name
set_option maxRecDepth 20000 in
set_option maxHeartbeats 2000000 in
theorem D_spec_l01Name (s : ByteArray) (hs : s.size ≤ 140737488351232) : Den Try.prog 79 [.s (.string s)] (.s (.bool (isName s))) := by
  refine den_of_good Try.func79 (by decide) rfl (Nat.le_of_ble_eq_true rfl) (Nat.le_of_ble_eq_true rfl) ?_
  refine good_seq fun K1 hK1 => ?_
  refine good_region rfl ?_
  refine ev_q rfl (q_assign (by conv => lhs; whnf) ?_)
  refine ev_nil (hK1 _ ?_); clear hK1
  refine good_seq fun K2 hK2 => ?_
  refine good_seq fun K3 hK3 => ?_
  refine good_region rfl ?_
  refine ev_q rfl (q_move (by conv => lhs; whnf) ?_)
  refine ev_q rfl (q_str rfl rfl ?_)
  intro b4 hb4; cases b4
  · replace hb4 := seF hb4
    have hz : 1 ≤ s.size := by
      apply Classical.byContradiction; intro hc; exact hb4 (size0 (by omega))
    refine ev_q rfl (q_move (by conv => lhs; whnf) ?_)
    refine ev_q rfl (q_move (by conv => lhs; whnf) ?_)
    refine ev_q rfl (q_lenS tStr9 rfl ?_)
    intro n5 hn5
    refine ev_q rfl (q_int rfl rfl ?_)
    intro b6 hb6; cases b6
    · replace hb6 := dF hb6
      obtain ⟨u0, hu0⟩ := getB (s := s) (i := 0) (by omega)
      refine ev_q rfl (q_pickF rfl (by conv => lhs; whnf) ?_)
      refine ev_q rfl (q_move (by conv => lhs; whnf) ?_)
      refine ev_q rfl (q_move (by conv => lhs; whnf) ?_)
      refine ev_q rfl (q_indexS tStr9 rfl rfl (by first | exact Int.natCast_nonneg _ | decide) (by first | exact hu0 | exact hu) ?_)
      intro n7 hn7
      subst hn7
      refine ev_q rfl (q_callB rfl rfl (rfl) (D_spec_l01Small ..) ?_)
      intro b8 hb8; cases b8
      · first | replace hb8 := dF hb8 | skip
        refine ev_q rfl (q_not rfl rfl ?_)
        refine ev_q rfl (q_pickF rfl (by conv => lhs; whnf) ?_)
        refine ev_nil (hK3 _ ?_); clear hK3
        refine good_condT rfl ?_
        refine good_seq fun K9 hK9 => ?_
        refine good_region rfl ?_
        refine ev_q rfl (q_assign (by conv => lhs; whnf) ?_)
        refine ev_nil (hK9 _ ?_); clear hK9
        refine good_ret ?_
        repeat (first | refine thenQ_ret ?_ | refine blockQ_ret ?_)
        refine ret_tmp (st := _) rfl (by conv => lhs; whnf) rfl ?_
        clear hK2
        first | exact fB (by rw [hb4]; rfl) | exact fB (isName_long (by omega)).symm | exact fB (isName_head hu0 (by simp only [small]; grind)).symm | exact fB (by rw [isName_eq (by omega) (by omega) hu0 (by simp only [small]; grind)]; exact (allNb_T (fun j u hj => hJ j u (by omega))).symm) | exact fB (by rw [isName_eq (by omega) (by omega) hu0 (by simp only [small]; grind)]; exact (allNb_F hu (by simp only [nbc, small, digit]; grind)).symm)
      · first | replace hb8 := dT hb8 | skip
        refine ev_q rfl (q_not rfl rfl ?_)
        refine ev_q rfl (q_pickF rfl (by conv => lhs; whnf) ?_)
        refine ev_nil (hK3 _ ?_); clear hK3
        refine good_condF rfl ?_
        refine good_skip (hK2 _ ?_); clear hK2
        refine good_seq fun K10 hK10 => ?_
        refine good_seq fun K11 hK11 => ?_
        refine good_region rfl ?_
        refine ev_q rfl (q_assign (by conv => lhs; whnf) ?_)
        refine ev_nil (hK11 _ ?_); clear hK11
        refine good_block ?_
        refine good_loop (α := Nat) (fun i => { env := upd (upd ((fun _ => .junk)) 0 (.s (.string s))) 3 (.s (.int .i64 i)), H := fun _ => none }) (fun i => i ≤ s.size ∧ ∀ j u, j < i → s[j]? = some u → nbc u = true) (fun i => s.size - i) 0 ?_ ?_ ?_
        · exact ⟨by omega, fun j u hj => by omega⟩
        · refine sub_weak ?_ ?_
          · exact weakH_none _
          · refine weakE_upd ?e3 ?r3 (weakE_upd ?e0 ?r0 (weakE_junk _ _))
            case e0 => first | rfl | exact fI (by omega) | (simp_all)
            case r0 => intro h hh; cases hh
            case e3 => first | rfl | exact fI (by omega) | (simp_all)
            case r3 => intro h hh; cases hh
        · rintro i ⟨hI, hJ⟩
          refine good_seq fun K12 hK12 => ?_
          refine good_seq fun K13 hK13 => ?_
          refine good_region rfl ?_
          refine ev_q rfl (q_move (by conv => lhs; whnf) ?_)
          refine ev_q rfl (q_move (by conv => lhs; whnf) ?_)
          refine ev_q rfl (q_lenS tStr9 rfl ?_)
          intro n14 hn14
          refine ev_q rfl (q_int rfl rfl ?_)
          intro b15 hb15; cases b15
          · replace hb15 := dF hb15
            refine ev_nil (hK13 _ ?_); clear hK13
            refine good_condF rfl ?_
            refine good_exit ?_
            repeat (first | refine thenQ_exit ?_ | refine blockQ_pass rfl ?_)
            refine blockQ_exit (hK10 _ ?_); clear hK10
            refine good_seq fun K16 hK16 => ?_
            refine good_region rfl ?_
            refine ev_q rfl (q_assign (by conv => lhs; whnf) ?_)
            refine ev_nil (hK16 _ ?_); clear hK16
            refine good_ret ?_
            repeat (first | refine thenQ_ret ?_ | refine blockQ_ret ?_)
            refine ret_tmp (st := _) rfl (by conv => lhs; whnf) rfl ?_
            clear hK12
            first | exact fB (by rw [hb4]; rfl) | exact fB (isName_long (by omega)).symm | exact fB (isName_head hu0 (by simp only [small]; grind)).symm | exact fB (by rw [isName_eq (by omega) (by omega) hu0 (by simp only [small]; grind)]; exact (allNb_T (fun j u hj => hJ j u (by omega))).symm) | exact fB (by rw [isName_eq (by omega) (by omega) hu0 (by simp only [small]; grind)]; exact (allNb_F hu (by simp only [nbc, small, digit]; grind)).symm)
          · replace hb15 := dT hb15
            obtain ⟨u, hu⟩ := getB (s := s) (i := i) (by omega)
            refine ev_nil (hK13 _ ?_); clear hK13
            refine good_condT rfl ?_
            refine good_skip (hK12 _ ?_); clear hK12
            refine good_seq fun K17 hK17 => ?_
            refine good_block ?_
            refine good_seq fun K18 hK18 => ?_
            refine good_region rfl ?_
            refine ev_q rfl (q_move (by conv => lhs; whnf) ?_)
            refine ev_q rfl (q_move (by conv => lhs; whnf) ?_)
            refine ev_q rfl (q_indexS tStr9 rfl rfl (by first | exact Int.natCast_nonneg _ | decide) (by first | exact hu0 | exact hu) ?_)
            intro n19 hn19
            subst hn19
            refine ev_q rfl (q_callB rfl rfl (rfl) (D_spec_l01Small ..) ?_)
            intro b20 hb20; cases b20
            · first | replace hb20 := dF hb20 | skip
              refine ev_q rfl (q_not rfl rfl ?_)
              refine ev_q rfl (q_move (by conv => lhs; whnf) ?_)
              refine ev_q rfl (q_move (by conv => lhs; whnf) ?_)
              refine ev_q rfl (q_move (by conv => lhs; whnf) ?_)
              refine ev_q rfl (q_indexS tStr9 rfl rfl (by first | exact Int.natCast_nonneg _ | decide) (by first | exact hu0 | exact hu) ?_)
              intro n21 hn21
              subst hn21
              refine ev_q rfl (q_callB rfl rfl (rfl) (D_spec_l01Digit ..) ?_)
              intro b22 hb22; cases b22
              · first | replace hb22 := dF hb22 | skip
                refine ev_q rfl (q_not rfl rfl ?_)
                refine ev_q rfl (q_pickT rfl (by conv => lhs; whnf) ?_)
                refine ev_nil (hK18 _ ?_); clear hK18
                refine good_condT rfl ?_
                refine good_seq fun K23 hK23 => ?_
                refine good_region rfl ?_
                refine ev_q rfl (q_assign (by conv => lhs; whnf) ?_)
                refine ev_nil (hK23 _ ?_); clear hK23
                refine good_ret ?_
                repeat (first | refine thenQ_ret ?_ | refine blockQ_ret ?_)
                refine ret_tmp (st := _) rfl (by conv => lhs; whnf) rfl ?_
                clear hK10 hK17
                first | exact fB (by rw [hb4]; rfl) | exact fB (isName_long (by omega)).symm | exact fB (isName_head hu0 (by simp only [small]; grind)).symm | exact fB (by rw [isName_eq (by omega) (by omega) hu0 (by simp only [small]; grind)]; exact (allNb_T (fun j u hj => hJ j u (by omega))).symm) | exact fB (by rw [isName_eq (by omega) (by omega) hu0 (by simp only [small]; grind)]; exact (allNb_F hu (by simp only [nbc, small, digit]; grind)).symm)
              · first | replace hb22 := dT hb22 | skip
                refine ev_q rfl (q_not rfl rfl ?_)
                refine ev_q rfl (q_pickT rfl (by conv => lhs; whnf) ?_)
                refine ev_nil (hK18 _ ?_); clear hK18
                refine good_condF rfl ?_
                refine good_skip (hK17 _ ?_); clear hK17
                refine good_region rfl ?_
                refine ev_q rfl (q_move (by conv => lhs; whnf) ?_)
                refine ev_q rfl (q_int rfl rfl ?_)
                intro n24 hn24
                replace hn24 := in64 hn24 (by omega) (by omega)
                refine ev_q rfl (q_assign (by conv => lhs; whnf) ?_)
                refine ev_nil ?_
                clear hK10
                refine ⟨i + 1, ?_, ?_, ?_⟩
                · refine ⟨by omega, fun j v hj hv => ?_⟩
                  by_cases hji : j = i
                  · subst hji; rw [hu] at hv; cases hv; simp only [nbc, small, digit] at *; grind
                  · exact hJ j v (by omega) hv
                · first | omega | (simp only []; omega) | (dsimp only; omega)
                · refine sub_weak ?_ ?_
                  · exact weakH_none _
                  · refine weakE_upd ?e3 ?r3 (weakE_upd ?e0 ?r0 (weakE_junk _ _))
                    case e0 => first | rfl | exact fI (by omega) | (simp_all)
                    case r0 => intro h hh; cases hh
                    case e3 => first | rfl | exact fI (by omega) | (simp_all)
                    case r3 => intro h hh; cases hh
            · first | replace hb20 := dT hb20 | skip
              refine ev_q rfl (q_not rfl rfl ?_)
              refine ev_q rfl (q_move (by conv => lhs; whnf) ?_)
              refine ev_skip rfl ?_
              refine ev_skip rfl ?_
              refine ev_skip rfl ?_
              refine ev_skip rfl ?_
              refine ev_skip rfl ?_
              refine ev_q rfl (q_pickF rfl (by conv => lhs; whnf) ?_)
              refine ev_nil (hK18 _ ?_); clear hK18
              refine good_condF rfl ?_
              refine good_skip (hK17 _ ?_); clear hK17
              refine good_region rfl ?_
              refine ev_q rfl (q_move (by conv => lhs; whnf) ?_)
              refine ev_q rfl (q_int rfl rfl ?_)
              intro n25 hn25
              replace hn25 := in64 hn25 (by omega) (by omega)
              refine ev_q rfl (q_assign (by conv => lhs; whnf) ?_)
              refine ev_nil ?_
              clear hK10
              refine ⟨i + 1, ?_, ?_, ?_⟩
              · refine ⟨by omega, fun j v hj hv => ?_⟩
                by_cases hji : j = i
                · subst hji; rw [hu] at hv; cases hv; simp only [nbc, small, digit] at *; grind
                · exact hJ j v (by omega) hv
              · first | omega | (simp only []; omega) | (dsimp only; omega)
              · refine sub_weak ?_ ?_
                · exact weakH_none _
                · refine weakE_upd ?e3 ?r3 (weakE_upd ?e0 ?r0 (weakE_junk _ _))
                  case e0 => first | rfl | exact fI (by omega) | (simp_all)
                  case r0 => intro h hh; cases hh
                  case e3 => first | rfl | exact fI (by omega) | (simp_all)
                  case r3 => intro h hh; cases hh
    · replace hb6 := dT hb6
      refine ev_q rfl (q_pickF rfl (by conv => lhs; whnf) ?_)
      refine ev_q rfl (q_move (by conv => lhs; whnf) ?_)
      refine ev_skip rfl ?_
      refine ev_skip rfl ?_
      refine ev_skip rfl ?_
      refine ev_skip rfl ?_
      refine ev_q rfl (q_pickT rfl (by conv => lhs; whnf) ?_)
      refine ev_nil (hK3 _ ?_); clear hK3
      refine good_condT rfl ?_
      refine good_seq fun K26 hK26 => ?_
      refine good_region rfl ?_
      refine ev_q rfl (q_assign (by conv => lhs; whnf) ?_)
      refine ev_nil (hK26 _ ?_); clear hK26
      refine good_ret ?_
      repeat (first | refine thenQ_ret ?_ | refine blockQ_ret ?_)
      refine ret_tmp (st := _) rfl (by conv => lhs; whnf) rfl ?_
      clear hK2
      first | exact fB (by rw [hb4]; rfl) | exact fB (isName_long (by omega)).symm | exact fB (isName_head hu0 (by simp only [small]; grind)).symm | exact fB (by rw [isName_eq (by omega) (by omega) hu0 (by simp only [small]; grind)]; exact (allNb_T (fun j u hj => hJ j u (by omega))).symm) | exact fB (by rw [isName_eq (by omega) (by omega) hu0 (by simp only [small]; grind)]; exact (allNb_F hu (by simp only [nbc, small, digit]; grind)).symm)
  · replace hb4 := seT hb4
    refine ev_q rfl (q_move (by conv => lhs; whnf) ?_)
    refine ev_skip rfl ?_
    refine ev_skip rfl ?_
    refine ev_skip rfl ?_
    refine ev_q rfl (q_pickT rfl (by conv => lhs; whnf) ?_)
    refine ev_q rfl (q_move (by conv => lhs; whnf) ?_)
    refine ev_skip rfl ?_
    refine ev_skip rfl ?_
    refine ev_skip rfl ?_
    refine ev_skip rfl ?_
    refine ev_q rfl (q_pickT rfl (by conv => lhs; whnf) ?_)
    refine ev_nil (hK3 _ ?_); clear hK3
    refine good_condT rfl ?_
    refine good_seq fun K27 hK27 => ?_
    refine good_region rfl ?_
    refine ev_q rfl (q_assign (by conv => lhs; whnf) ?_)
    refine ev_nil (hK27 _ ?_); clear hK27
    refine good_ret ?_
    repeat (first | refine thenQ_ret ?_ | refine blockQ_ret ?_)
    refine ret_tmp (st := _) rfl (by conv => lhs; whnf) rfl ?_
    clear hK2
    first | exact fB (by rw [hb4]; rfl) | exact fB (isName_long (by omega)).symm | exact fB (isName_head hu0 (by simp only [small]; grind)).symm | exact fB (by rw [isName_eq (by omega) (by omega) hu0 (by simp only [small]; grind)]; exact (allNb_T (fun j u hj => hJ j u (by omega))).symm) | exact fB (by rw [isName_eq (by omega) (by omega) hu0 (by simp only [small]; grind)]; exact (allNb_F hu (by simp only [nbc, small, digit]; grind)).symm)

-- impl.nodeOk
set_option maxRecDepth 20000 in
set_option maxHeartbeats 2000000 in
theorem D_impl_nodeOk (a : Int)  : Den Try.prog 81 [.s (.int .i64 a)] (.s (.bool (decide (0 ≤ a ∧ a ≤ 15)))) := by
  refine den_of_good Try.func81 (by decide) rfl (Nat.le_of_ble_eq_true rfl) (Nat.le_of_ble_eq_true rfl) ?_
  refine good_seq fun K1 hK1 => ?_
  refine good_region rfl ?_
  refine ev_q rfl (q_assign (by conv => lhs; whnf) ?_)
  refine ev_nil (hK1 _ ?_); clear hK1
  refine good_seq fun K2 hK2 => ?_
  refine good_region rfl ?_
  refine ev_q rfl (q_move (by conv => lhs; whnf) ?_)
  refine ev_q rfl (q_callB rfl rfl (rfl) (D_impl_within ..) ?_)
  intro b3 hb3; cases b3
  · first | replace hb3 := dF hb3 | skip
    refine ev_q rfl (q_assign (by conv => lhs; whnf) ?_)
    refine ev_nil (hK2 _ ?_); clear hK2
    refine good_ret ?_
    repeat (first | refine thenQ_ret ?_ | refine blockQ_ret ?_)
    refine ret_tmp (st := _) rfl (by conv => lhs; whnf) rfl ?_
    first | rfl | exact fT (by first | omega | grind) | exact fF (by first | omega | grind) | exact fT' (by first | omega | grind) | (exfalso; first | omega | grind)
  · first | replace hb3 := dT hb3 | skip
    refine ev_q rfl (q_assign (by conv => lhs; whnf) ?_)
    refine ev_nil (hK2 _ ?_); clear hK2
    refine good_ret ?_
    repeat (first | refine thenQ_ret ?_ | refine blockQ_ret ?_)
    refine ret_tmp (st := _) rfl (by conv => lhs; whnf) rfl ?_
    first | rfl | exact fT (by first | omega | grind) | exact fF (by first | omega | grind) | exact fT' (by first | omega | grind) | (exfalso; first | omega | grind)

-- impl.waterOk
set_option maxRecDepth 20000 in
set_option maxHeartbeats 2000000 in
theorem D_impl_waterOk (a : Int)  : Den Try.prog 50 [.s (.int .i64 a)] (.s (.bool (decide (0 ≤ a ∧ a ≤ 18000)))) := by
  refine den_of_good Try.func50 (by decide) rfl (Nat.le_of_ble_eq_true rfl) (Nat.le_of_ble_eq_true rfl) ?_
  refine good_seq fun K1 hK1 => ?_
  refine good_region rfl ?_
  refine ev_q rfl (q_assign (by conv => lhs; whnf) ?_)
  refine ev_nil (hK1 _ ?_); clear hK1
  refine good_seq fun K2 hK2 => ?_
  refine good_region rfl ?_
  refine ev_q rfl (q_move (by conv => lhs; whnf) ?_)
  refine ev_q rfl (q_callB rfl rfl (rfl) (D_impl_within ..) ?_)
  intro b3 hb3; cases b3
  · first | replace hb3 := dF hb3 | skip
    refine ev_q rfl (q_assign (by conv => lhs; whnf) ?_)
    refine ev_nil (hK2 _ ?_); clear hK2
    refine good_ret ?_
    repeat (first | refine thenQ_ret ?_ | refine blockQ_ret ?_)
    refine ret_tmp (st := _) rfl (by conv => lhs; whnf) rfl ?_
    first | rfl | exact fT (by first | omega | grind) | exact fF (by first | omega | grind) | exact fT' (by first | omega | grind) | (exfalso; first | omega | grind)
  · first | replace hb3 := dT hb3 | skip
    refine ev_q rfl (q_assign (by conv => lhs; whnf) ?_)
    refine ev_nil (hK2 _ ?_); clear hK2
    refine good_ret ?_
    repeat (first | refine thenQ_ret ?_ | refine blockQ_ret ?_)
    refine ret_tmp (st := _) rfl (by conv => lhs; whnf) rfl ?_
    first | rfl | exact fT (by first | omega | grind) | exact fF (by first | omega | grind) | exact fT' (by first | omega | grind) | (exfalso; first | omega | grind)

-- spec.l02Degrees
set_option maxRecDepth 20000 in
set_option maxHeartbeats 2000000 in
theorem D_spec_l02Degrees (a : Int)  : Den Try.prog 46 [.s (.int .i64 a)] (.s (.bool (decide (0 ≤ a ∧ a ≤ 18000)))) := by
  refine den_of_good Try.func46 (by decide) rfl (Nat.le_of_ble_eq_true rfl) (Nat.le_of_ble_eq_true rfl) ?_
  refine good_seq fun K1 hK1 => ?_
  refine good_region rfl ?_
  refine ev_q rfl (q_assign (by conv => lhs; whnf) ?_)
  refine ev_nil (hK1 _ ?_); clear hK1
  refine good_seq fun K2 hK2 => ?_
  refine good_region rfl ?_
  refine ev_q rfl (q_move (by conv => lhs; whnf) ?_)
  refine ev_q rfl (q_callB rfl rfl (rfl) (D_spec_l00In ..) ?_)
  intro b3 hb3; cases b3
  · first | replace hb3 := dF hb3 | skip
    refine ev_q rfl (q_assign (by conv => lhs; whnf) ?_)
    refine ev_nil (hK2 _ ?_); clear hK2
    refine good_ret ?_
    repeat (first | refine thenQ_ret ?_ | refine blockQ_ret ?_)
    refine ret_tmp (st := _) rfl (by conv => lhs; whnf) rfl ?_
    first | rfl | exact fT (by first | omega | grind) | exact fF (by first | omega | grind) | exact fT' (by first | omega | grind) | (exfalso; first | omega | grind)
  · first | replace hb3 := dT hb3 | skip
    refine ev_q rfl (q_assign (by conv => lhs; whnf) ?_)
    refine ev_nil (hK2 _ ?_); clear hK2
    refine good_ret ?_
    repeat (first | refine thenQ_ret ?_ | refine blockQ_ret ?_)
    refine ret_tmp (st := _) rfl (by conv => lhs; whnf) rfl ?_
    first | rfl | exact fT (by first | omega | grind) | exact fF (by first | omega | grind) | exact fT' (by first | omega | grind) | (exfalso; first | omega | grind)

-- spec.l12One
set_option maxRecDepth 20000 in
set_option maxHeartbeats 2000000 in
theorem D_spec_l12One (s : ByteArray) (nd tr su re : Int) (hs : s.size ≤ 140737488351232) : Den Try.prog 45 [.rp [.s (.string s), .s (.int .i64 nd), .s (.int .i64 tr), .s (.int .i64 su), .s (.int .i64 re)]] (.s (.bool (decide (isName s = true ∧ (0 ≤ nd ∧ nd ≤ 15) ∧ (1 ≤ tr ∧ tr ≤ 100000) ∧ (0 ≤ su ∧ su ≤ 18000) ∧ (0 ≤ re ∧ re ≤ su - 1))))) := by
  refine den_of_good Try.func45 (by decide) rfl (Nat.le_of_ble_eq_true rfl) (Nat.le_of_ble_eq_true rfl) ?_
  refine good_seq fun K1 hK1 => ?_
  refine good_region rfl ?_
  refine ev_q rfl (q_assign (by conv => lhs; whnf) ?_)
  refine ev_nil (hK1 _ ?_); clear hK1
  refine good_seq fun K2 hK2 => ?_
  refine good_draw 39 hmix (by kernel_rfl) rfl ?_
  refine qo_q rfl (q_move (by conv => lhs; whnf) ?_)
  refine qo_q rfl (q_nilCheck (by conv => lhs; whnf) rfl ?_)
  refine qo_q rfl (q_fieldAddr fO27_0 rfl rfl ?_)
  refine qo_q rfl (q_load tA9 rfl ?_)
  refine qo_q rfl (q_callB rfl rfl (rfl) (D_spec_l01Name _ hs) ?_)
  intro b3 hb3; cases b3
  · first | replace hb3 := dF hb3 | skip
    refine qo_q rfl (q_move (by conv => lhs; whnf) ?_)
    refine qo_skip rfl ?_
    refine qo_skip rfl ?_
    refine qo_skip rfl ?_
    refine qo_skip rfl ?_
    refine qo_skip rfl ?_
    refine qo_q rfl (q_pickF rfl (by conv => lhs; whnf) ?_)
    refine qo_q rfl (q_move (by conv => lhs; whnf) ?_)
    refine qo_skip rfl ?_
    refine qo_skip rfl ?_
    refine qo_skip rfl ?_
    refine qo_skip rfl ?_
    refine qo_skip rfl ?_
    refine qo_q rfl (q_pickF rfl (by conv => lhs; whnf) ?_)
    refine qo_q rfl (q_move (by conv => lhs; whnf) ?_)
    refine qo_skip rfl ?_
    refine qo_skip rfl ?_
    refine qo_skip rfl ?_
    refine qo_skip rfl ?_
    refine qo_skip rfl ?_
    refine qo_q rfl (q_pickF rfl (by conv => lhs; whnf) ?_)
    refine qo_q rfl (q_move (by conv => lhs; whnf) ?_)
    refine qo_skip rfl ?_
    refine qo_skip rfl ?_
    refine qo_skip rfl ?_
    refine qo_skip rfl ?_
    refine qo_skip rfl ?_
    refine qo_skip rfl ?_
    refine qo_skip rfl ?_
    refine qo_skip rfl ?_
    refine qo_skip rfl ?_
    refine qo_skip rfl ?_
    refine qo_q rfl (q_pickF rfl (by conv => lhs; whnf) ?_)
    refine qo_q rfl (q_assign (by conv => lhs; whnf) ?_)
    refine qo_nil ?_
    refine ev_nil (hK2 _ ?_); clear hK2
    refine good_ret ?_
    repeat (first | refine thenQ_ret ?_ | refine blockQ_ret ?_)
    refine ret_tmp (st := _) rfl (by conv => lhs; whnf) rfl ?_
    first | rfl | exact fT (by first | omega | grind) | exact fF (by first | omega | grind) | exact fT' (by first | omega | grind) | (exfalso; first | omega | grind)
  · first | replace hb3 := dT hb3 | skip
    refine qo_q rfl (q_move (by conv => lhs; whnf) ?_)
    refine qo_q rfl (q_move (by conv => lhs; whnf) ?_)
    refine qo_q rfl (q_nilCheck (by conv => lhs; whnf) rfl ?_)
    refine qo_q rfl (q_fieldAddr fO27_1 rfl rfl ?_)
    refine qo_q rfl (q_load tA2 rfl ?_)
    refine qo_q rfl (q_callB rfl rfl (rfl) (D_spec_l00In ..) ?_)
    intro b4 hb4; cases b4
    · first | replace hb4 := dF hb4 | skip
      refine qo_q rfl (q_pickT rfl (by conv => lhs; whnf) ?_)
      refine qo_q rfl (q_move (by conv => lhs; whnf) ?_)
      refine qo_skip rfl ?_
      refine qo_skip rfl ?_
      refine qo_skip rfl ?_
      refine qo_skip rfl ?_
      refine qo_skip rfl ?_
      refine qo_q rfl (q_pickF rfl (by conv => lhs; whnf) ?_)
      refine qo_q rfl (q_move (by conv => lhs; whnf) ?_)
      refine qo_skip rfl ?_
      refine qo_skip rfl ?_
      refine qo_skip rfl ?_
      refine qo_skip rfl ?_
      refine qo_skip rfl ?_
      refine qo_q rfl (q_pickF rfl (by conv => lhs; whnf) ?_)
      refine qo_q rfl (q_move (by conv => lhs; whnf) ?_)
      refine qo_skip rfl ?_
      refine qo_skip rfl ?_
      refine qo_skip rfl ?_
      refine qo_skip rfl ?_
      refine qo_skip rfl ?_
      refine qo_skip rfl ?_
      refine qo_skip rfl ?_
      refine qo_skip rfl ?_
      refine qo_skip rfl ?_
      refine qo_skip rfl ?_
      refine qo_q rfl (q_pickF rfl (by conv => lhs; whnf) ?_)
      refine qo_q rfl (q_assign (by conv => lhs; whnf) ?_)
      refine qo_nil ?_
      refine ev_nil (hK2 _ ?_); clear hK2
      refine good_ret ?_
      repeat (first | refine thenQ_ret ?_ | refine blockQ_ret ?_)
      refine ret_tmp (st := _) rfl (by conv => lhs; whnf) rfl ?_
      first | rfl | exact fT (by first | omega | grind) | exact fF (by first | omega | grind) | exact fT' (by first | omega | grind) | (exfalso; first | omega | grind)
    · first | replace hb4 := dT hb4 | skip
      refine qo_q rfl (q_pickT rfl (by conv => lhs; whnf) ?_)
      refine qo_q rfl (q_move (by conv => lhs; whnf) ?_)
      refine qo_q rfl (q_move (by conv => lhs; whnf) ?_)
      refine qo_q rfl (q_nilCheck (by conv => lhs; whnf) rfl ?_)
      refine qo_q rfl (q_fieldAddr fO27_2 rfl rfl ?_)
      refine qo_q rfl (q_load tA2 rfl ?_)
      refine qo_q rfl (q_callB rfl rfl (rfl) (D_spec_l00In ..) ?_)
      intro b5 hb5; cases b5
      · first | replace hb5 := dF hb5 | skip
        refine qo_q rfl (q_pickT rfl (by conv => lhs; whnf) ?_)
        refine qo_q rfl (q_move (by conv => lhs; whnf) ?_)
        refine qo_skip rfl ?_
        refine qo_skip rfl ?_
        refine qo_skip rfl ?_
        refine qo_skip rfl ?_
        refine qo_skip rfl ?_
        refine qo_q rfl (q_pickF rfl (by conv => lhs; whnf) ?_)
        refine qo_q rfl (q_move (by conv => lhs; whnf) ?_)
        refine qo_skip rfl ?_
        refine qo_skip rfl ?_
        refine qo_skip rfl ?_
        refine qo_skip rfl ?_
        refine qo_skip rfl ?_
        refine qo_skip rfl ?_
        refine qo_skip rfl ?_
        refine qo_skip rfl ?_
        refine qo_skip rfl ?_
        refine qo_skip rfl ?_
        refine qo_q rfl (q_pickF rfl (by conv => lhs; whnf) ?_)
        refine qo_q rfl (q_assign (by conv => lhs; whnf) ?_)
        refine qo_nil ?_
        refine ev_nil (hK2 _ ?_); clear hK2
        refine good_ret ?_
        repeat (first | refine thenQ_ret ?_ | refine blockQ_ret ?_)
        refine ret_tmp (st := _) rfl (by conv => lhs; whnf) rfl ?_
        first | rfl | exact fT (by first | omega | grind) | exact fF (by first | omega | grind) | exact fT' (by first | omega | grind) | (exfalso; first | omega | grind)
      · first | replace hb5 := dT hb5 | skip
        refine qo_q rfl (q_pickT rfl (by conv => lhs; whnf) ?_)
        refine qo_q rfl (q_move (by conv => lhs; whnf) ?_)
        refine qo_q rfl (q_move (by conv => lhs; whnf) ?_)
        refine qo_q rfl (q_nilCheck (by conv => lhs; whnf) rfl ?_)
        refine qo_q rfl (q_fieldAddr fO27_3 rfl rfl ?_)
        refine qo_q rfl (q_load tA2 rfl ?_)
        refine qo_q rfl (q_callB rfl rfl (rfl) (D_spec_l02Degrees ..) ?_)
        intro b6 hb6; cases b6
        · first | replace hb6 := dF hb6 | skip
          refine qo_q rfl (q_pickT rfl (by conv => lhs; whnf) ?_)
          refine qo_q rfl (q_move (by conv => lhs; whnf) ?_)
          refine qo_skip rfl ?_
          refine qo_skip rfl ?_
          refine qo_skip rfl ?_
          refine qo_skip rfl ?_
          refine qo_skip rfl ?_
          refine qo_skip rfl ?_
          refine qo_skip rfl ?_
          refine qo_skip rfl ?_
          refine qo_skip rfl ?_
          refine qo_skip rfl ?_
          refine qo_q rfl (q_pickF rfl (by conv => lhs; whnf) ?_)
          refine qo_q rfl (q_assign (by conv => lhs; whnf) ?_)
          refine qo_nil ?_
          refine ev_nil (hK2 _ ?_); clear hK2
          refine good_ret ?_
          repeat (first | refine thenQ_ret ?_ | refine blockQ_ret ?_)
          refine ret_tmp (st := _) rfl (by conv => lhs; whnf) rfl ?_
          first | rfl | exact fT (by first | omega | grind) | exact fF (by first | omega | grind) | exact fT' (by first | omega | grind) | (exfalso; first | omega | grind)
        · first | replace hb6 := dT hb6 | skip
          refine qo_q rfl (q_pickT rfl (by conv => lhs; whnf) ?_)
          refine qo_q rfl (q_move (by conv => lhs; whnf) ?_)
          refine qo_q rfl (q_move (by conv => lhs; whnf) ?_)
          refine qo_q rfl (q_nilCheck (by conv => lhs; whnf) rfl ?_)
          refine qo_q rfl (q_fieldAddr fO27_4 rfl rfl ?_)
          refine qo_q rfl (q_load tA2 rfl ?_)
          refine qo_q rfl (q_move (by conv => lhs; whnf) ?_)
          refine qo_q rfl (q_nilCheck (by conv => lhs; whnf) rfl ?_)
          refine qo_q rfl (q_fieldAddr fO27_3 rfl rfl ?_)
          refine qo_q rfl (q_load tA2 rfl ?_)
          refine qo_q rfl (q_int rfl rfl ?_)
          intro n7 hn7
          replace hn7 := in64 hn7 (by omega) (by omega)
          refine qo_q rfl (q_callB rfl rfl (rfl) (D_spec_l00In ..) ?_)
          intro b8 hb8; cases b8
          · first | replace hb8 := dF hb8 | skip
            refine qo_q rfl (q_pickT rfl (by conv => lhs; whnf) ?_)
            refine qo_q rfl (q_assign (by conv => lhs; whnf) ?_)
            refine qo_nil ?_
            refine ev_nil (hK2 _ ?_); clear hK2
            refine good_ret ?_
            repeat (first | refine thenQ_ret ?_ | refine blockQ_ret ?_)
            refine ret_tmp (st := _) rfl (by conv => lhs; whnf) rfl ?_
            first | rfl | exact fT (by first | omega | grind) | exact fF (by first | omega | grind) | exact fT' (by first | omega | grind) | (exfalso; first | omega | grind)
          · first | replace hb8 := dT hb8 | skip
            refine qo_q rfl (q_pickT rfl (by conv => lhs; whnf) ?_)
            refine qo_q rfl (q_assign (by conv => lhs; whnf) ?_)
            refine qo_nil ?_
            refine ev_nil (hK2 _ ?_); clear hK2
            refine good_ret ?_
            repeat (first | refine thenQ_ret ?_ | refine blockQ_ret ?_)
            refine ret_tmp (st := _) rfl (by conv => lhs; whnf) rfl ?_
            first | rfl | exact fT (by first | omega | grind) | exact fF (by first | omega | grind) | exact fT' (by first | omega | grind) | (exfalso; first | omega | grind)

-- impl.ValidSubstation
set_option maxRecDepth 20000 in
set_option maxHeartbeats 2000000 in
theorem D_impl_ValidSubstation (s : ByteArray) (nd tr su re : Int) (hs : s.size ≤ 140737488351232) : Den Try.prog 49 [.agg [.s (.string s), .s (.int .i64 nd), .s (.int .i64 tr), .s (.int .i64 su), .s (.int .i64 re)]] (.s (.bool (decide (isName s = true ∧ (0 ≤ nd ∧ nd ≤ 15) ∧ (1 ≤ tr ∧ tr ≤ 100000) ∧ (0 ≤ su ∧ su ≤ 18000) ∧ (0 ≤ re ∧ re ≤ su - 1))))) := by
  refine den_of_good Try.func49 (by decide) rfl (Nat.le_of_ble_eq_true rfl) (Nat.le_of_ble_eq_true rfl) ?_
  refine good_seq fun K1 hK1 => ?_
  refine good_region rfl ?_
  refine ev_k rfl (k_box (by conv => lhs; whnf) rfl rfl rfl ?_)
  refine ev_q rfl (q_assign (by conv => lhs; whnf) ?_)
  refine ev_nil (hK1 _ ?_); clear hK1
  refine good_seq fun K2 hK2 => ?_
  refine good_region rfl ?_
  refine ev_q rfl (q_fieldAddrP fO27_0 rfl rfl ?_)
  refine ev_q rfl (q_load tA9 rfl ?_)
  refine ev_q rfl (q_callB rfl rfl (rfl) (D_impl_IsName _ hs) ?_)
  intro b3 hb3; cases b3
  · first | replace hb3 := dF hb3 | skip
    refine ev_q rfl (q_move (by conv => lhs; whnf) ?_)
    refine ev_skip rfl ?_
    refine ev_skip rfl ?_
    refine ev_skip rfl ?_
    refine ev_q rfl (q_pickF rfl (by conv => lhs; whnf) ?_)
    refine ev_q rfl (q_move (by conv => lhs; whnf) ?_)
    refine ev_skip rfl ?_
    refine ev_skip rfl ?_
    refine ev_skip rfl ?_
    refine ev_q rfl (q_pickF rfl (by conv => lhs; whnf) ?_)
    refine ev_q rfl (q_move (by conv => lhs; whnf) ?_)
    refine ev_skip rfl ?_
    refine ev_skip rfl ?_
    refine ev_skip rfl ?_
    refine ev_q rfl (q_pickF rfl (by conv => lhs; whnf) ?_)
    refine ev_q rfl (q_move (by conv => lhs; whnf) ?_)
    refine ev_skip rfl ?_
    refine ev_skip rfl ?_
    refine ev_skip rfl ?_
    refine ev_skip rfl ?_
    refine ev_skip rfl ?_
    refine ev_skip rfl ?_
    refine ev_q rfl (q_pickF rfl (by conv => lhs; whnf) ?_)
    refine ev_q rfl (q_assign (by conv => lhs; whnf) ?_)
    refine ev_nil (hK2 _ ?_); clear hK2
    refine good_ret ?_
    repeat (first | refine thenQ_ret ?_ | refine blockQ_ret ?_)
    refine ret_tmp (st := _) rfl (by conv => lhs; whnf) rfl ?_
    first | rfl | exact fT (by first | omega | grind) | exact fF (by first | omega | grind) | exact fT' (by first | omega | grind) | (exfalso; first | omega | grind)
  · first | replace hb3 := dT hb3 | skip
    refine ev_q rfl (q_move (by conv => lhs; whnf) ?_)
    refine ev_q rfl (q_fieldAddrP fO27_1 rfl rfl ?_)
    refine ev_q rfl (q_load tA2 rfl ?_)
    refine ev_q rfl (q_callB rfl rfl (rfl) (D_impl_nodeOk ..) ?_)
    intro b4 hb4; cases b4
    · first | replace hb4 := dF hb4 | skip
      refine ev_q rfl (q_pickT rfl (by conv => lhs; whnf) ?_)
      refine ev_q rfl (q_move (by conv => lhs; whnf) ?_)
      refine ev_skip rfl ?_
      refine ev_skip rfl ?_
      refine ev_skip rfl ?_
      refine ev_q rfl (q_pickF rfl (by conv => lhs; whnf) ?_)
      refine ev_q rfl (q_move (by conv => lhs; whnf) ?_)
      refine ev_skip rfl ?_
      refine ev_skip rfl ?_
      refine ev_skip rfl ?_
      refine ev_q rfl (q_pickF rfl (by conv => lhs; whnf) ?_)
      refine ev_q rfl (q_move (by conv => lhs; whnf) ?_)
      refine ev_skip rfl ?_
      refine ev_skip rfl ?_
      refine ev_skip rfl ?_
      refine ev_skip rfl ?_
      refine ev_skip rfl ?_
      refine ev_skip rfl ?_
      refine ev_q rfl (q_pickF rfl (by conv => lhs; whnf) ?_)
      refine ev_q rfl (q_assign (by conv => lhs; whnf) ?_)
      refine ev_nil (hK2 _ ?_); clear hK2
      refine good_ret ?_
      repeat (first | refine thenQ_ret ?_ | refine blockQ_ret ?_)
      refine ret_tmp (st := _) rfl (by conv => lhs; whnf) rfl ?_
      first | rfl | exact fT (by first | omega | grind) | exact fF (by first | omega | grind) | exact fT' (by first | omega | grind) | (exfalso; first | omega | grind)
    · first | replace hb4 := dT hb4 | skip
      refine ev_q rfl (q_pickT rfl (by conv => lhs; whnf) ?_)
      refine ev_q rfl (q_move (by conv => lhs; whnf) ?_)
      refine ev_q rfl (q_fieldAddrP fO27_2 rfl rfl ?_)
      refine ev_q rfl (q_load tA2 rfl ?_)
      refine ev_q rfl (q_callB rfl rfl (rfl) (D_impl_within ..) ?_)
      intro b5 hb5; cases b5
      · first | replace hb5 := dF hb5 | skip
        refine ev_q rfl (q_pickT rfl (by conv => lhs; whnf) ?_)
        refine ev_q rfl (q_move (by conv => lhs; whnf) ?_)
        refine ev_skip rfl ?_
        refine ev_skip rfl ?_
        refine ev_skip rfl ?_
        refine ev_q rfl (q_pickF rfl (by conv => lhs; whnf) ?_)
        refine ev_q rfl (q_move (by conv => lhs; whnf) ?_)
        refine ev_skip rfl ?_
        refine ev_skip rfl ?_
        refine ev_skip rfl ?_
        refine ev_skip rfl ?_
        refine ev_skip rfl ?_
        refine ev_skip rfl ?_
        refine ev_q rfl (q_pickF rfl (by conv => lhs; whnf) ?_)
        refine ev_q rfl (q_assign (by conv => lhs; whnf) ?_)
        refine ev_nil (hK2 _ ?_); clear hK2
        refine good_ret ?_
        repeat (first | refine thenQ_ret ?_ | refine blockQ_ret ?_)
        refine ret_tmp (st := _) rfl (by conv => lhs; whnf) rfl ?_
        first | rfl | exact fT (by first | omega | grind) | exact fF (by first | omega | grind) | exact fT' (by first | omega | grind) | (exfalso; first | omega | grind)
      · first | replace hb5 := dT hb5 | skip
        refine ev_q rfl (q_pickT rfl (by conv => lhs; whnf) ?_)
        refine ev_q rfl (q_move (by conv => lhs; whnf) ?_)
        refine ev_q rfl (q_fieldAddrP fO27_3 rfl rfl ?_)
        refine ev_q rfl (q_load tA2 rfl ?_)
        refine ev_q rfl (q_callB rfl rfl (rfl) (D_impl_waterOk ..) ?_)
        intro b6 hb6; cases b6
        · first | replace hb6 := dF hb6 | skip
          refine ev_q rfl (q_pickT rfl (by conv => lhs; whnf) ?_)
          refine ev_q rfl (q_move (by conv => lhs; whnf) ?_)
          refine ev_skip rfl ?_
          refine ev_skip rfl ?_
          refine ev_skip rfl ?_
          refine ev_skip rfl ?_
          refine ev_skip rfl ?_
          refine ev_skip rfl ?_
          refine ev_q rfl (q_pickF rfl (by conv => lhs; whnf) ?_)
          refine ev_q rfl (q_assign (by conv => lhs; whnf) ?_)
          refine ev_nil (hK2 _ ?_); clear hK2
          refine good_ret ?_
          repeat (first | refine thenQ_ret ?_ | refine blockQ_ret ?_)
          refine ret_tmp (st := _) rfl (by conv => lhs; whnf) rfl ?_
          first | rfl | exact fT (by first | omega | grind) | exact fF (by first | omega | grind) | exact fT' (by first | omega | grind) | (exfalso; first | omega | grind)
        · first | replace hb6 := dT hb6 | skip
          refine ev_q rfl (q_pickT rfl (by conv => lhs; whnf) ?_)
          refine ev_q rfl (q_move (by conv => lhs; whnf) ?_)
          refine ev_q rfl (q_fieldAddrP fO27_4 rfl rfl ?_)
          refine ev_q rfl (q_load tA2 rfl ?_)
          refine ev_q rfl (q_fieldAddrP fO27_3 rfl rfl ?_)
          refine ev_q rfl (q_load tA2 rfl ?_)
          refine ev_q rfl (q_int rfl rfl ?_)
          intro n7 hn7
          replace hn7 := in64 hn7 (by omega) (by omega)
          refine ev_q rfl (q_callB rfl rfl (rfl) (D_impl_within ..) ?_)
          intro b8 hb8; cases b8
          · first | replace hb8 := dF hb8 | skip
            refine ev_q rfl (q_pickT rfl (by conv => lhs; whnf) ?_)
            refine ev_q rfl (q_assign (by conv => lhs; whnf) ?_)
            refine ev_nil (hK2 _ ?_); clear hK2
            refine good_ret ?_
            repeat (first | refine thenQ_ret ?_ | refine blockQ_ret ?_)
            refine ret_tmp (st := _) rfl (by conv => lhs; whnf) rfl ?_
            first | rfl | exact fT (by first | omega | grind) | exact fF (by first | omega | grind) | exact fT' (by first | omega | grind) | (exfalso; first | omega | grind)
          · first | replace hb8 := dT hb8 | skip
            refine ev_q rfl (q_pickT rfl (by conv => lhs; whnf) ?_)
            refine ev_q rfl (q_assign (by conv => lhs; whnf) ?_)
            refine ev_nil (hK2 _ ?_); clear hK2
            refine good_ret ?_
            repeat (first | refine thenQ_ret ?_ | refine blockQ_ret ?_)
            refine ret_tmp (st := _) rfl (by conv => lhs; whnf) rfl ?_
            first | rfl | exact fT (by first | omega | grind) | exact fF (by first | omega | grind) | exact fT' (by first | omega | grind) | (exfalso; first | omega | grind)

-- laws.toSubstation
set_option maxRecDepth 20000 in
set_option maxHeartbeats 2000000 in
theorem D_laws_toSubstation (s : ByteArray) (nd tr su re : Int)  : Den Try.prog 15 [.agg [.s (.string s), .s (.int .i64 nd), .s (.int .i64 tr), .s (.int .i64 su), .s (.int .i64 re)]] (.agg [.s (.string s), .s (.int .i64 nd), .s (.int .i64 tr), .s (.int .i64 su), .s (.int .i64 re)]) := by
  refine den_of_good Try.func15 (by decide) rfl (Nat.le_of_ble_eq_true rfl) (Nat.le_of_ble_eq_true rfl) ?_
  refine good_seq fun K1 hK1 => ?_
  refine good_region rfl ?_
  refine ev_k rfl (k_box (by conv => lhs; whnf) rfl rfl rfl ?_)
  refine ev_k rfl (k_alloc zA27 rfl ?_)
  refine ev_nil (hK1 _ ?_); clear hK1
  refine good_seq fun K2 hK2 => ?_
  refine good_region rfl ?_
  refine ev_k rfl (k_alloc zA27 rfl ?_)
  refine ev_nil (hK2 _ ?_); clear hK2
  refine good_seq fun K3 hK3 => ?_
  refine good_region rfl ?_
  refine ev_q rfl (q_fieldAddrP fO23_0 rfl rfl ?_)
  refine ev_q rfl (q_load tA9 rfl ?_)
  refine ev_q rfl (q_fieldAddrP fO27_0 rfl rfl ?_)
  refine ev_k rfl (k_store sz9 rfl (by conv => lhs; whnf) rfl rfl rfl (Nat.le_of_ble_eq_true rfl) rfl ?_)
  refine ev_nil (hK3 _ ?_); clear hK3
  refine good_seq fun K4 hK4 => ?_
  refine good_region rfl ?_
  refine ev_q rfl (q_fieldAddrP fO23_1 rfl rfl ?_)
  refine ev_q rfl (q_load tA2 rfl ?_)
  refine ev_q rfl (q_fieldAddrP fO27_1 rfl rfl ?_)
  refine ev_k rfl (k_store sz2 rfl (by conv => lhs; whnf) rfl rfl rfl (Nat.le_of_ble_eq_true rfl) rfl ?_)
  refine ev_nil (hK4 _ ?_); clear hK4
  refine good_seq fun K5 hK5 => ?_
  refine good_region rfl ?_
  refine ev_q rfl (q_fieldAddrP fO23_2 rfl rfl ?_)
  refine ev_q rfl (q_load tA2 rfl ?_)
  refine ev_q rfl (q_fieldAddrP fO27_2 rfl rfl ?_)
  refine ev_k rfl (k_store sz2 rfl (by conv => lhs; whnf) rfl rfl rfl (Nat.le_of_ble_eq_true rfl) rfl ?_)
  refine ev_nil (hK5 _ ?_); clear hK5
  refine good_seq fun K6 hK6 => ?_
  refine good_region rfl ?_
  refine ev_q rfl (q_fieldAddrP fO23_3 rfl rfl ?_)
  refine ev_q rfl (q_load tA2 rfl ?_)
  refine ev_q rfl (q_fieldAddrP fO27_3 rfl rfl ?_)
  refine ev_k rfl (k_store sz2 rfl (by conv => lhs; whnf) rfl rfl rfl (Nat.le_of_ble_eq_true rfl) rfl ?_)
  refine ev_nil (hK6 _ ?_); clear hK6
  refine good_seq fun K7 hK7 => ?_
  refine good_region rfl ?_
  refine ev_q rfl (q_fieldAddrP fO23_4 rfl rfl ?_)
  refine ev_q rfl (q_load tA2 rfl ?_)
  refine ev_q rfl (q_fieldAddrP fO27_4 rfl rfl ?_)
  refine ev_k rfl (k_store sz2 rfl (by conv => lhs; whnf) rfl rfl rfl (Nat.le_of_ble_eq_true rfl) rfl ?_)
  refine ev_nil (hK7 _ ?_); clear hK7
  refine good_seq fun K8 hK8 => ?_
  refine good_region rfl ?_
  refine ev_q rfl (q_loadA tA27 rfl rfl rfl ?_)
  refine ev_k rfl (k_store sz27 rfl (by conv => lhs; whnf) rfl rfl rfl (Nat.le_of_ble_eq_true rfl) rfl ?_)
  refine ev_nil (hK8 _ ?_); clear hK8
  refine good_ret ?_
  repeat (first | refine thenQ_ret ?_ | refine blockQ_ret ?_)
  refine ret_cell rfl tA27 rfl rfl rfl ?_
  rfl

-- laws.szSubstation
set_option maxRecDepth 20000 in
set_option maxHeartbeats 2000000 in
theorem D_laws_szSubstation (s : ByteArray) (nd tr su re : Int) (left : Int) (hs : s.size ≤ 140737488351232) (hl : 0 ≤ left ∧ left ≤ 1152921504606846976) : Den Try.prog 13 [.agg [.s (.string s), .s (.int .i64 nd), .s (.int .i64 tr), .s (.int .i64 su), .s (.int .i64 re)], .s (.int .i64 left)] (.s (.int .i64 (if left - s.size < 0 then -1 else left - s.size))) := by
  refine den_of_good Try.func13 (by decide) rfl (Nat.le_of_ble_eq_true rfl) (Nat.le_of_ble_eq_true rfl) ?_
  refine good_seq fun K1 hK1 => ?_
  refine good_region rfl ?_
  refine ev_k rfl (k_box (by conv => lhs; whnf) rfl rfl rfl ?_)
  refine ev_q rfl (q_assign (by conv => lhs; whnf) ?_)
  refine ev_nil (hK1 _ ?_); clear hK1
  refine good_seq fun K2 hK2 => ?_
  refine good_region rfl ?_
  refine ev_q rfl (q_move (by conv => lhs; whnf) ?_)
  refine ev_q rfl (q_fieldAddrP fO23_0 rfl rfl ?_)
  refine ev_q rfl (q_load tA9 rfl ?_)
  refine ev_q rfl (q_lenS tStr9 rfl ?_)
  intro n3 hn3
  refine ev_q rfl (q_int rfl rfl ?_)
  intro n4 hn4
  replace hn4 := in64 hn4 (by omega) (by omega)
  refine ev_q rfl (q_assign (by conv => lhs; whnf) ?_)
  refine ev_nil (hK2 _ ?_); clear hK2
  refine good_seq fun K5 hK5 => ?_
  refine good_seq fun K6 hK6 => ?_
  refine good_region rfl ?_
  refine ev_q rfl (q_move (by conv => lhs; whnf) ?_)
  refine ev_q rfl (q_int rfl rfl ?_)
  intro b7 hb7; cases b7
  · replace hb7 := dF hb7
    refine ev_nil (hK6 _ ?_); clear hK6
    refine good_condF rfl ?_
    refine good_skip (hK5 _ ?_); clear hK5
    refine good_seq fun K8 hK8 => ?_
    refine good_region rfl ?_
    refine ev_q rfl (q_move (by conv => lhs; whnf) ?_)
    refine ev_q rfl (q_assign (by conv => lhs; whnf) ?_)
    refine ev_nil (hK8 _ ?_); clear hK8
    refine good_ret ?_
    repeat (first | refine thenQ_ret ?_ | refine blockQ_ret ?_)
    refine ret_tmp (st := _) rfl (by conv => lhs; whnf) rfl ?_
    first | rfl | exact fI (by first | omega | grind) | (exfalso; first | omega | grind)
  · replace hb7 := dT hb7
    refine ev_nil (hK6 _ ?_); clear hK6
    refine good_condT rfl ?_
    refine good_seq fun K9 hK9 => ?_
    refine good_region rfl ?_
    refine ev_q rfl (q_assign (by conv => lhs; whnf) ?_)
    refine ev_nil (hK9 _ ?_); clear hK9
    refine good_ret ?_
    repeat (first | refine thenQ_ret ?_ | refine blockQ_ret ?_)
    refine ret_tmp (st := _) rfl (by conv => lhs; whnf) rfl ?_
    clear hK5
    first | rfl | exact fI (by first | omega | grind) | (exfalso; first | omega | grind)

-- spec.l01Div
set_option maxRecDepth 20000 in
set_option maxHeartbeats 2000000 in
theorem D_spec_l01Div (a b : Int) (ha : -4000000000000000000 ≤ a ∧ a ≤ 4000000000000000000) (hb : b ≠ 0 ∧ -1000000000000000000 ≤ b ∧ b ≤ 1000000000000000000) : Den Try.prog 69 [.s (.int .i64 a), .s (.int .i64 b)] (.s (.int .i64 (dr a b))) := by
  refine den_of_good Try.func69 (by decide) rfl (Nat.le_of_ble_eq_true rfl) (Nat.le_of_ble_eq_true rfl) ?_
  refine good_seq fun K1 hK1 => ?_
  refine good_region rfl ?_
  refine ev_q rfl (q_assign (by conv => lhs; whnf) ?_)
  refine ev_nil (hK1 _ ?_); clear hK1
  refine good_seq fun K2 hK2 => ?_
  refine good_seq fun K3 hK3 => ?_
  refine good_region rfl ?_
  refine ev_q rfl (q_move (by conv => lhs; whnf) ?_)
  refine ev_q rfl (q_int rfl rfl ?_)
  intro b4 hb4; cases b4
  · replace hb4 := dF hb4
    refine ev_nil (hK3 _ ?_); clear hK3
    refine good_condF rfl ?_
    refine good_skip (hK2 _ ?_); clear hK2
    refine good_seq fun K5 hK5 => ?_
    refine good_seq fun K6 hK6 => ?_
    refine good_region rfl ?_
    refine ev_q rfl (q_move (by conv => lhs; whnf) ?_)
    refine ev_q rfl (q_int rfl rfl ?_)
    intro b7 hb7; cases b7
    · replace hb7 := dF hb7
      refine ev_nil (hK6 _ ?_); clear hK6
      refine good_condF rfl ?_
      refine good_skip (hK5 _ ?_); clear hK5
      refine good_seq fun K8 hK8 => ?_
      refine good_region rfl ?_
      refine ev_q rfl (q_move (by conv => lhs; whnf) ?_)
      refine ev_q rfl (q_int rfl rfl ?_)
      intro n9 hn9
      replace hn9 := in64 hn9 (by omega) (by omega)
      refine ev_q rfl (q_move (by conv => lhs; whnf) ?_)
      refine ev_q rfl (q_int rfl rfl ?_)
      intro n10 hn10
      replace hn10 := in64 hn10 (by omega) (by omega)
      refine ev_q rfl (q_move (by conv => lhs; whnf) ?_)
      refine ev_q rfl (q_int rfl rfl ?_)
      intro n11 hn11
      replace hn11 := in64 hn11 (by omega) (by omega)
      refine ev_q rfl (q_int rfl rfl ⟨by omega, ?_⟩)
      intro n12 hn12
      first | replace hn12 := quoE hn12 (by omega) (by omega) | replace hn12 := quoT hn12 (by omega) (by omega)
      refine ev_q rfl (q_assign (by conv => lhs; whnf) ?_)
      refine ev_nil (hK8 _ ?_); clear hK8
      refine good_ret ?_
      repeat (first | refine thenQ_ret ?_ | refine blockQ_ret ?_)
      refine ret_tmp (st := _) rfl (by conv => lhs; whnf) rfl ?_
      exact fI (by simp only [dr, drP]; subst_vars; first | rw [if_pos (by omega), if_pos (by omega)] | rw [if_pos (by omega), if_neg (by omega)] | rw [if_neg (by omega), if_pos (by omega)] | rw [if_neg (by omega), if_neg (by omega)])
    · replace hb7 := dT hb7
      refine ev_nil (hK6 _ ?_); clear hK6
      refine good_condT rfl ?_
      refine good_seq fun K13 hK13 => ?_
      refine good_region rfl ?_
      refine ev_q rfl (q_move (by conv => lhs; whnf) ?_)
      refine ev_q rfl (q_move (by conv => lhs; whnf) ?_)
      refine ev_q rfl (q_int rfl rfl ?_)
      intro n14 hn14
      replace hn14 := in64 hn14 (by omega) (by omega)
      refine ev_q rfl (q_int rfl rfl ?_)
      intro n15 hn15
      replace hn15 := in64 hn15 (by omega) (by omega)
      refine ev_q rfl (q_move (by conv => lhs; whnf) ?_)
      refine ev_q rfl (q_int rfl rfl ?_)
      intro n16 hn16
      replace hn16 := in64 hn16 (by omega) (by omega)
      refine ev_q rfl (q_int rfl rfl ⟨by omega, ?_⟩)
      intro n17 hn17
      first | replace hn17 := quoE hn17 (by omega) (by omega) | replace hn17 := quoT hn17 (by omega) (by omega)
      refine ev_q rfl (q_neg rfl ?_)
      intro n18 hn18
      have hd := divB (x := n15) (y := n16) (by omega) (by omega)
      rw [← hn17] at hd
      replace hn18 := neg64 hn18 (by omega) (by omega)
      refine ev_q rfl (q_assign (by conv => lhs; whnf) ?_)
      refine ev_nil (hK13 _ ?_); clear hK13
      refine good_ret ?_
      repeat (first | refine thenQ_ret ?_ | refine blockQ_ret ?_)
      refine ret_tmp (st := _) rfl (by conv => lhs; whnf) rfl ?_
      clear hK5
      exact fI (by simp only [dr, drP]; subst_vars; first | rw [if_pos (by omega), if_pos (by omega)] | rw [if_pos (by omega), if_neg (by omega)] | rw [if_neg (by omega), if_pos (by omega)] | rw [if_neg (by omega), if_neg (by omega)])
  · replace hb4 := dT hb4
    refine ev_nil (hK3 _ ?_); clear hK3
    refine good_condT rfl ?_
    refine good_seq fun K19 hK19 => ?_
    refine good_region rfl ?_
    refine ev_q rfl (q_move (by conv => lhs; whnf) ?_)
    refine ev_q rfl (q_neg rfl ?_)
    intro n20 hn20
    replace hn20 := neg64 hn20 (by omega) (by omega)
    refine ev_q rfl (q_assign (by conv => lhs; whnf) ?_)
    refine ev_nil (hK19 _ ?_); clear hK19
    refine good_region rfl ?_
    refine ev_q rfl (q_move (by conv => lhs; whnf) ?_)
    refine ev_q rfl (q_neg rfl ?_)
    intro n21 hn21
    replace hn21 := neg64 hn21 (by omega) (by omega)
    refine ev_q rfl (q_assign (by conv => lhs; whnf) ?_)
    refine ev_nil (hK2 _ ?_); clear hK2
    refine good_seq fun K22 hK22 => ?_
    refine good_seq fun K23 hK23 => ?_
    refine good_region rfl ?_
    refine ev_q rfl (q_move (by conv => lhs; whnf) ?_)
    refine ev_q rfl (q_int rfl rfl ?_)
    intro b24 hb24; cases b24
    · replace hb24 := dF hb24
      refine ev_nil (hK23 _ ?_); clear hK23
      refine good_condF rfl ?_
      refine good_skip (hK22 _ ?_); clear hK22
      refine good_seq fun K25 hK25 => ?_
      refine good_region rfl ?_
      refine ev_q rfl (q_move (by conv => lhs; whnf) ?_)
      refine ev_q rfl (q_int rfl rfl ?_)
      intro n26 hn26
      replace hn26 := in64 hn26 (by omega) (by omega)
      refine ev_q rfl (q_move (by conv => lhs; whnf) ?_)
      refine ev_q rfl (q_int rfl rfl ?_)
      intro n27 hn27
      replace hn27 := in64 hn27 (by omega) (by omega)
      refine ev_q rfl (q_move (by conv => lhs; whnf) ?_)
      refine ev_q rfl (q_int rfl rfl ?_)
      intro n28 hn28
      replace hn28 := in64 hn28 (by omega) (by omega)
      refine ev_q rfl (q_int rfl rfl ⟨by omega, ?_⟩)
      intro n29 hn29
      first | replace hn29 := quoE hn29 (by omega) (by omega) | replace hn29 := quoT hn29 (by omega) (by omega)
      refine ev_q rfl (q_assign (by conv => lhs; whnf) ?_)
      refine ev_nil (hK25 _ ?_); clear hK25
      refine good_ret ?_
      repeat (first | refine thenQ_ret ?_ | refine blockQ_ret ?_)
      refine ret_tmp (st := _) rfl (by conv => lhs; whnf) rfl ?_
      exact fI (by simp only [dr, drP]; subst_vars; first | rw [if_pos (by omega), if_pos (by omega)] | rw [if_pos (by omega), if_neg (by omega)] | rw [if_neg (by omega), if_pos (by omega)] | rw [if_neg (by omega), if_neg (by omega)])
    · replace hb24 := dT hb24
      refine ev_nil (hK23 _ ?_); clear hK23
      refine good_condT rfl ?_
      refine good_seq fun K30 hK30 => ?_
      refine good_region rfl ?_
      refine ev_q rfl (q_move (by conv => lhs; whnf) ?_)
      refine ev_q rfl (q_move (by conv => lhs; whnf) ?_)
      refine ev_q rfl (q_int rfl rfl ?_)
      intro n31 hn31
      replace hn31 := in64 hn31 (by omega) (by omega)
      refine ev_q rfl (q_int rfl rfl ?_)
      intro n32 hn32
      replace hn32 := in64 hn32 (by omega) (by omega)
      refine ev_q rfl (q_move (by conv => lhs; whnf) ?_)
      refine ev_q rfl (q_int rfl rfl ?_)
      intro n33 hn33
      replace hn33 := in64 hn33 (by omega) (by omega)
      refine ev_q rfl (q_int rfl rfl ⟨by omega, ?_⟩)
      intro n34 hn34
      first | replace hn34 := quoE hn34 (by omega) (by omega) | replace hn34 := quoT hn34 (by omega) (by omega)
      refine ev_q rfl (q_neg rfl ?_)
      intro n35 hn35
      have hd := divB (x := n32) (y := n33) (by omega) (by omega)
      rw [← hn34] at hd
      replace hn35 := neg64 hn35 (by omega) (by omega)
      refine ev_q rfl (q_assign (by conv => lhs; whnf) ?_)
      refine ev_nil (hK30 _ ?_); clear hK30
      refine good_ret ?_
      repeat (first | refine thenQ_ret ?_ | refine blockQ_ret ?_)
      refine ret_tmp (st := _) rfl (by conv => lhs; whnf) rfl ?_
      clear hK22
      exact fI (by simp only [dr, drP]; subst_vars; first | rw [if_pos (by omega), if_pos (by omega)] | rw [if_pos (by omega), if_neg (by omega)] | rw [if_neg (by omega), if_pos (by omega)] | rw [if_neg (by omega), if_neg (by omega)])

-- impl.abs
set_option maxRecDepth 20000 in
set_option maxHeartbeats 2000000 in
theorem D_impl_abs (a : Int) (h : -9223372036854775807 ≤ a ∧ a ≤ 9223372036854775807) : Den Try.prog 91 [.s (.int .i64 a)] (.s (.int .i64 ((a.natAbs : Int)))) := by
  refine den_of_good Try.func91 (by decide) rfl (Nat.le_of_ble_eq_true rfl) (Nat.le_of_ble_eq_true rfl) ?_
  refine good_seq fun K1 hK1 => ?_
  refine good_region rfl ?_
  refine ev_q rfl (q_assign (by conv => lhs; whnf) ?_)
  refine ev_nil (hK1 _ ?_); clear hK1
  refine good_seq fun K2 hK2 => ?_
  refine good_region rfl ?_
  refine ev_q rfl (q_move (by conv => lhs; whnf) ?_)
  refine ev_q rfl (q_move (by conv => lhs; whnf) ?_)
  refine ev_q rfl (q_neg rfl ?_)
  intro n3 hn3
  replace hn3 := neg64 hn3 (by omega) (by omega)
  refine ev_q rfl (q_max rfl rfl ?_)
  intro n4 hn4; simp only [mxI, mnI] at hn4
  refine ev_q rfl (q_assign (by conv => lhs; whnf) ?_)
  refine ev_nil (hK2 _ ?_); clear hK2
  refine good_ret ?_
  repeat (first | refine thenQ_ret ?_ | refine blockQ_ret ?_)
  refine ret_tmp (st := _) rfl (by conv => lhs; whnf) rfl ?_
  first | rfl | exact fI (by first | omega | grind) | (exfalso; first | omega | grind)

-- impl.divRound
set_option maxRecDepth 20000 in
set_option maxHeartbeats 2000000 in
theorem D_impl_divRound (a b : Int) (ha : -4000000000000000000 ≤ a ∧ a ≤ 4000000000000000000) (hb : b ≠ 0 ∧ -1000000000000000000 ≤ b ∧ b ≤ 1000000000000000000) : Den Try.prog 71 [.s (.int .i64 a), .s (.int .i64 b)] (.s (.int .i64 (dr a b))) := by
  refine den_of_good Try.func71 (by decide) rfl (Nat.le_of_ble_eq_true rfl) (Nat.le_of_ble_eq_true rfl) ?_
  refine good_seq fun K1 hK1 => ?_
  refine good_region rfl ?_
  refine ev_q rfl (q_assign (by conv => lhs; whnf) ?_)
  refine ev_nil (hK1 _ ?_); clear hK1
  refine good_seq fun K2 hK2 => ?_
  refine good_draw 9 hmix (by kernel_rfl) rfl ?_
  refine qo_q rfl (q_move (by conv => lhs; whnf) ?_)
  refine qo_q rfl (q_move (by conv => lhs; whnf) ?_)
  refine qo_q rfl (q_int rfl rfl ⟨by omega, ?_⟩)
  intro n3 hn3
  replace hn3 := quoT hn3 (by omega) (by omega)
  have ht := tdiv_le (a := a) (b := b)
  rw [← hn3] at ht
  refine qo_q rfl (q_move (by conv => lhs; whnf) ?_)
  refine qo_q rfl (q_move (by conv => lhs; whnf) ?_)
  refine qo_q rfl (q_int rfl rfl ⟨by omega, ?_⟩)
  intro n4 hn4
  have hm := tmod_lt' (a := a) (b := b) (by omega)
  rw [← hn4] at hm
  refine qo_q rfl (q_callI rfl rfl (rfl) (D_impl_abs _ (by omega)) ?_)
  intro n5 hn5
  refine qo_q rfl (q_assign (by conv => lhs; whnf) ?_)
  refine qo_q rfl (q_assign (by conv => lhs; whnf) ?_)
  refine qo_nil ?_
  refine ev_nil (hK2 _ ?_); clear hK2
  refine good_seq fun K6 hK6 => ?_
  refine good_seq fun K7 hK7 => ?_
  refine good_region rfl ?_
  refine ev_q rfl (q_move (by conv => lhs; whnf) ?_)
  refine ev_q rfl (q_move (by conv => lhs; whnf) ?_)
  refine ev_q rfl (q_callI rfl rfl (rfl) (D_impl_abs _ (by omega)) ?_)
  intro n8 hn8
  refine ev_q rfl (q_move (by conv => lhs; whnf) ?_)
  refine ev_q rfl (q_int rfl rfl ?_)
  intro n9 hn9
  replace hn9 := in64 hn9 (by omega) (by omega)
  refine ev_q rfl (q_int rfl rfl ?_)
  intro b10 hb10; cases b10
  · replace hb10 := dF hb10
    refine ev_nil (hK7 _ ?_); clear hK7
    refine good_condF rfl ?_
    refine good_skip (hK6 _ ?_); clear hK6
    refine good_seq fun K11 hK11 => ?_
    refine good_region rfl ?_
    refine ev_q rfl (q_move (by conv => lhs; whnf) ?_)
    refine ev_q rfl (q_assign (by conv => lhs; whnf) ?_)
    refine ev_nil (hK11 _ ?_); clear hK11
    refine good_ret ?_
    repeat (first | refine thenQ_ret ?_ | refine blockQ_ret ?_)
    refine ret_tmp (st := _) rfl (by conv => lhs; whnf) rfl ?_
    exact fI (by rw [dr_eq (q := n3) (r := n5) (by omega) hn3 (by rw [hn5, hn4])]; first | (rw [if_neg (by omega)]) | (rw [if_pos (by omega)]; first | (rw [if_pos (decide_eq_decide.2 (by omega))]; omega) | (rw [if_neg (fun h => by have := decide_eq_decide.1 h; omega)]; omega)))
  · replace hb10 := dT hb10
    refine ev_nil (hK7 _ ?_); clear hK7
    refine good_condT rfl ?_
    refine good_seq fun K12 hK12 => ?_
    refine good_seq fun K13 hK13 => ?_
    refine good_region rfl ?_
    refine ev_q rfl (q_move (by conv => lhs; whnf) ?_)
    refine ev_q rfl (q_int rfl rfl ?_)
    intro b14 hb14; cases b14
    · replace hb14 := dF hb14
      refine ev_q rfl (q_move (by conv => lhs; whnf) ?_)
      refine ev_q rfl (q_int rfl rfl ?_)
      intro b15 hb15; cases b15
      · replace hb15 := dF hb15
        refine ev_q rfl (q_beq tB4 rfl rfl ?_)
        intro b16 hb16; replace hb16 : b16 = true := hb16; subst hb16
        refine ev_nil (hK13 _ ?_); clear hK13
        refine good_condT rfl ?_
        refine good_seq fun K17 hK17 => ?_
        refine good_region rfl ?_
        refine ev_q rfl (q_move (by conv => lhs; whnf) ?_)
        refine ev_q rfl (q_int rfl rfl ?_)
        intro n18 hn18
        replace hn18 := in64 hn18 (by omega) (by omega)
        refine ev_q rfl (q_assign (by conv => lhs; whnf) ?_)
        refine ev_nil (hK17 _ ?_); clear hK17
        refine good_ret ?_
        repeat (first | refine thenQ_ret ?_ | refine blockQ_ret ?_)
        refine ret_tmp (st := _) rfl (by conv => lhs; whnf) rfl ?_
        clear hK6 hK12
        exact fI (by rw [dr_eq (q := n3) (r := n5) (by omega) hn3 (by rw [hn5, hn4])]; first | (rw [if_neg (by omega)]) | (rw [if_pos (by omega)]; first | (rw [if_pos (decide_eq_decide.2 (by omega))]; omega) | (rw [if_neg (fun h => by have := decide_eq_decide.1 h; omega)]; omega)))
      · replace hb15 := dT hb15
        refine ev_q rfl (q_beq tB4 rfl rfl ?_)
        intro b19 hb19; replace hb19 : b19 = false := hb19; subst hb19
        refine ev_nil (hK13 _ ?_); clear hK13
        refine good_condF rfl ?_
        refine good_skip (hK12 _ ?_); clear hK12
        refine good_seq fun K20 hK20 => ?_
        refine good_region rfl ?_
        refine ev_q rfl (q_move (by conv => lhs; whnf) ?_)
        refine ev_q rfl (q_int rfl rfl ?_)
        intro n21 hn21
        replace hn21 := in64 hn21 (by omega) (by omega)
        refine ev_q rfl (q_assign (by conv => lhs; whnf) ?_)
        refine ev_nil (hK20 _ ?_); clear hK20
        refine good_ret ?_
        repeat (first | refine thenQ_ret ?_ | refine blockQ_ret ?_)
        refine ret_tmp (st := _) rfl (by conv => lhs; whnf) rfl ?_
        clear hK6
        exact fI (by rw [dr_eq (q := n3) (r := n5) (by omega) hn3 (by rw [hn5, hn4])]; first | (rw [if_neg (by omega)]) | (rw [if_pos (by omega)]; first | (rw [if_pos (decide_eq_decide.2 (by omega))]; omega) | (rw [if_neg (fun h => by have := decide_eq_decide.1 h; omega)]; omega)))
    · replace hb14 := dT hb14
      refine ev_q rfl (q_move (by conv => lhs; whnf) ?_)
      refine ev_q rfl (q_int rfl rfl ?_)
      intro b22 hb22; cases b22
      · replace hb22 := dF hb22
        refine ev_q rfl (q_beq tB4 rfl rfl ?_)
        intro b23 hb23; replace hb23 : b23 = false := hb23; subst hb23
        refine ev_nil (hK13 _ ?_); clear hK13
        refine good_condF rfl ?_
        refine good_skip (hK12 _ ?_); clear hK12
        refine good_seq fun K24 hK24 => ?_
        refine good_region rfl ?_
        refine ev_q rfl (q_move (by conv => lhs; whnf) ?_)
        refine ev_q rfl (q_int rfl rfl ?_)
        intro n25 hn25
        replace hn25 := in64 hn25 (by omega) (by omega)
        refine ev_q rfl (q_assign (by conv => lhs; whnf) ?_)
        refine ev_nil (hK24 _ ?_); clear hK24
        refine good_ret ?_
        repeat (first | refine thenQ_ret ?_ | refine blockQ_ret ?_)
        refine ret_tmp (st := _) rfl (by conv => lhs; whnf) rfl ?_
        clear hK6
        exact fI (by rw [dr_eq (q := n3) (r := n5) (by omega) hn3 (by rw [hn5, hn4])]; first | (rw [if_neg (by omega)]) | (rw [if_pos (by omega)]; first | (rw [if_pos (decide_eq_decide.2 (by omega))]; omega) | (rw [if_neg (fun h => by have := decide_eq_decide.1 h; omega)]; omega)))
      · replace hb22 := dT hb22
        refine ev_q rfl (q_beq tB4 rfl rfl ?_)
        intro b26 hb26; replace hb26 : b26 = true := hb26; subst hb26
        refine ev_nil (hK13 _ ?_); clear hK13
        refine good_condT rfl ?_
        refine good_seq fun K27 hK27 => ?_
        refine good_region rfl ?_
        refine ev_q rfl (q_move (by conv => lhs; whnf) ?_)
        refine ev_q rfl (q_int rfl rfl ?_)
        intro n28 hn28
        replace hn28 := in64 hn28 (by omega) (by omega)
        refine ev_q rfl (q_assign (by conv => lhs; whnf) ?_)
        refine ev_nil (hK27 _ ?_); clear hK27
        refine good_ret ?_
        repeat (first | refine thenQ_ret ?_ | refine blockQ_ret ?_)
        refine ret_tmp (st := _) rfl (by conv => lhs; whnf) rfl ?_
        clear hK6 hK12
        exact fI (by rw [dr_eq (q := n3) (r := n5) (by omega) hn3 (by rw [hn5, hn4])]; first | (rw [if_neg (by omega)]) | (rw [if_pos (by omega)]; first | (rw [if_pos (decide_eq_decide.2 (by omega))]; omega) | (rw [if_neg (fun h => by have := decide_eq_decide.1 h; omega)]; omega)))

-- spec.l00Min
set_option maxRecDepth 20000 in
set_option maxHeartbeats 2000000 in
theorem D_spec_l00Min (a b : Int)  : Den Try.prog 98 [.s (.int .i64 a), .s (.int .i64 b)] (.s (.int .i64 (if a < b then a else b))) := by
  refine den_of_good Try.func98 (by decide) rfl (Nat.le_of_ble_eq_true rfl) (Nat.le_of_ble_eq_true rfl) ?_
  refine good_seq fun K1 hK1 => ?_
  refine good_region rfl ?_
  refine ev_q rfl (q_assign (by conv => lhs; whnf) ?_)
  refine ev_nil (hK1 _ ?_); clear hK1
  refine good_seq fun K2 hK2 => ?_
  refine good_seq fun K3 hK3 => ?_
  refine good_region rfl ?_
  refine ev_q rfl (q_move (by conv => lhs; whnf) ?_)
  refine ev_q rfl (q_move (by conv => lhs; whnf) ?_)
  refine ev_q rfl (q_int rfl rfl ?_)
  intro b4 hb4; cases b4
  · replace hb4 := dF hb4
    refine ev_nil (hK3 _ ?_); clear hK3
    refine good_condF rfl ?_
    refine good_skip (hK2 _ ?_); clear hK2
    refine good_seq fun K5 hK5 => ?_
    refine good_region rfl ?_
    refine ev_q rfl (q_move (by conv => lhs; whnf) ?_)
    refine ev_q rfl (q_assign (by conv => lhs; whnf) ?_)
    refine ev_nil (hK5 _ ?_); clear hK5
    refine good_ret ?_
    repeat (first | refine thenQ_ret ?_ | refine blockQ_ret ?_)
    refine ret_tmp (st := _) rfl (by conv => lhs; whnf) rfl ?_
    first | rfl | exact fI (by first | omega | grind) | (exfalso; first | omega | grind)
  · replace hb4 := dT hb4
    refine ev_nil (hK3 _ ?_); clear hK3
    refine good_condT rfl ?_
    refine good_seq fun K6 hK6 => ?_
    refine good_region rfl ?_
    refine ev_q rfl (q_move (by conv => lhs; whnf) ?_)
    refine ev_q rfl (q_assign (by conv => lhs; whnf) ?_)
    refine ev_nil (hK6 _ ?_); clear hK6
    refine good_ret ?_
    repeat (first | refine thenQ_ret ?_ | refine blockQ_ret ?_)
    refine ret_tmp (st := _) rfl (by conv => lhs; whnf) rfl ?_
    clear hK2
    first | rfl | exact fI (by first | omega | grind) | (exfalso; first | omega | grind)

-- spec.l00Max
set_option maxRecDepth 20000 in
set_option maxHeartbeats 2000000 in
theorem D_spec_l00Max (a b : Int)  : Den Try.prog 84 [.s (.int .i64 a), .s (.int .i64 b)] (.s (.int .i64 (if a > b then a else b))) := by
  refine den_of_good Try.func84 (by decide) rfl (Nat.le_of_ble_eq_true rfl) (Nat.le_of_ble_eq_true rfl) ?_
  refine good_seq fun K1 hK1 => ?_
  refine good_region rfl ?_
  refine ev_q rfl (q_assign (by conv => lhs; whnf) ?_)
  refine ev_nil (hK1 _ ?_); clear hK1
  refine good_seq fun K2 hK2 => ?_
  refine good_seq fun K3 hK3 => ?_
  refine good_region rfl ?_
  refine ev_q rfl (q_move (by conv => lhs; whnf) ?_)
  refine ev_q rfl (q_move (by conv => lhs; whnf) ?_)
  refine ev_q rfl (q_int rfl rfl ?_)
  intro b4 hb4; cases b4
  · replace hb4 := dF hb4
    refine ev_nil (hK3 _ ?_); clear hK3
    refine good_condF rfl ?_
    refine good_skip (hK2 _ ?_); clear hK2
    refine good_seq fun K5 hK5 => ?_
    refine good_region rfl ?_
    refine ev_q rfl (q_move (by conv => lhs; whnf) ?_)
    refine ev_q rfl (q_assign (by conv => lhs; whnf) ?_)
    refine ev_nil (hK5 _ ?_); clear hK5
    refine good_ret ?_
    repeat (first | refine thenQ_ret ?_ | refine blockQ_ret ?_)
    refine ret_tmp (st := _) rfl (by conv => lhs; whnf) rfl ?_
    first | rfl | exact fI (by first | omega | grind) | (exfalso; first | omega | grind)
  · replace hb4 := dT hb4
    refine ev_nil (hK3 _ ?_); clear hK3
    refine good_condT rfl ?_
    refine good_seq fun K6 hK6 => ?_
    refine good_region rfl ?_
    refine ev_q rfl (q_move (by conv => lhs; whnf) ?_)
    refine ev_q rfl (q_assign (by conv => lhs; whnf) ?_)
    refine ev_nil (hK6 _ ?_); clear hK6
    refine good_ret ?_
    repeat (first | refine thenQ_ret ?_ | refine blockQ_ret ?_)
    refine ret_tmp (st := _) rfl (by conv => lhs; whnf) rfl ?_
    clear hK2
    first | rfl | exact fI (by first | omega | grind) | (exfalso; first | omega | grind)

theorem gB {q pr b : Int} (h1 : 0 ≤ q ∧ q ≤ 100000) (h2 : 0 ≤ pr ∧ pr ≤ 18000) (h3 : 0 ≤ b ∧ b ≤ 18001) : (-7600000000000 ≤ q * 4186 * (pr - b) ∧ q * 4186 * (pr - b) ≤ 7600000000000) ∧ (-7600000000001 ≤ gP q pr b ∧ gP q pr b ≤ 7600000000001) := by
  have a1 := mulS (a := q * 4186) (b := pr - b) (A := 418600000) (B := 18001) (by omega) (by omega) (by omega) (by omega)
  have a2 := dr_bound (a := q * 4186 * (pr - b)) (b := 100000) (by omega)
  exact ⟨by omega, by unfold gP; omega⟩
theorem cB {tr su re pr b : Int} (h1 : 0 ≤ tr ∧ tr ≤ 100000) (h2 : 0 ≤ pr ∧ pr ≤ 18000) (h3 : 0 ≤ b ∧ b ≤ 18001) (h4 : 0 ≤ su ∧ su ≤ 18000) (h5 : 0 ≤ re ∧ re ≤ 18000) : (-40000 ≤ mdP su re pr b ∧ mdP su re pr b ≤ 40000) ∧ (-4000000000 ≤ tr * mdP su re pr b ∧ tr * mdP su re pr b ≤ 4000000000) ∧ (-4000000001 ≤ cP tr su re pr b ∧ cP tr su re pr b ≤ 4000000001) := by
  have a0 := dr_bound (a := pr - su + b - re) (b := 2) (by omega)
  have a1 : -40000 ≤ mdP su re pr b ∧ mdP su re pr b ≤ 40000 := by unfold mdP; omega
  have a2 := mulS (a := tr) (b := mdP su re pr b) (A := 100000) (B := 40000) (by omega) (by omega) (by omega) (by omega)
  have a3 := dr_bound (a := tr * mdP su re pr b) (b := 100) (by omega)
  exact ⟨a1, by omega, by unfold cP; omega⟩

theorem les_v {tr su re pr q l h : Int} (m : Meet (gP q pr) (cP tr su re pr) re pr) (h1 : re ≤ l ∧ l ≤ pr) (e : h = l + 1) (h2 : l = re ∨ cP tr su re pr l ≤ gP q pr l) (h3 : h = pr + 1 ∨ gP q pr h < cP tr su re pr h) :
    ∃ v f0, v = (if h ≤ pr then (if mx0 (lesP tr su re pr q l) > mx0 (lesP tr su re pr q h) then mx0 (lesP tr su re pr q l) else mx0 (lesP tr su re pr q h)) else mx0 (lesP tr su re pr q l)) ∧
      f0 = (if h ≤ pr ∧ mx0 (lesP tr su re pr q h) = v then h else if mx0 (lesP tr su re pr q l) = v then l else re) ∧ (∀ a, re ≤ a → a ≤ pr → mx0 (lesP tr su re pr q a) ≤ v) ∧ mx0 (lesP tr su re pr q f0) = v ∧ re ≤ f0 ∧ f0 ≤ pr := by
  refine ⟨_, _, rfl, rfl, fun a ha hb => ?_, ?_, ?_, ?_⟩
  · have := meet_top m h1 h2 (by rw [← e]; omega) a ⟨ha, hb⟩
    rw [← e] at this
    have k : lesP tr su re pr q a ≤ lesP tr su re pr q l ∨ (h ≤ pr ∧ lesP tr su re pr q a ≤ lesP tr su re pr q h) := this
    rcases k with k | ⟨k0, k⟩
    · have := mx0_le k
      split
      · split <;> omega
      · exact this
    · have := mx0_le k
      rw [if_pos k0]
      split <;> omega
  · grind
  · split
    · omega
    · split <;> omega
  · have := m.le
    split
    · omega
    · split <;> omega
theorem les_end {tr su re pr q b v : Int} (m : Meet (gP q pr) (cP tr su re pr) re pr) (hb : re ≤ b ∧ b ≤ pr) (hv : mx0 (lesP tr su re pr q b) = v) (htop : ∀ a, re ≤ a → a ≤ pr → mx0 (lesP tr su re pr q a) ≤ v) (hend : b = pr ∨ mx0 (lesP tr su re pr q (b + 1)) < v) : b = bB (lesP tr su re pr q) re pr :=
  bB_uniq (meet_best m hb hv htop hend)

-- spec.l12Mean
set_option maxRecDepth 20000 in
set_option maxHeartbeats 2000000 in
theorem D_spec_l12Mean (s : ByteArray) (nd tr su re : Int) (pr ba : Int) (h1 : 0 ≤ pr ∧ pr ≤ 20000) (h2 : 0 ≤ ba ∧ ba ≤ 20000) (h3 : 0 ≤ su ∧ su ≤ 18000) (h4 : 0 ≤ re ∧ re ≤ 18000) : Den Try.prog 48 [.rp [.s (.string s), .s (.int .i64 nd), .s (.int .i64 tr), .s (.int .i64 su), .s (.int .i64 re)], .s (.int .i64 pr), .s (.int .i64 ba)] (.s (.int .i64 (dr (pr - su + ba - re) 2))) := by
  refine den_of_good Try.func48 (by decide) rfl (Nat.le_of_ble_eq_true rfl) (Nat.le_of_ble_eq_true rfl) ?_
  refine good_seq fun K1 hK1 => ?_
  refine good_region rfl ?_
  refine ev_q rfl (q_assign (by conv => lhs; whnf) ?_)
  refine ev_nil (hK1 _ ?_); clear hK1
  refine good_seq fun K2 hK2 => ?_
  refine good_draw 15 hmix (by kernel_rfl) rfl ?_
  refine qo_q rfl (q_move (by conv => lhs; whnf) ?_)
  refine qo_q rfl (q_move (by conv => lhs; whnf) ?_)
  refine qo_q rfl (q_nilCheck (by conv => lhs; whnf) rfl ?_)
  refine qo_q rfl (q_fieldAddr fO27_3 rfl rfl ?_)
  refine qo_q rfl (q_load tA2 rfl ?_)
  refine qo_q rfl (q_int rfl rfl ?_)
  intro n3 hn3
  replace hn3 := in64 hn3 (by omega) (by omega)
  refine qo_q rfl (q_move (by conv => lhs; whnf) ?_)
  refine qo_q rfl (q_int rfl rfl ?_)
  intro n4 hn4
  replace hn4 := in64 hn4 (by omega) (by omega)
  refine qo_q rfl (q_move (by conv => lhs; whnf) ?_)
  refine qo_q rfl (q_nilCheck (by conv => lhs; whnf) rfl ?_)
  refine qo_q rfl (q_fieldAddr fO27_4 rfl rfl ?_)
  refine qo_q rfl (q_load tA2 rfl ?_)
  refine qo_q rfl (q_int rfl rfl ?_)
  intro n5 hn5
  replace hn5 := in64 hn5 (by omega) (by omega)
  refine qo_q rfl (q_callI rfl rfl (rfl) (D_spec_l01Div _ _ (by omega) (by omega)) ?_)
  intro n6 hn6
  rw [hn5, hn4, hn3] at hn6
  refine qo_q rfl (q_assign (by conv => lhs; whnf) ?_)
  refine qo_nil ?_
  refine ev_nil (hK2 _ ?_); clear hK2
  refine good_ret ?_
  repeat (first | refine thenQ_ret ?_ | refine blockQ_ret ?_)
  refine ret_tmp (st := _) rfl (by conv => lhs; whnf) rfl ?_
  first | rfl | exact fI (by first | omega | grind) | (exfalso; first | omega | grind)

-- (impl.Substation).meanDifference
set_option maxRecDepth 20000 in
set_option maxHeartbeats 2000000 in
theorem D_impl_Substation_meanDifference (s : ByteArray) (nd tr su re : Int) (pr ba : Int) (h1 : 0 ≤ pr ∧ pr ≤ 20000) (h2 : 0 ≤ ba ∧ ba ≤ 20000) (h3 : 0 ≤ su ∧ su ≤ 18000) (h4 : 0 ≤ re ∧ re ≤ 18000) : Den Try.prog 52 [.agg [.s (.string s), .s (.int .i64 nd), .s (.int .i64 tr), .s (.int .i64 su), .s (.int .i64 re)], .s (.int .i64 pr), .s (.int .i64 ba)] (.s (.int .i64 (dr (pr - su + ba - re) 2))) := by
  refine den_of_good Try.func52 (by decide) rfl (Nat.le_of_ble_eq_true rfl) (Nat.le_of_ble_eq_true rfl) ?_
  refine good_seq fun K1 hK1 => ?_
  refine good_region rfl ?_
  refine ev_k rfl (k_box (by conv => lhs; whnf) rfl rfl rfl ?_)
  refine ev_q rfl (q_assign (by conv => lhs; whnf) ?_)
  refine ev_nil (hK1 _ ?_); clear hK1
  refine good_seq fun K2 hK2 => ?_
  refine good_region rfl ?_
  refine ev_q rfl (q_move (by conv => lhs; whnf) ?_)
  refine ev_q rfl (q_fieldAddrP fO27_3 rfl rfl ?_)
  refine ev_q rfl (q_load tA2 rfl ?_)
  refine ev_q rfl (q_int rfl rfl ?_)
  intro n3 hn3
  replace hn3 := in64 hn3 (by omega) (by omega)
  refine ev_q rfl (q_move (by conv => lhs; whnf) ?_)
  refine ev_q rfl (q_int rfl rfl ?_)
  intro n4 hn4
  replace hn4 := in64 hn4 (by omega) (by omega)
  refine ev_q rfl (q_fieldAddrP fO27_4 rfl rfl ?_)
  refine ev_q rfl (q_load tA2 rfl ?_)
  refine ev_q rfl (q_int rfl rfl ?_)
  intro n5 hn5
  replace hn5 := in64 hn5 (by omega) (by omega)
  refine ev_q rfl (q_callI rfl rfl (rfl) (D_impl_divRound _ _ (by omega) (by omega)) ?_)
  intro n6 hn6
  rw [hn5, hn4, hn3] at hn6
  refine ev_q rfl (q_assign (by conv => lhs; whnf) ?_)
  refine ev_nil (hK2 _ ?_); clear hK2
  refine good_ret ?_
  repeat (first | refine thenQ_ret ?_ | refine blockQ_ret ?_)
  refine ret_tmp (st := _) rfl (by conv => lhs; whnf) rfl ?_
  first | rfl | exact fI (by first | omega | grind) | (exfalso; first | omega | grind)

-- impl.heatPower
set_option maxRecDepth 20000 in
set_option maxHeartbeats 2000000 in
theorem D_impl_heatPower (q pr b : Int) (hq : 0 ≤ q ∧ q ≤ 100000) (hp : 0 ≤ pr ∧ pr ≤ 18000) (hb : 0 ≤ b ∧ b ≤ 18001) : Den Try.prog 86 [.s (.int .i64 q), .s (.int .i64 pr), .s (.int .i64 b)] (.s (.int .i64 (gP q pr b))) := by
  have hg := gB hq hp hb
  refine den_of_good Try.func86 (by decide) rfl (Nat.le_of_ble_eq_true rfl) (Nat.le_of_ble_eq_true rfl) ?_
  refine good_seq fun K1 hK1 => ?_
  refine good_region rfl ?_
  refine ev_q rfl (q_assign (by conv => lhs; whnf) ?_)
  refine ev_nil (hK1 _ ?_); clear hK1
  refine good_seq fun K2 hK2 => ?_
  refine good_region rfl ?_
  refine ev_q rfl (q_move (by conv => lhs; whnf) ?_)
  refine ev_q rfl (q_int rfl rfl ?_)
  intro n3 hn3
  replace hn3 := in64 hn3 (by omega) (by omega)
  refine ev_q rfl (q_move (by conv => lhs; whnf) ?_)
  refine ev_q rfl (q_move (by conv => lhs; whnf) ?_)
  refine ev_q rfl (q_int rfl rfl ?_)
  intro n4 hn4
  replace hn4 := in64 hn4 (by omega) (by omega)
  refine ev_q rfl (q_int rfl rfl ?_)
  intro n5 hn5
  rw [hn3, hn4] at hn5
  replace hn5 := in64 hn5 (by omega) (by omega)
  refine ev_q rfl (q_callI rfl rfl (rfl) (D_impl_divRound _ _ (by omega) (by omega)) ?_)
  intro n6 hn6
  rw [hn5] at hn6
  refine ev_q rfl (q_assign (by conv => lhs; whnf) ?_)
  refine ev_nil (hK2 _ ?_); clear hK2
  refine good_ret ?_
  repeat (first | refine thenQ_ret ?_ | refine blockQ_ret ?_)
  refine ret_tmp (st := _) rfl (by conv => lhs; whnf) rfl ?_
  exact fI (by assumption)

-- spec.l02Power
set_option maxRecDepth 20000 in
set_option maxHeartbeats 2000000 in
theorem D_spec_l02Power (q pr b : Int) (hq : 0 ≤ q ∧ q ≤ 100000) (hp : 0 ≤ pr ∧ pr ≤ 18000) (hb : 0 ≤ b ∧ b ≤ 18001) : Den Try.prog 82 [.s (.int .i64 q), .s (.int .i64 pr), .s (.int .i64 b)] (.s (.int .i64 (gP q pr b))) := by
  have hg := gB hq hp hb
  refine den_of_good Try.func82 (by decide) rfl (Nat.le_of_ble_eq_true rfl) (Nat.le_of_ble_eq_true rfl) ?_
  refine good_seq fun K1 hK1 => ?_
  refine good_region rfl ?_
  refine ev_q rfl (q_assign (by conv => lhs; whnf) ?_)
  refine ev_nil (hK1 _ ?_); clear hK1
  refine good_seq fun K2 hK2 => ?_
  refine good_region rfl ?_
  refine ev_q rfl (q_move (by conv => lhs; whnf) ?_)
  refine ev_q rfl (q_int rfl rfl ?_)
  intro n3 hn3
  replace hn3 := in64 hn3 (by omega) (by omega)
  refine ev_q rfl (q_move (by conv => lhs; whnf) ?_)
  refine ev_q rfl (q_move (by conv => lhs; whnf) ?_)
  refine ev_q rfl (q_int rfl rfl ?_)
  intro n4 hn4
  replace hn4 := in64 hn4 (by omega) (by omega)
  refine ev_q rfl (q_int rfl rfl ?_)
  intro n5 hn5
  rw [hn3, hn4] at hn5
  replace hn5 := in64 hn5 (by omega) (by omega)
  refine ev_q rfl (q_callI rfl rfl (rfl) (D_spec_l01Div _ _ (by omega) (by omega)) ?_)
  intro n6 hn6
  rw [hn5] at hn6
  refine ev_q rfl (q_assign (by conv => lhs; whnf) ?_)
  refine ev_nil (hK2 _ ?_); clear hK2
  refine good_ret ?_
  repeat (first | refine thenQ_ret ?_ | refine blockQ_ret ?_)
  refine ret_tmp (st := _) rfl (by conv => lhs; whnf) rfl ?_
  exact fI (by assumption)

-- (impl.Substation).bestBack$1
set_option maxRecDepth 20000 in
set_option maxHeartbeats 2000000 in
theorem D_impl_Substation_bestBack_1 (s : ByteArray) (nd tr su re : Int) (pr q b : Int) (hq : 0 ≤ q ∧ q ≤ 100000) (hp : 0 ≤ pr ∧ pr ≤ 18000) (hb : 0 ≤ b ∧ b ≤ 18001) (ht : 0 ≤ tr ∧ tr ≤ 100000) (hsu : 0 ≤ su ∧ su ≤ 18000) (hre : 0 ≤ re ∧ re ≤ 18000) : Den Try.prog 85 [.s (.int .i64 b), .rp [.s (.int .i64 q)], .rp [.s (.int .i64 pr)], .rp [.s (.string s), .s (.int .i64 nd), .s (.int .i64 tr), .s (.int .i64 su), .s (.int .i64 re)]] (.s (.int .i64 (lesP tr su re pr q b))) := by
  have hg := gB hq hp hb
  have hc := cB (tr := tr) (su := su) (re := re) ht hp hb hsu hre
  refine den_of_good Try.func85 (by decide) rfl (Nat.le_of_ble_eq_true rfl) (Nat.le_of_ble_eq_true rfl) ?_
  refine good_seq fun K1 hK1 => ?_
  refine good_region rfl ?_
  refine ev_q rfl (q_assign (by conv => lhs; whnf) ?_)
  refine ev_nil (hK1 _ ?_); clear hK1
  refine good_seq fun K2 hK2 => ?_
  refine good_draw 14 hmix (by kernel_rfl) rfl ?_
  refine qo_q rfl (q_load tA2 rfl ?_)
  refine qo_q rfl (q_load tA2 rfl ?_)
  refine qo_q rfl (q_move (by conv => lhs; whnf) ?_)
  refine qo_q rfl (q_callI rfl rfl (rfl) (D_impl_heatPower _ _ _ hq hp hb) ?_)
  intro n3 hn3
  refine qo_q rfl (q_fieldAddr fO27_2 rfl rfl ?_)
  refine qo_q rfl (q_load tA2 rfl ?_)
  refine qo_q rfl (q_loadA tA27 rfl rfl rfl ?_)
  refine qo_q rfl (q_load tA2 rfl ?_)
  refine qo_q rfl (q_move (by conv => lhs; whnf) ?_)
  refine qo_q rfl (q_callI rfl rfl (rfl) (D_impl_Substation_meanDifference _ _ _ _ _ _ _ (by omega) (by omega) (by omega) (by omega)) ?_)
  intro n4 hn4
  replace hn4 : n4 = mdP su re pr b := hn4
  refine qo_q rfl (q_int rfl rfl ?_)
  intro n5 hn5
  rw [hn4] at hn5
  replace hn5 := in64 hn5 (by omega) (by omega)
  refine qo_q rfl (q_callI rfl rfl (rfl) (D_impl_divRound _ _ (by omega) (by omega)) ?_)
  intro n6 hn6
  rw [hn5] at hn6
  replace hn6 : n6 = cP tr su re pr b := hn6
  refine qo_q rfl (q_min rfl rfl ?_)
  intro n7 hn7; simp only [mxI, mnI] at hn7
  refine qo_q rfl (q_assign (by conv => lhs; whnf) ?_)
  refine qo_nil ?_
  refine ev_nil (hK2 _ ?_); clear hK2
  refine good_ret ?_
  repeat (first | refine thenQ_ret ?_ | refine blockQ_ret ?_)
  refine ret_tmp (st := _) rfl (by conv => lhs; whnf) rfl ?_
  exact fI (by unfold lesP mi; grind)

-- (impl.Substation).bestBack
set_option maxRecDepth 20000 in
set_option maxHeartbeats 2000000 in
theorem D_impl_Substation_bestBack (s : ByteArray) (nd tr su re : Int) (pr q : Int) (hq : 0 ≤ q ∧ q ≤ 100000) (hp : 0 ≤ pr ∧ pr ≤ 18000) (ht : 0 ≤ tr ∧ tr ≤ 100000) (hsu : 0 ≤ su ∧ su ≤ 18000) (hre : 0 ≤ re ∧ re ≤ 18000) (h : re ≤ pr) : Den Try.prog 57 [.agg [.s (.string s), .s (.int .i64 nd), .s (.int .i64 tr), .s (.int .i64 su), .s (.int .i64 re)], .s (.int .i64 pr), .s (.int .i64 q)] (.tup [.s (.int .i64 (bB (lesP tr su re pr q) re pr)), .s (.int .i64 (lesP tr su re pr q (bB (lesP tr su re pr q) re pr)))]) := by
  refine den_of_good Try.func57 (by decide) rfl (Nat.le_of_ble_eq_true rfl) (Nat.le_of_ble_eq_true rfl) ?_
  refine good_seq fun K1 hK1 => ?_
  refine good_region rfl ?_
  refine ev_k rfl (k_box (by conv => lhs; whnf) rfl rfl rfl ?_)
  refine ev_k rfl (k_box (by conv => lhs; whnf) rfl rfl rfl ?_)
  refine ev_k rfl (k_box (by conv => lhs; whnf) rfl rfl rfl ?_)
  refine ev_q rfl (q_assign (by conv => lhs; whnf) ?_)
  refine ev_q rfl (q_assign (by conv => lhs; whnf) ?_)
  refine ev_nil (hK1 _ ?_); clear hK1
  refine good_seq fun K2 hK2 => ?_
  refine good_region rfl ?_
  refine ev_q rfl (q_clo rfl rfl ?_)
  refine ev_q rfl (q_assign (by conv => lhs; whnf) ?_)
  refine ev_nil (hK2 _ ?_); clear hK2
  refine good_seq fun K3 hK3 => ?_
  refine good_draw 8 hmix (by kernel_rfl) rfl ?_
  refine qo_q rfl (q_fieldAddrP fO27_4 rfl rfl ?_)
  refine qo_q rfl (q_load tA2 rfl ?_)
  refine qo_q rfl (q_move (by conv => lhs; whnf) ?_)
  refine qo_q rfl (q_fieldAddrP fO27_4 rfl rfl ?_)
  refine qo_q rfl (q_load tA2 rfl ?_)
  refine qo_q rfl (q_callI rfl rfl (rfl) (D_impl_Substation_bestBack_1 s nd tr su re pr q _ hq hp (by omega) ht hsu hre) ?_)
  intro n4 hn4
  refine qo_q rfl (q_assign (by conv => lhs; whnf) ?_)
  refine qo_q rfl (q_assign (by conv => lhs; whnf) ?_)
  refine qo_nil ?_
  refine ev_nil (hK3 _ ?_); clear hK3
  refine good_seq fun K5 hK5 => ?_
  refine good_seq fun K6 hK6 => ?_
  refine good_region rfl ?_
  refine ev_q rfl (q_fieldAddrP fO27_4 rfl rfl ?_)
  refine ev_q rfl (q_load tA2 rfl ?_)
  refine ev_q rfl (q_int rfl rfl ?_)
  intro n7 hn7
  replace hn7 := in64 hn7 (by omega) (by omega)
  refine ev_q rfl (q_assign (by conv => lhs; whnf) ?_)
  refine ev_nil (hK6 _ ?_); clear hK6
  refine good_block ?_
  refine good_loop (α := Nat) (fun n => { env := upd (upd (upd (upd (upd (upd (upd ((fun _ => .junk)) 3 (.ptr 3 0)) 4 (.ptr 4 0)) 5 (.ptr 5 0)) 8 (.clo 85 [5, 4, 3])) 9 (.s (.int .i64 (bst (lesP tr su re pr q) re n)))) 10 (.s (.int .i64 (lesP tr su re pr q (bst (lesP tr su re pr q) re n))))) 11 (.s (.int .i64 (re + 1 + n))), H := upd (upd (upd ((fun _ => none)) 5 (some (.box 2 [.s (.int .i64 q)]))) 4 (some (.box 2 [.s (.int .i64 pr)]))) 3 (some (.box 27 [.s (.string s), .s (.int .i64 nd), .s (.int .i64 tr), .s (.int .i64 su), .s (.int .i64 re)])) }) (fun n => re + n ≤ pr) (fun n => (pr - re).toNat - n) 0 ?_ ?_ ?_
  · show re + ((0 : Nat) : Int) ≤ pr; omega
  · refine sub_weak ?_ ?_
    · exact weakH_box (boxEq (rfl)) rfl (weakH_box (boxEq (rfl)) rfl (weakH_box (boxEq (rfl)) rfl (weakH_none _)))
    · refine weakE_upd ?e11 ?r11 (weakE_upd ?e10 ?r10 (weakE_upd ?e9 ?r9 (weakE_upd ?e8 ?r8 (weakE_upd ?e5 ?r5 (weakE_upd ?e4 ?r4 (weakE_upd ?e3 ?r3 (weakE_junk _ _)))))))
      case e3 => first | rfl | exact fI (by omega) | (simp_all)
      case r3 => intro h hh; simp [refs] at hh; subst hh; rfl
      case e4 => first | rfl | exact fI (by omega) | (simp_all)
      case r4 => intro h hh; simp [refs] at hh; subst hh; rfl
      case e5 => first | rfl | exact fI (by omega) | (simp_all)
      case r5 => intro h hh; simp [refs] at hh; subst hh; rfl
      case e8 => first | rfl | exact fI (by omega) | (simp_all)
      case r8 => intro h hh; simp [refs] at hh; rcases hh with rfl | rfl | rfl <;> rfl
      case e9 => first | rfl | exact fI (by omega) | (first | rfl | exact fI (by rw [hst]; first | done | omega))
      case r9 => intro h hh; cases hh
      case e10 => first | rfl | exact fI (by omega) | (first | rfl | exact fI (by first | exact Eq.symm (by assumption) | (rw [hst]; first | done | (rw [show re + (n : Int) + 1 = re + 1 + n by omega]; omega))))
      case r10 => intro h hh; cases hh
      case e11 => first | rfl | exact fI (by omega) | (simp_all)
      case r11 => intro h hh; cases hh
  · rintro n hI
    refine good_seq fun K8 hK8 => ?_
    refine good_seq fun K9 hK9 => ?_
    refine good_region rfl ?_
    refine ev_q rfl (q_move (by conv => lhs; whnf) ?_)
    refine ev_q rfl (q_load tA2 rfl ?_)
    refine ev_q rfl (q_int rfl rfl ?_)
    intro b10 hb10; cases b10
    · replace hb10 := dF hb10
      refine ev_nil (hK9 _ ?_); clear hK9
      refine good_condF rfl ?_
      refine good_exit ?_
      repeat (first | refine thenQ_exit ?_ | refine blockQ_pass rfl ?_)
      refine blockQ_exit (hK5 _ ?_); clear hK5
      refine good_seq fun K11 hK11 => ?_
      refine good_region rfl ?_
      refine ev_q rfl (q_move (by conv => lhs; whnf) ?_)
      refine ev_q rfl (q_move (by conv => lhs; whnf) ?_)
      refine ev_q rfl (q_assign (by conv => lhs; whnf) ?_)
      refine ev_q rfl (q_assign (by conv => lhs; whnf) ?_)
      refine ev_nil (hK11 _ ?_); clear hK11
      refine good_ret ?_
      repeat (first | refine thenQ_ret ?_ | refine blockQ_ret ?_)
      refine ret_many rfl ?_
      refine res_tmp (by conv => lhs; whnf) rfl ?_
      refine res_tmp (by conv => lhs; whnf) rfl ?_
      refine res_nil ?_
      clear hK8
      have e : bB (lesP tr su re pr q) re pr = bst (lesP tr su re pr q) re n := (by unfold bB; rw [show (pr - re).toNat = n by omega])
      exact fTup1 (fI (by rw [e])) (fTup1 (fI (by rw [e])) rfl)
    · replace hb10 := dT hb10
      have hbs := bst_spec (f := lesP tr su re pr q) (lo := re) n
      have hbb := hbs.1
      refine ev_nil (hK9 _ ?_); clear hK9
      refine good_condT rfl ?_
      refine good_skip (hK8 _ ?_); clear hK8
      refine good_seq fun K12 hK12 => ?_
      refine good_block ?_
      refine good_seq fun K13 hK13 => ?_
      refine good_region rfl ?_
      refine ev_q rfl (q_move (by conv => lhs; whnf) ?_)
      refine ev_q rfl (q_move (by conv => lhs; whnf) ?_)
      refine ev_q rfl (q_callI rfl rfl (rfl) (D_impl_Substation_bestBack_1 s nd tr su re pr q _ hq hp (by omega) ht hsu hre) ?_)
      intro n14 hn14
      refine ev_q rfl (q_assign (by conv => lhs; whnf) ?_)
      refine ev_nil (hK13 _ ?_); clear hK13
      refine good_seq fun K15 hK15 => ?_
      refine good_region rfl ?_
      refine ev_q rfl (q_move (by conv => lhs; whnf) ?_)
      refine ev_q rfl (q_move (by conv => lhs; whnf) ?_)
      refine ev_q rfl (q_int rfl rfl ?_)
      intro b16 hb16; cases b16
      · replace hb16 := dF hb16
        have hst := bst_F (f := lesP tr su re pr q) (lo := re) (n := n) (by rw [show re + (n : Int) + 1 = re + 1 + n by omega]; omega)
        refine ev_nil (hK15 _ ?_); clear hK15
        refine good_condF rfl ?_
        refine good_skip (hK12 _ ?_); clear hK12
        refine good_region rfl ?_
        refine ev_q rfl (q_move (by conv => lhs; whnf) ?_)
        refine ev_q rfl (q_int rfl rfl ?_)
        intro n17 hn17
        replace hn17 := in64 hn17 (by omega) (by omega)
        refine ev_q rfl (q_assign (by conv => lhs; whnf) ?_)
        refine ev_nil ?_
        clear hK5
        refine ⟨n + 1, ?_, ?_, ?_⟩
        · show re + ((n + 1 : Nat) : Int) ≤ pr; omega
        · first | omega | (simp only []; omega) | (dsimp only; omega)
        · refine sub_weak ?_ ?_
          · exact weakH_box (boxEq (rfl)) rfl (weakH_box (boxEq (rfl)) rfl (weakH_box (boxEq (rfl)) rfl (weakH_none _)))
          · refine weakE_upd ?e11 ?r11 (weakE_upd ?e10 ?r10 (weakE_upd ?e9 ?r9 (weakE_upd ?e8 ?r8 (weakE_upd ?e5 ?r5 (weakE_upd ?e4 ?r4 (weakE_upd ?e3 ?r3 (weakE_junk _ _)))))))
            case e3 => first | rfl | exact fI (by omega) | (simp_all)
            case r3 => intro h hh; simp [refs] at hh; subst hh; rfl
            case e4 => first | rfl | exact fI (by omega) | (simp_all)
            case r4 => intro h hh; simp [refs] at hh; subst hh; rfl
            case e5 => first | rfl | exact fI (by omega) | (simp_all)
            case r5 => intro h hh; simp [refs] at hh; subst hh; rfl
            case e8 => first | rfl | exact fI (by omega) | (simp_all)
            case r8 => intro h hh; simp [refs] at hh; rcases hh with rfl | rfl | rfl <;> rfl
            case e9 => first | rfl | exact fI (by omega) | (first | rfl | exact fI (by rw [hst]; first | done | omega))
            case r9 => intro h hh; cases hh
            case e10 => first | rfl | exact fI (by omega) | (first | rfl | exact fI (by first | exact Eq.symm (by assumption) | (rw [hst]; first | done | (rw [show re + (n : Int) + 1 = re + 1 + n by omega]; omega))))
            case r10 => intro h hh; cases hh
            case e11 => first | rfl | exact fI (by omega) | (simp_all)
            case r11 => intro h hh; cases hh
      · replace hb16 := dT hb16
        have hst := bst_T (f := lesP tr su re pr q) (lo := re) (n := n) (by rw [show re + (n : Int) + 1 = re + 1 + n by omega]; omega)
        refine ev_nil (hK15 _ ?_); clear hK15
        refine good_condT rfl ?_
        refine good_region rfl ?_
        refine ev_q rfl (q_move (by conv => lhs; whnf) ?_)
        refine ev_q rfl (q_move (by conv => lhs; whnf) ?_)
        refine ev_q rfl (q_assign (by conv => lhs; whnf) ?_)
        refine ev_q rfl (q_assign (by conv => lhs; whnf) ?_)
        refine ev_nil (hK12 _ ?_); clear hK12
        refine good_region rfl ?_
        refine ev_q rfl (q_move (by conv => lhs; whnf) ?_)
        refine ev_q rfl (q_int rfl rfl ?_)
        intro n18 hn18
        replace hn18 := in64 hn18 (by omega) (by omega)
        refine ev_q rfl (q_assign (by conv => lhs; whnf) ?_)
        refine ev_nil ?_
        clear hK5
        refine ⟨n + 1, ?_, ?_, ?_⟩
        · show re + ((n + 1 : Nat) : Int) ≤ pr; omega
        · first | omega | (simp only []; omega) | (dsimp only; omega)
        · refine sub_weak ?_ ?_
          · exact weakH_box (boxEq (rfl)) rfl (weakH_box (boxEq (rfl)) rfl (weakH_box (boxEq (rfl)) rfl (weakH_none _)))
          · refine weakE_upd ?e11 ?r11 (weakE_upd ?e10 ?r10 (weakE_upd ?e9 ?r9 (weakE_upd ?e8 ?r8 (weakE_upd ?e5 ?r5 (weakE_upd ?e4 ?r4 (weakE_upd ?e3 ?r3 (weakE_junk _ _)))))))
            case e3 => first | rfl | exact fI (by omega) | (simp_all)
            case r3 => intro h hh; simp [refs] at hh; subst hh; rfl
            case e4 => first | rfl | exact fI (by omega) | (simp_all)
            case r4 => intro h hh; simp [refs] at hh; subst hh; rfl
            case e5 => first | rfl | exact fI (by omega) | (simp_all)
            case r5 => intro h hh; simp [refs] at hh; subst hh; rfl
            case e8 => first | rfl | exact fI (by omega) | (simp_all)
            case r8 => intro h hh; simp [refs] at hh; rcases hh with rfl | rfl | rfl <;> rfl
            case e9 => first | rfl | exact fI (by omega) | (first | rfl | exact fI (by rw [hst]; first | done | omega))
            case r9 => intro h hh; cases hh
            case e10 => first | rfl | exact fI (by omega) | (first | rfl | exact fI (by first | exact Eq.symm (by assumption) | (rw [hst]; first | done | (rw [show re + (n : Int) + 1 = re + 1 + n by omega]; omega))))
            case r10 => intro h hh; cases hh
            case e11 => first | rfl | exact fI (by omega) | (simp_all)
            case r11 => intro h hh; cases hh

-- (impl.Substation).power
set_option maxRecDepth 20000 in
set_option maxHeartbeats 2000000 in
theorem D_impl_Substation_power (s : ByteArray) (nd tr su re : Int) (pr q : Int) (hq : 0 ≤ q ∧ q ≤ 100000) (hp : 0 ≤ pr ∧ pr ≤ 18000) (ht : 0 ≤ tr ∧ tr ≤ 100000) (hsu : 0 ≤ su ∧ su ≤ 18000) (hre : 0 ≤ re ∧ re ≤ 18000) : Den Try.prog 59 [.agg [.s (.string s), .s (.int .i64 nd), .s (.int .i64 tr), .s (.int .i64 su), .s (.int .i64 re)], .s (.int .i64 pr), .s (.int .i64 q)] (.s (.int .i64 (pwP tr su re pr q))) := by
  refine den_of_good Try.func59 (by decide) rfl (Nat.le_of_ble_eq_true rfl) (Nat.le_of_ble_eq_true rfl) ?_
  refine good_seq fun K1 hK1 => ?_
  refine good_region rfl ?_
  refine ev_k rfl (k_box (by conv => lhs; whnf) rfl rfl rfl ?_)
  refine ev_q rfl (q_assign (by conv => lhs; whnf) ?_)
  refine ev_nil (hK1 _ ?_); clear hK1
  refine good_seq fun K2 hK2 => ?_
  refine good_seq fun K3 hK3 => ?_
  refine good_region rfl ?_
  refine ev_q rfl (q_move (by conv => lhs; whnf) ?_)
  refine ev_q rfl (q_fieldAddrP fO27_4 rfl rfl ?_)
  refine ev_q rfl (q_load tA2 rfl ?_)
  refine ev_q rfl (q_int rfl rfl ?_)
  intro b4 hb4; cases b4
  · replace hb4 := dF hb4
    refine ev_nil (hK3 _ ?_); clear hK3
    refine good_condF rfl ?_
    refine good_skip (hK2 _ ?_); clear hK2
    refine good_seq fun K5 hK5 => ?_
    refine good_region rfl ?_
    refine ev_q rfl (q_loadA tA27 rfl rfl rfl ?_)
    refine ev_q rfl (q_move (by conv => lhs; whnf) ?_)
    refine ev_q rfl (q_move (by conv => lhs; whnf) ?_)
    refine ev_q rfl (q_call rfl rfl (rfl) (D_impl_Substation_bestBack s nd tr su re pr q hq hp ht hsu hre (by omega)) rfl ?_)
    refine ev_q rfl (q_move (by conv => lhs; whnf) ?_)
    refine ev_q rfl (q_extractI rfl rfl ?_)
    intro n6 hn6
    refine ev_q rfl (q_extractI rfl rfl ?_)
    intro n7 hn7
    refine ev_q rfl (q_assign (by conv => lhs; whnf) ?_)
    refine ev_q rfl (q_assign (by conv => lhs; whnf) ?_)
    refine ev_nil (hK5 _ ?_); clear hK5
    refine good_seq fun K8 hK8 => ?_
    refine good_region rfl ?_
    refine ev_q rfl (q_move (by conv => lhs; whnf) ?_)
    refine ev_q rfl (q_max rfl rfl ?_)
    intro n9 hn9; simp only [mxI, mnI] at hn9
    refine ev_q rfl (q_assign (by conv => lhs; whnf) ?_)
    refine ev_nil (hK8 _ ?_); clear hK8
    refine good_ret ?_
    repeat (first | refine thenQ_ret ?_ | refine blockQ_ret ?_)
    refine ret_tmp (st := _) rfl (by conv => lhs; whnf) rfl ?_
    first | exact fI (by unfold pwP; rw [if_pos (by omega)]) | exact fI (by unfold pwP mx0; rw [if_neg (by omega)]; grind)
  · replace hb4 := dT hb4
    refine ev_nil (hK3 _ ?_); clear hK3
    refine good_condT rfl ?_
    refine good_seq fun K10 hK10 => ?_
    refine good_region rfl ?_
    refine ev_q rfl (q_assign (by conv => lhs; whnf) ?_)
    refine ev_nil (hK10 _ ?_); clear hK10
    refine good_ret ?_
    repeat (first | refine thenQ_ret ?_ | refine blockQ_ret ?_)
    refine ret_tmp (st := _) rfl (by conv => lhs; whnf) rfl ?_
    clear hK2
    first | exact fI (by unfold pwP; rw [if_pos (by omega)]) | exact fI (by unfold pwP mx0; rw [if_neg (by omega)]; grind)

-- spec.l02Flow
set_option maxRecDepth 20000 in
set_option maxHeartbeats 2000000 in
theorem D_spec_l02Flow (a : Int)  : Den Try.prog 55 [.s (.int .i64 a)] (.s (.bool (decide (0 ≤ a ∧ a ≤ 100000)))) := by
  refine den_of_good Try.func55 (by decide) rfl (Nat.le_of_ble_eq_true rfl) (Nat.le_of_ble_eq_true rfl) ?_
  refine good_seq fun K1 hK1 => ?_
  refine good_region rfl ?_
  refine ev_q rfl (q_assign (by conv => lhs; whnf) ?_)
  refine ev_nil (hK1 _ ?_); clear hK1
  refine good_seq fun K2 hK2 => ?_
  refine good_region rfl ?_
  refine ev_q rfl (q_move (by conv => lhs; whnf) ?_)
  refine ev_q rfl (q_callB rfl rfl (rfl) (D_spec_l00In ..) ?_)
  intro b3 hb3; cases b3
  · first | replace hb3 := dF hb3 | skip
    refine ev_q rfl (q_assign (by conv => lhs; whnf) ?_)
    refine ev_nil (hK2 _ ?_); clear hK2
    refine good_ret ?_
    repeat (first | refine thenQ_ret ?_ | refine blockQ_ret ?_)
    refine ret_tmp (st := _) rfl (by conv => lhs; whnf) rfl ?_
    first | rfl | exact fT (by first | omega | grind) | exact fF (by first | omega | grind) | exact fT' (by first | omega | grind) | (exfalso; first | omega | grind)
  · first | replace hb3 := dT hb3 | skip
    refine ev_q rfl (q_assign (by conv => lhs; whnf) ?_)
    refine ev_nil (hK2 _ ?_); clear hK2
    refine good_ret ?_
    repeat (first | refine thenQ_ret ?_ | refine blockQ_ret ?_)
    refine ret_tmp (st := _) rfl (by conv => lhs; whnf) rfl ?_
    first | rfl | exact fT (by first | omega | grind) | exact fF (by first | omega | grind) | exact fT' (by first | omega | grind) | (exfalso; first | omega | grind)

-- spec.l12Given
set_option maxRecDepth 20000 in
set_option maxHeartbeats 2000000 in
theorem D_spec_l12Given (s : ByteArray) (nd tr su re : Int) (pr q b : Int) (hq : 0 ≤ q ∧ q ≤ 100000) (hp : 0 ≤ pr ∧ pr ≤ 18000) (hb : 0 ≤ b ∧ b ≤ 18001) (ht : 0 ≤ tr ∧ tr ≤ 100000) (hsu : 0 ≤ su ∧ su ≤ 18000) (hre : 0 ≤ re ∧ re ≤ 18000) : Den Try.prog 83 [.rp [.s (.string s), .s (.int .i64 nd), .s (.int .i64 tr), .s (.int .i64 su), .s (.int .i64 re)], .s (.int .i64 pr), .s (.int .i64 q), .s (.int .i64 b)] (.s (.int .i64 (mx0 (lesP tr su re pr q b)))) := by
  have hg := gB hq hp hb
  have hc := cB (tr := tr) (su := su) (re := re) ht hp hb hsu hre
  refine den_of_good Try.func83 (by decide) rfl (Nat.le_of_ble_eq_true rfl) (Nat.le_of_ble_eq_true rfl) ?_
  refine good_seq fun K1 hK1 => ?_
  refine good_region rfl ?_
  refine ev_q rfl (q_assign (by conv => lhs; whnf) ?_)
  refine ev_nil (hK1 _ ?_); clear hK1
  refine good_seq fun K2 hK2 => ?_
  refine good_region rfl ?_
  refine ev_q rfl (q_move (by conv => lhs; whnf) ?_)
  refine ev_q rfl (q_move (by conv => lhs; whnf) ?_)
  refine ev_q rfl (q_move (by conv => lhs; whnf) ?_)
  refine ev_q rfl (q_callI rfl rfl (rfl) (D_spec_l02Power _ _ _ hq hp hb) ?_)
  intro n3 hn3
  refine ev_q rfl (q_assign (by conv => lhs; whnf) ?_)
  refine ev_nil (hK2 _ ?_); clear hK2
  refine good_seq fun K4 hK4 => ?_
  refine good_draw 11 hmix (by kernel_rfl) rfl ?_
  refine qo_q rfl (q_move (by conv => lhs; whnf) ?_)
  refine qo_q rfl (q_nilCheck (by conv => lhs; whnf) rfl ?_)
  refine qo_q rfl (q_fieldAddr fO27_2 rfl rfl ?_)
  refine qo_q rfl (q_load tA2 rfl ?_)
  refine qo_q rfl (q_move (by conv => lhs; whnf) ?_)
  refine qo_q rfl (q_move (by conv => lhs; whnf) ?_)
  refine qo_q rfl (q_move (by conv => lhs; whnf) ?_)
  refine qo_q rfl (q_callI rfl rfl (rfl) (D_spec_l12Mean _ _ _ _ _ _ _ (by omega) (by omega) (by omega) (by omega)) ?_)
  intro n5 hn5
  replace hn5 : n5 = mdP su re pr b := hn5
  refine qo_q rfl (q_int rfl rfl ?_)
  intro n6 hn6
  rw [hn5] at hn6
  replace hn6 := in64 hn6 (by omega) (by omega)
  refine qo_q rfl (q_callI rfl rfl (rfl) (D_spec_l01Div _ _ (by omega) (by omega)) ?_)
  intro n7 hn7
  rw [hn6] at hn7
  replace hn7 : n7 = cP tr su re pr b := hn7
  refine qo_q rfl (q_assign (by conv => lhs; whnf) ?_)
  refine qo_nil ?_
  refine ev_nil (hK4 _ ?_); clear hK4
  refine good_seq fun K8 hK8 => ?_
  refine good_region rfl ?_
  refine ev_q rfl (q_move (by conv => lhs; whnf) ?_)
  refine ev_q rfl (q_move (by conv => lhs; whnf) ?_)
  refine ev_q rfl (q_callI rfl rfl (rfl) (D_spec_l00Min ..) ?_)
  intro n9 hn9
  refine ev_q rfl (q_callI rfl rfl (rfl) (D_spec_l00Max ..) ?_)
  intro n10 hn10
  refine ev_q rfl (q_assign (by conv => lhs; whnf) ?_)
  refine ev_nil (hK8 _ ?_); clear hK8
  refine good_ret ?_
  repeat (first | refine thenQ_ret ?_ | refine blockQ_ret ?_)
  refine ret_tmp (st := _) rfl (by conv => lhs; whnf) rfl ?_
  exact fI (by unfold lesP mi mx0; grind)

end Go.Proofs.Ythhajcpgbcpbmaa.DFnExactWeakSubstations
