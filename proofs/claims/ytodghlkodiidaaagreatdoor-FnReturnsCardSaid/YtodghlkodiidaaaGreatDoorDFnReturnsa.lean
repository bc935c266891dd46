/- Walks through the functions that FnReturns reaches: what each answers. -/
import Derived.Test.YtodghlkodiidaaaGreatDoorEvO
import Derived.Test.YtodghlkodiidaaaGreatDoorProg
import Derived.Test.YtodghlkodiidaaaGreatDoorEvZ
import Derived.Test.YtodghlkodiidaaaGreatDoorPlain
set_option linter.unusedVariables false
set_option linter.unusedSimpArgs false
namespace Go.Proofs.YtodghlkodiidaaaGreatDoor.DFnReturns
open Go Go.RowKit Go.Proofs Go.Proofs.YtodghlkodiidaaaGreatDoor Go.Proofs.YtodghlkodiidaaaGreatDoor.Ev
def small (u : UInt8) : Bool := decide (97 ≤ u.toNat ∧ u.toNat ≤ 122)
def digit (u : UInt8) : Bool := decide (48 ≤ u.toNat ∧ u.toNat ≤ 57)
def nbc (u : UInt8) : Bool := small u || digit u
def allNb (s : ByteArray) : Bool := s.data.all nbc
def head1 (s : ByteArray) : Bool := match s[0]? with
  | some u => small u
  | none => false
def isName (s : ByteArray) : Bool := decide (1 ≤ s.size) && decide (s.size ≤ 10) && head1 s && allNb s
theorem getB {s : ByteArray} {i : Nat} (h : i < s.size) : ∃ u, s[i]? = some u := ⟨s[i], by simp [h]⟩
theorem allNb_T {s : ByteArray} (h : ∀ j u, j < s.size → s[j]? = some u → nbc u = true) : allNb s = true := by
  unfold allNb
  rw [Array.all_eq_true]
  intro i hi
  exact h i _ hi (getElem?_pos s i hi)
theorem allNb_F {s : ByteArray} {j : Nat} {u : UInt8} (h : s[j]? = some u) (hn : nbc u = false) : allNb s = false := by
  have hj : j < s.size := by
    apply Classical.byContradiction; intro hc
    rw [getElem?_neg s j hc] at h; cases h
  unfold allNb
  rw [Array.all_eq_false]
  refine ⟨j, hj, ?_⟩
  rw [getElem?_pos s j hj] at h
  cases h
  intro hc
  have hc2 : nbc s[j] = true := hc
  rw [hn] at hc2; cases hc2
theorem isName_long {s : ByteArray} (h : ¬ s.size ≤ 10) : isName s = false := by simp [isName, h]
theorem isName_none {s : ByteArray} (h : s.size = 0) : isName s = false := by simp [isName, h]
theorem isName_head {s : ByteArray} {u : UInt8} (h : s[0]? = some u) (hn : small u = false) : isName s = false := by simp [isName, head1, h, hn]
theorem isName_eq {s : ByteArray} {u : UInt8} (h1 : 1 ≤ s.size) (h2 : s.size ≤ 10) (h : s[0]? = some u) (hn : small u = true) : isName s = allNb s := by simp [isName, head1, h, hn, h1, h2]
theorem fB {b c : Bool} (h : b = c) : AV.s (.bool b) = .s (.bool c) := by rw [h]
def ci (n : Int) : AV := .s (.int .i64 n)
def within (xs : List Int) (lo hi : Int) : Prop := ∀ (j : Nat) (q : Int), xs[j]? = some q → lo ≤ q ∧ q ≤ hi
noncomputable instance (xs : List Int) (lo hi : Int) : Decidable (within xs lo hi) := Classical.propDecidable _
theorem all_extI {α : Type} {xs : List α} {i : Nat} {Q : Nat → α → Prop} {p : α} (hJ : ∀ j q, j < i → xs[j]? = some q → Q j q) (hp : xs[i]? = some p) (h : Q i p) : ∀ j q, j < i + 1 → xs[j]? = some q → Q j q := by
  intro j q hj hq
  by_cases e : j = i
  · subst e; rw [hp] at hq; cases hq; exact h
  · exact hJ j q (by omega) hq
theorem all_finI {α : Type} {xs : List α} {i : Nat} {Q : Nat → α → Prop} (hJ : ∀ j q, j < i → xs[j]? = some q → Q j q) (hi : xs.length ≤ i) : ∀ j q, xs[j]? = some q → Q j q := by
  intro j q hq
  exact hJ j q (by have := (List.getElem?_eq_some_iff.1 hq).1; omega) hq
def fiM {α : Type} (f : α → Bool) (xs : List α) : Int := match xs.findIdx? f with
  | some j => (j : Int)
  | none => -1
theorem fi_some {α : Type} {xs : List α} {p : α → Prop} [DecidablePred p] {i : Nat} {q : α} (hq : xs[i]? = some q) (hJ : ∀ (j : Nat) (q : α), j < i → xs[j]? = some q → ¬ p q) (h : p q) : xs.findIdx? (fun x => decide (p x)) = some i := by
  rw [List.findIdx?_eq_some_iff_getElem]
  obtain ⟨hl, he⟩ := List.getElem?_eq_some_iff.1 hq
  refine ⟨hl, by simpa [he] using h, fun j hj => ?_⟩
  simpa using hJ j _ hj (List.getElem?_eq_getElem (by omega))
theorem fi_none {α : Type} {xs : List α} {p : α → Prop} [DecidablePred p] (hJ : ∀ (j : Nat) (q : α), xs[j]? = some q → ¬ p q) : xs.findIdx? (fun x => decide (p x)) = none := by
  rw [List.findIdx?_eq_none_iff]
  intro x hx
  obtain ⟨j, hj⟩ := List.getElem?_of_mem hx
  simpa using hJ j x hj
theorem fi_any {α : Type} {xs : List α} {p : α → Prop} [DecidablePred p] : (0 : Int) ≤ fiM (fun x => decide (p x)) xs ↔ ∃ x ∈ xs, p x := by
  unfold fiM
  cases h : xs.findIdx? (fun x => decide (p x)) with
  | none =>
    rw [List.findIdx?_eq_none_iff] at h
    simp at h ⊢
    exact h
  | some j =>
    rw [List.findIdx?_eq_some_iff_getElem] at h
    obtain ⟨hl, h1, _⟩ := h
    simp only [Int.natCast_nonneg, true_iff]
    exact ⟨_, List.getElem_mem hl, by simpa using h1⟩
theorem within_any {xs : List Int} {lo hi : Int} : within xs lo hi ↔ ¬ ∃ x ∈ xs, ¬ (lo ≤ x ∧ x ≤ hi) := by
  constructor
  · intro h ⟨x, hx, hn⟩
    obtain ⟨j, hj⟩ := List.getElem?_of_mem hx
    exact hn (h j x hj)
  · intro h j q hq
    apply Classical.byContradiction
    intro hn
    exact h ⟨q, List.mem_of_getElem? hq, hn⟩
def stp (p : Int × Int) : AV := .agg [.s (.int .i64 p.1), .s (.int .i64 p.2)]
def zst : AV := .agg [.s (.int .i64 0), .s (.int .i64 0)]
def wv (xs : List (Int × Int)) : AV := .lst 2 (xs.map stp)
def okAt (xs : List (Int × Int)) (j : Nat) (p : Int × Int) : Prop := (0 ≤ p.1 ∧ p.1 ≤ 1000000) ∧ (-5000 ≤ p.2 ∧ p.2 ≤ 20000) ∧ (j = 0 → p.1 = 0) ∧ ∀ q, 0 < j → xs[j - 1]? = some q → q.1 < p.1
def waveOk (xs : List (Int × Int)) : Prop := (1 ≤ xs.length ∧ xs.length ≤ 24) ∧ ∀ j p, xs[j]? = some p → okAt xs j p
noncomputable instance (xs : List (Int × Int)) : Decidable (waveOk xs) := Classical.propDecidable _
theorem wave_no {xs : List (Int × Int)} {i : Nat} {p : Int × Int} (h : xs[i]? = some p) (hn : ¬ okAt xs i p) : ¬ waveOk xs := fun ⟨_, h2⟩ => hn (h2 i p h)
theorem wave_iff {xs : List (Int × Int)} (h : ∀ j p, xs[j]? = some p → okAt xs j p) : (1 ≤ (xs.length : Int) ∧ (xs.length : Int) ≤ 24) ↔ waveOk xs := ⟨fun h2 => ⟨by omega, h⟩, fun ⟨h2, _⟩ => by omega⟩
theorem all_ext {xs : List (Int × Int)} {i : Nat} {Q : Nat → Int × Int → Prop} {p : Int × Int} (hJ : ∀ j q, j < i → xs[j]? = some q → Q j q) (hp : xs[i]? = some p) (h : Q i p) : ∀ j q, j < i + 1 → xs[j]? = some q → Q j q := by
  intro j q hj hq
  by_cases e : j = i
  · subst e; rw [hp] at hq; cases hq; exact h
  · exact hJ j q (by omega) hq
theorem all_fin {xs : List (Int × Int)} {i : Nat} {Q : Nat → Int × Int → Prop} (hJ : ∀ j q, j < i → xs[j]? = some q → Q j q) (hi : xs.length ≤ i) : ∀ j q, xs[j]? = some q → Q j q := by
  intro j q hq
  exact hJ j q (by have := (List.getElem?_eq_some_iff.1 hq).1; omega) hq
def tot {α : Type} (f : α → Nat) (xs : List α) (i : Nat) : Nat := ((xs.take i).map f).sum
theorem tot_zero {α : Type} (f : α → Nat) (xs : List α) : tot f xs 0 = 0 := by simp [tot]
theorem tot_step {α : Type} {f : α → Nat} {xs : List α} {i : Nat} {p : α} (h : xs[i]? = some p) : tot f xs (i + 1) = tot f xs i + f p := by
  unfold tot
  rw [List.take_add_one, h]; simp
theorem tot_le {α : Type} {f : α → Nat} {xs : List α} {i : Nat} : tot f xs i ≤ tot f xs xs.length := by
  unfold tot
  rw [List.take_length]
  have e : (xs.map f).sum = ((xs.take i).map f).sum + ((xs.drop i).map f).sum := by rw [← List.sum_append, ← List.map_append, List.take_append_drop]
  omega
theorem tot_end {α : Type} {f : α → Nat} {xs : List α} {i : Nat} (h : xs.length ≤ i) : tot f xs i = tot f xs xs.length := by
  unfold tot; rw [List.take_of_length_le h, List.take_of_length_le (Nat.le_refl _)]
theorem bytesLess_tri : ∀ (x y : List UInt8), Op.bytesLess x y = false ↔ (Op.bytesLess y x = true ∨ y = x)
  | [], [] => by simp [Op.bytesLess]
  | [], _ :: _ => by simp [Op.bytesLess]
  | _ :: _, [] => by simp [Op.bytesLess]
  | a :: x, b :: y => by
    have ih := bytesLess_tri x y
    have e1 : (a = b) ↔ a.toNat = b.toNat := ⟨fun h => by rw [h], fun h => UInt8.toNat_inj.1 h⟩
    have e2 : a < b ↔ a.toNat < b.toNat := UInt8.lt_iff_toNat_lt
    have e3 : b < a ↔ b.toNat < a.toNat := UInt8.lt_iff_toNat_lt
    by_cases h : a = b
    · subst h; simp [Op.bytesLess, ih]
    · have l : Op.bytesLess (a :: x) (b :: y) = decide (a < b) := by simp [Op.bytesLess, h]
      have r : Op.bytesLess (b :: y) (a :: x) = decide (b < a) := by simp [Op.bytesLess, Ne.symm h]
      have hn : ¬ a.toNat = b.toNat := fun e => h (e1.2 e)
      have hc : ¬ (b :: y = a :: x) := fun e => h (List.cons.inj e).1.symm
      rw [l, r]
      simp only [decide_eq_false_iff_not, decide_eq_true_eq, e2, e3, hc, or_false]
      omega
def idLt (x y : ByteArray) : Prop := Op.bytesLess x.toList y.toList = true
structure Sb where
  id : ByteArray
  nd : Int
  tr : Int
  su : Int
  re : Int
def sbA (x : Sb) : AV := .agg [.s (.string x.id), .s (.int .i64 x.nd), .s (.int .i64 x.tr), .s (.int .i64 x.su), .s (.int .i64 x.re)]
def sbZ : AV := .agg [.s (.string ⟨#[]⟩), .s (.int .i64 0), .s (.int .i64 0), .s (.int .i64 0), .s (.int .i64 0)]
def sbOk (x : Sb) : Prop := isName x.id = true ∧ (0 ≤ x.nd ∧ x.nd ≤ 15) ∧ (1 ≤ x.tr ∧ x.tr ≤ 100000) ∧ (0 ≤ x.su ∧ x.su ≤ 18000) ∧ (0 ≤ x.re ∧ x.re ≤ x.su - 1)
def sbAt (xs : List Sb) (j : Nat) (x : Sb) : Prop := sbOk x ∧ ∀ y, 0 < j → xs[j - 1]? = some y → idLt y.id x.id
def subsOk (xs : List Sb) : Prop := xs.length ≤ 12 ∧ ∀ (j : Nat) (x : Sb), xs[j]? = some x → sbAt xs j x
noncomputable instance (xs : List Sb) : Decidable (subsOk xs) := Classical.propDecidable _
theorem subs_no {xs : List Sb} {i : Nat} {p : Sb} (h : xs[i]? = some p) (hn : ¬ sbAt xs i p) : ¬ subsOk xs := fun ⟨_, h2⟩ => hn (h2 i p h)
theorem all_extS {α : Type} {xs : List α} {i : Nat} {Q : Nat → α → Prop} {p : α} (hJ : ∀ j q, j < i → xs[j]? = some q → Q j q) (hp : xs[i]? = some p) (h : Q i p) : ∀ j q, j < i + 1 → xs[j]? = some q → Q j q := by
  intro j q hj hq
  by_cases e : j = i
  · subst e; rw [hp] at hq; cases hq; exact h
  · exact hJ j q (by omega) hq
theorem all_finS {α : Type} {xs : List α} {i : Nat} {Q : Nat → α → Prop} (hJ : ∀ j q, j < i → xs[j]? = some q → Q j q) (hi : xs.length ≤ i) : ∀ j q, xs[j]? = some q → Q j q := by
  intro j q hq
  exact hJ j q (by have := (List.getElem?_eq_some_iff.1 hq).1; omega) hq
theorem lt_ge {x y : ByteArray} (h : false = !Op.bytesLess x.toList y.toList) : idLt x y := by simpa [idLt] using h.symm
theorem nlt_ge {x y : ByteArray} (h : true = !Op.bytesLess x.toList y.toList) : ¬ idLt x y := by simp [idLt]; simpa using h.symm
theorem lt_le {x y : ByteArray} (h : false = (Op.bytesLess y.toList x.toList || y.toList == x.toList)) : idLt x y := by
  unfold idLt
  cases e : Op.bytesLess x.toList y.toList with
  | true => rfl
  | false =>
    have := (bytesLess_tri _ _).1 e
    rcases this with h1 | h1
    · rw [h1] at h; simp at h
    · rw [h1] at h; simp at h
theorem nlt_le {x y : ByteArray} (h : true = (Op.bytesLess y.toList x.toList || y.toList == x.toList)) : ¬ idLt x y := by
  unfold idLt
  intro e
  have : Op.bytesLess x.toList y.toList = false := (bytesLess_tri _ _).2 (by have h2 := h.symm; simp only [Bool.or_eq_true, beq_iff_eq] at h2; exact h2)
  rw [this] at e; cases e
theorem srN_ex (p : Int → Prop) : ∀ n : Nat, ∃ k : Nat, k ≤ n ∧ (∀ j : Nat, j < k → ¬ p j) ∧ (k < n → p k)
  | 0 => ⟨0, Nat.le_refl _, fun j h => absurd h (Nat.not_lt_zero _), fun h => absurd h (Nat.not_lt_zero _)⟩
  | n + 1 => by
    obtain ⟨k, h1, h2, h3⟩ := srN_ex p n
    by_cases e : k = n
    · subst e
      by_cases hp : p k
      · exact ⟨k, by omega, h2, fun _ => hp⟩
      · refine ⟨k + 1, Nat.le_refl _, fun j hj => ?_, fun h => by omega⟩
        by_cases ej : j = k
        · subst ej; exact hp
        · exact h2 j (by omega)
    · exact ⟨k, by omega, h2, fun _ => h3 (by omega)⟩
noncomputable def srN (p : Int → Prop) [DecidablePred p] (n : Nat) : Nat := Classical.choose (srN_ex p n)
theorem srN_spec (p : Int → Prop) [DecidablePred p] (n : Nat) : srN p n ≤ n ∧ (∀ j : Nat, j < srN p n → ¬ p j) ∧ (srN p n < n → p (srN p n)) := Classical.choose_spec (srN_ex p n)
theorem srN_uniq {p : Int → Prop} [DecidablePred p] {n k : Nat} (h1 : k ≤ n) (h2 : ∀ j : Nat, j < k → ¬ p j) (h3 : k < n → p k) : srN p n = k := by
  obtain ⟨g1, g2, g3⟩ := srN_spec p n
  rcases Nat.lt_trichotomy (srN p n) k with h | h | h
  · exact absurd (g3 (by omega)) (h2 _ h)
  · exact h
  · exact absurd (h3 (by omega)) (g2 _ h)
theorem shr1 {x n : Int} (h : n = x.fdiv (2 ^ (min (1 : Int).toNat IntKind.u64.bits))) (h0 : 0 ≤ x) : n = x / 2 := by
  rw [h, Int.fdiv_eq_ediv_of_nonneg _ (by decide)]; rfl
theorem wrapU {m n : Int} (h : n = IntKind.u64.wrap m) (h0 : 0 ≤ m) (h1 : m ≤ 9223372036854775807) : n = m := by
  have e : IntKind.u64.wrap m = m % 18446744073709551616 := by simp [IntKind.wrap, IntKind.bits, IntKind.signed]
  rw [e] at h; omega
noncomputable def lst (p : Int → Prop) [DecidablePred p] (lo hi : Int) : Int := lo + srN (fun i => p (lo + i)) (hi - lo + 1).toNat
theorem lst_spec (p : Int → Prop) [DecidablePred p] {lo hi : Int} (h : lo ≤ hi + 1) : lo ≤ lst p lo hi ∧ lst p lo hi ≤ hi + 1 ∧ (∀ a, lo ≤ a → a < lst p lo hi → ¬ p a) ∧ (lst p lo hi ≤ hi → p (lst p lo hi)) := by
  obtain ⟨h1, h2, h3⟩ := srN_spec (fun i => p (lo + i)) (hi - lo + 1).toNat
  refine ⟨by unfold lst; omega, by unfold lst; omega, fun a ha hl => ?_, fun hl => h3 (by unfold lst at hl; omega)⟩
  have := h2 (a - lo).toNat (by unfold lst at hl; omega)
  rwa [show lo + ((a - lo).toNat : Int) = a by omega] at this
theorem lst_uniq {p : Int → Prop} [DecidablePred p] {lo hi k : Int} (h0 : lo ≤ k) (h1 : k ≤ hi + 1) (h2 : ∀ a, lo ≤ a → a < k → ¬ p a) (h3 : k ≤ hi → p k) : lst p lo hi = k := by
  obtain ⟨g0, g1, g2, g3⟩ := lst_spec p (lo := lo) (hi := hi) (by omega)
  by_cases e : lst p lo hi < k
  · exact absurd (g3 (by omega)) (h2 _ g0 e)
  · by_cases e2 : k < lst p lo hi
    · exact absurd (h3 (by omega)) (g2 _ h0 e2)
    · omega
theorem dr_mono' {a a' b : Int} (hb : 0 < b) (h : a ≤ a') : dr a b ≤ dr a' b := by
  have e : ∀ x, dr x b = if x < 0 then -((b - 2 * x) / (2 * b)) else (2 * x + b) / (2 * b) := fun x => by unfold dr drP; rw [if_neg (by omega)]
  rw [e, e]
  split
  · split
    · have := Int.ediv_le_ediv (a := b - 2 * a') (b := b - 2 * a) (c := 2 * b) (by omega) (by omega)
      omega
    · have h1 := Int.ediv_nonneg (a := b - 2 * a) (b := 2 * b) (by omega) (by omega)
      have h2 := Int.ediv_nonneg (a := 2 * a' + b) (b := 2 * b) (by omega) (by omega)
      omega
  · rw [if_neg (by omega)]
    exact Int.ediv_le_ediv (by omega) (by omega)
theorem dr_nonneg {a b : Int} (hb : 0 < b) (ha : 0 ≤ a) : 0 ≤ dr a b := by
  unfold dr drP; rw [if_neg (by omega), if_neg (by omega)]
  exact Int.ediv_nonneg (by omega) (by omega)
theorem dr_nonpos {a b : Int} (hb : 0 < b) (ha : a ≤ 0) : dr a b ≤ 0 := by
  have := dr_mono' hb ha
  have h0 : dr 0 b = 0 := by
    unfold dr drP; rw [if_neg (by omega), if_neg (by omega)]
    exact Int.ediv_eq_zero_of_lt (by omega) (by omega)
  omega
def gP (q pr b : Int) : Int := dr (q * 4186 * (pr - b)) 100000
def mdP (su re pr b : Int) : Int := dr (pr - su + b - re) 2
def cP (tr su re pr b : Int) : Int := dr (tr * mdP su re pr b) 100
def mi (a b : Int) : Int := if a < b then a else b
def mx0 (a : Int) : Int := if 0 > a then 0 else a
def lesP (tr su re pr q b : Int) : Int := mi (gP q pr b) (cP tr su re pr b)
theorem gP_anti {q pr a b : Int} (hq : 0 ≤ q) (h : a ≤ b) : gP q pr b ≤ gP q pr a :=
  dr_mono' (by omega) (Int.mul_le_mul_of_nonneg_left (by omega) (by omega))
theorem gP_nn {q pr b : Int} (hq : 0 ≤ q) (h : b ≤ pr) : 0 ≤ gP q pr b := dr_nonneg (by omega) (Int.mul_nonneg (by omega) (by omega))
theorem mdP_mono {su re pr a b : Int} (h : a ≤ b) : mdP su re pr a ≤ mdP su re pr b := dr_mono' (by omega) (by omega)
theorem cP_mono {tr su re pr a b : Int} (ht : 0 ≤ tr) (h : a ≤ b) : cP tr su re pr a ≤ cP tr su re pr b :=
  dr_mono' (by omega) (Int.mul_le_mul_of_nonneg_left (mdP_mono h) ht)
/-- The greatest place of the greatest value. -/
def IsBest (f : Int → Int) (lo hi b : Int) : Prop := (lo ≤ b ∧ b ≤ hi) ∧ (∀ a, lo ≤ a → a ≤ hi → f a ≤ f b) ∧ (∀ a, b < a → a ≤ hi → f a < f b)
theorem IsBest.uniq {f : Int → Int} {lo hi b c : Int} (h : IsBest f lo hi b) (k : IsBest f lo hi c) : b = c := by
  obtain ⟨h1, h2, h3⟩ := h
  obtain ⟨k1, k2, k3⟩ := k
  rcases Int.lt_trichotomy b c with e | e | e
  · have := h3 c e k1.2; have := k2 b h1.1 h1.2; omega
  · exact e
  · have := k3 b e h1.2; have := h2 c k1.1 k1.2; omega
def bst (f : Int → Int) (lo : Int) : Nat → Int
  | 0 => lo
  | n + 1 => if f (lo + n + 1) ≥ f (bst f lo n) then lo + n + 1 else bst f lo n
theorem bst_T {f : Int → Int} {lo : Int} {n : Nat} (h : f (lo + n + 1) ≥ f (bst f lo n)) : bst f lo (n + 1) = lo + n + 1 := if_pos h
theorem bst_F {f : Int → Int} {lo : Int} {n : Nat} (h : ¬ f (lo + n + 1) ≥ f (bst f lo n)) : bst f lo (n + 1) = bst f lo n := if_neg h
theorem bst_spec {f : Int → Int} {lo : Int} : ∀ n : Nat, IsBest f lo (lo + n) (bst f lo n)
  | 0 => ⟨by simp [bst], fun a h1 h2 => by have : a = lo := by omega
                                           subst this; exact Int.le_refl _, fun a h1 h2 => by simp [bst] at h1; omega⟩
  | n + 1 => by
    obtain ⟨h1, h2, h3⟩ := bst_spec (f := f) (lo := lo) n
    by_cases h : f (lo + n + 1) ≥ f (bst f lo n)
    · rw [bst_T h]
      refine ⟨by omega, fun a ha hb => ?_, fun a ha hb => by omega⟩
      by_cases e : a = lo + n + 1
      · subst e; exact Int.le_refl _
      · have := h2 a ha (by omega); omega
    · rw [bst_F h]
      refine ⟨by omega, fun a ha hb => ?_, fun a ha hb => ?_⟩
      · by_cases e : a = lo + n + 1
        · subst e; omega
        · exact h2 a ha (by omega)
      · by_cases e : a = lo + n + 1
        · subst e; omega
        · exact h3 a ha (by omega)
def bB (f : Int → Int) (lo hi : Int) : Int := bst f lo (hi - lo).toNat
theorem bB_best {f : Int → Int} {lo hi : Int} (h : lo ≤ hi) : IsBest f lo hi (bB f lo hi) := by
  have := bst_spec (f := f) (lo := lo) (hi - lo).toNat
  rwa [show lo + ((hi - lo).toNat : Int) = hi by omega] at this
theorem bB_uniq {f : Int → Int} {lo hi b : Int} (h : IsBest f lo hi b) : b = bB f lo hi := h.uniq (bB_best (by have := h.1; omega))
/-- Two curves that meet. -/
structure Meet (g c : Int → Int) (lo hi : Int) : Prop where
  le : lo ≤ hi
  anti : ∀ a b, lo ≤ a → a ≤ b → b ≤ hi → g b ≤ g a
  mono : ∀ a b, lo ≤ a → a ≤ b → b ≤ hi → c a ≤ c b
  nn : ∀ a, lo ≤ a → a ≤ hi → 0 ≤ g a
theorem mi_le1 {a b : Int} : mi a b ≤ a := by unfold mi; split <;> omega
theorem mi_le2 {a b : Int} : mi a b ≤ b := by unfold mi; split <;> omega
theorem mi_ge {a b x : Int} (h1 : x ≤ a) (h2 : x ≤ b) : x ≤ mi a b := by unfold mi; split <;> omega
theorem mi_cases (a b : Int) : mi a b = a ∨ mi a b = b := by unfold mi; split <;> simp
theorem mx0_ge (a : Int) : 0 ≤ mx0 a ∧ a ≤ mx0 a := by unfold mx0; split <;> omega
theorem mx0_le {a b : Int} (h : a ≤ b) : mx0 a ≤ mx0 b := by unfold mx0; split <;> split <;> omega
theorem mx0_cases (a : Int) : (a < 0 ∧ mx0 a = 0) ∨ (0 ≤ a ∧ mx0 a = a) := by unfold mx0; split <;> omega
theorem meet_top {g c : Int → Int} {lo hi l : Int} (m : Meet g c lo hi) (h1 : lo ≤ l ∧ l ≤ hi) (h2 : l = lo ∨ c l ≤ g l) (h3 : l = hi ∨ g (l + 1) < c (l + 1)) (a : Int) (ha : lo ≤ a ∧ a ≤ hi) :
    mi (g a) (c a) ≤ mi (g l) (c l) ∨ (l + 1 ≤ hi ∧ mi (g a) (c a) ≤ mi (g (l + 1)) (c (l + 1))) := by
  by_cases e : a ≤ l
  · left
    rcases h2 with h2 | h2
    · have : a = l := by omega
      rw [this]; exact Int.le_refl _
    · have h4 := m.mono a l ha.1 e h1.2
      have h5 : mi (g a) (c a) ≤ c a := mi_le2
      exact mi_ge (by omega) (by omega)
  · right
    rcases h3 with h3 | h3
    · omega
    · have h4 := m.anti (l + 1) a (by omega) (by omega) ha.2
      have h5 : mi (g a) (c a) ≤ g a := mi_le1
      exact ⟨by omega, mi_ge (by omega) (by omega)⟩
theorem meet_best {g c : Int → Int} {lo hi b v : Int} (m : Meet g c lo hi) (hb : lo ≤ b ∧ b ≤ hi) (hv : mx0 (mi (g b) (c b)) = v) (htop : ∀ a, lo ≤ a → a ≤ hi → mx0 (mi (g a) (c a)) ≤ v) (hend : b = hi ∨ mx0 (mi (g (b + 1)) (c (b + 1))) < v) :
    IsBest (fun a => mi (g a) (c a)) lo hi b := by
  have v0 : 0 ≤ v := by have := (mx0_ge (mi (g b) (c b))).1; omega
  have le : ∀ a, lo ≤ a → a ≤ hi → mi (g a) (c a) ≤ v := fun a h1 h2 => by have := (mx0_ge (mi (g a) (c a))).2; have := htop a h1 h2; omega
  by_cases hp : 0 < v
  · have eb : mi (g b) (c b) = v := by rcases mx0_cases (mi (g b) (c b)) with h | h <;> omega
    refine ⟨hb, fun a h1 h2 => by show mi (g a) (c a) ≤ mi (g b) (c b); rw [eb]; exact le a h1 h2, fun a h1 h2 => ?_⟩
    rcases hend with h | h
    · omega
    · show mi (g a) (c a) < mi (g b) (c b)
      have h3 := (mx0_ge (mi (g (b + 1)) (c (b + 1)))).2
      have h4 := m.mono b (b + 1) hb.1 (by omega) (by omega)
      have h5 : mi (g b) (c b) ≤ c b := mi_le2
      have h6 : g (b + 1) < v := by
        rcases mi_cases (g (b + 1)) (c (b + 1)) with e | e <;> omega
      have h7 := m.anti (b + 1) a (by omega) (by omega) h2
      have h8 : mi (g a) (c a) ≤ g a := mi_le1
      omega
  · have hz : v = 0 := by omega
    have hbh : b = hi := by
      rcases hend with h | h
      · exact h
      · have := (mx0_ge (mi (g (b + 1)) (c (b + 1)))).1; omega
    subst hbh
    refine ⟨hb, fun a h1 h2 => ?_, fun a h1 h2 => by omega⟩
    show mi (g a) (c a) ≤ mi (g b) (c b)
    have h3 := le a h1 h2
    have h4 := m.mono a b h1 h2 (Int.le_refl _)
    have h5 := m.nn b hb.1 (Int.le_refl _)
    have h6 : mi (g a) (c a) ≤ c a := mi_le2
    exact mi_ge (by omega) (by omega)
theorem les_meet {tr su re pr q : Int} (ht : 0 ≤ tr) (hq : 0 ≤ q) (h : re ≤ pr) : Meet (gP q pr) (cP tr su re pr) re pr :=
  ⟨h, fun a b _ h1 _ => gP_anti hq h1, fun a b _ h1 _ => cP_mono ht h1, fun a _ h1 => gP_nn hq h1⟩
def pwP (tr su re pr q : Int) : Int := if pr < re then 0 else mx0 (lesP tr su re pr q (bB (lesP tr su re pr q) re pr))
theorem pw_le {f f' : Int → Int} {lo hi hi' : Int} (h : lo ≤ hi) (h' : hi ≤ hi') (hf : ∀ b, lo ≤ b → b ≤ hi → mx0 (f b) ≤ mx0 (f' b)) : mx0 (f (bB f lo hi)) ≤ mx0 (f' (bB f' lo hi')) := by
  have b1 := bB_best (f := f) h
  have b2 := bB_best (f := f') (lo := lo) (hi := hi') (by omega)
  have h1 := hf _ b1.1.1 b1.1.2
  have h2 := b2.2.1 (bB f lo hi) b1.1.1 (by have := b1.1.2; omega)
  have h3 := mx0_le h2
  omega
theorem pw_nn {tr su re pr q : Int} : 0 ≤ pwP tr su re pr q := by
  unfold pwP
  split
  · exact Int.le_refl _
  · exact (mx0_ge _).1
theorem mi_mono {a b a' b' : Int} (h1 : a ≤ a') (h2 : b ≤ b') : mi a b ≤ mi a' b' := by unfold mi; split <;> split <;> omega
theorem gP_q {q q' pr b : Int} (h : q ≤ q') (hb : b ≤ pr) : gP q pr b ≤ gP q' pr b := dr_mono' (by omega) (Int.mul_le_mul_of_nonneg_right (by omega) (by omega))
theorem gP_p {q pr pr' b : Int} (hq : 0 ≤ q) (h : pr ≤ pr') : gP q pr b ≤ gP q pr' b := dr_mono' (by omega) (Int.mul_le_mul_of_nonneg_left (by omega) (by omega))
theorem cP_p {tr su re pr pr' b : Int} (ht : 0 ≤ tr) (h : pr ≤ pr') : cP tr su re pr b ≤ cP tr su re pr' b :=
  dr_mono' (by omega) (Int.mul_le_mul_of_nonneg_left (dr_mono' (by omega) (by omega)) ht)
theorem pw_q {tr su re pr q q' : Int} (h : q ≤ q') : pwP tr su re pr q ≤ pwP tr su re pr q' := by
  unfold pwP
  split
  · exact Int.le_refl _
  · exact pw_le (by omega) (Int.le_refl _) fun b h1 h2 => mx0_le (mi_mono (gP_q h h2) (Int.le_refl _))
theorem pw_p {tr su re pr pr' q : Int} (ht : 0 ≤ tr) (hq : 0 ≤ q) (h : pr ≤ pr') : pwP tr su re pr q ≤ pwP tr su re pr' q := by
  by_cases e : pr < re
  · rw [show pwP tr su re pr q = 0 from if_pos e]; exact pw_nn
  · unfold pwP
    rw [if_neg e, if_neg (by omega)]
    exact pw_le (by omega) h fun b h1 h2 => mx0_le (mi_mono (gP_p hq h) (cP_p ht h))
theorem pw_t {tr tr' su re pr q : Int} (ht : 0 ≤ tr) (h : tr ≤ tr') : pwP tr su re pr q ≤ pwP tr' su re pr q := by
  unfold pwP
  split
  · exact Int.le_refl _
  · refine pw_le (by omega) (Int.le_refl _) fun b h1 h2 => ?_
    by_cases hm : 0 ≤ mdP su re pr b
    · exact mx0_le (mi_mono (Int.le_refl _) (dr_mono' (by omega) (Int.mul_le_mul_of_nonneg_right h hm)))
    · have h3 : cP tr su re pr b ≤ 0 := dr_nonpos (by omega) (Int.mul_nonpos_of_nonneg_of_nonpos ht (by omega))
      have h4 : lesP tr su re pr q b ≤ cP tr su re pr b := mi_le2
      have h5 := (mx0_ge (lesP tr' su re pr q b)).1
      rcases mx0_cases (lesP tr su re pr q b) with h6 | h6 <;> omega
noncomputable def pfP (tr su re pr ld : Int) : Int := lst (fun n => pwP tr su re pr n ≥ ld) 0 100000
noncomputable def lpP (tr su re ld q : Int) : Int := lst (fun n => pwP tr su re n q ≥ ld) 0 18000
noncomputable def ltP (su re pr ld : Int) : Int := lst (fun n => pwP n su re pr 100000 ≥ ld) 1 100000
noncomputable def srT (p : Int → Prop) [DecidablePred p] (l h : Nat) (t : Int) : Int :=
  if l < h then (if p (1 + ((l + h) / 2 : Nat)) then srT p l ((l + h) / 2) (1 + ((l + h) / 2 : Nat)) else srT p ((l + h) / 2 + 1) h (1 + ((l + h) / 2 : Nat))) else t
termination_by h - l
theorem srT_T {p : Int → Prop} [DecidablePred p] {l h k : Nat} {t : Int} (h1 : l < h) (hk : (l + h) / 2 = k) (hp : p (1 + (k : Int))) : srT p l k (1 + (k : Int)) = srT p l h t := by
  subst hk
  rw [srT.eq_1 p l h t, if_pos h1, if_pos hp]
theorem srT_F {p : Int → Prop} [DecidablePred p] {l h k : Nat} {t : Int} (h1 : l < h) (hk : (l + h) / 2 = k) (hp : ¬ p (1 + (k : Int))) : srT p (k + 1) h (1 + (k : Int)) = srT p l h t := by
  subst hk
  rw [srT.eq_1 p l h t, if_pos h1, if_neg hp]
theorem srT_0 {p : Int → Prop} [DecidablePred p] {l h : Nat} {t : Int} (h1 : ¬ l < h) : srT p l h t = t := by
  rw [srT.eq_1, if_neg h1]
def cb (n : Int) : AV := .s (.int .u8 n)
def src (cs : List Int) (a s : Int) : List AV := [.lst 1 (cs.map cb), .s (.int .i64 a), .s (.int .u64 s)]
theorem repC {n : Nat} : List.replicate n (zelem [AV.s (.int .i64 0)]) = (List.replicate n (0 : Int)).map ci := by rw [List.map_replicate]; rfl
def byteL (cs : List Int) : Prop := ∀ x ∈ cs, 0 ≤ x ∧ x ≤ 255
theorem and255 {x n : Int} (h : n = bitsI .and .u64 x 255) : 0 ≤ n ∧ n ≤ 255 := by
  subst h
  simp only [bitsI]
  have h1 : ((BitVec.ofInt IntKind.u64.bits x) &&& (BitVec.ofInt IntKind.u64.bits 255)).toNat ≤ 255 := by
    rw [BitVec.toNat_and]
    exact Nat.le_trans Nat.and_le_right (by decide)
  generalize ((BitVec.ofInt IntKind.u64.bits x) &&& (BitVec.ofInt IntKind.u64.bits 255)).toNat = m at h1
  have e : IntKind.u64.wrap (m : Int) = (m : Int) % 18446744073709551616 := by simp [IntKind.wrap, IntKind.bits, IntKind.signed]
  rw [e]; omega
theorem if3 {A B C : Prop} [Decidable A] [Decidable B] [Decidable C] {x n m : Int} (h1 : n = if A then (if B then (if C then x else 0) else 0) else 0) (h2 : m = if A then (if B then (if C then 0 else 6) else 2) else 1) (h : m = 0) : A ∧ B ∧ C ∧ n = x := by
  by_cases a : A
  · by_cases b : B
    · by_cases c : C
      · rw [if_pos a, if_pos b, if_pos c] at h1; exact ⟨a, b, c, h1⟩
      · rw [if_pos a, if_pos b, if_neg c] at h2; omega
    · rw [if_pos a, if_neg b] at h2; omega
  · rw [if_neg a] at h2; omega
theorem if3n {A B C : Prop} [Decidable A] [Decidable B] [Decidable C] {x n m : Int} (h1 : n = if A then (if B then (if C then x else 0) else 0) else 0) (h2 : m = if A then (if B then (if C then 0 else 6) else 2) else 1) (h : ¬ m = 0) : n = 0 := by
  by_cases a : A
  · by_cases b : B
    · by_cases c : C
      · rw [if_pos a, if_pos b, if_pos c] at h2; exact absurd h2 h
      · rw [if_pos a, if_pos b, if_neg c] at h1; exact h1
    · rw [if_pos a, if_neg b] at h1; exact h1
  · rw [if_neg a] at h1; exact h1
theorem if2 {A B : Prop} [Decidable A] [Decidable B] {x n m : Int} (h1 : n = if A then (if B then x else 0) else 0) (h2 : m = if A then (if B then 0 else 2) else 1) (h : m = 0) : A ∧ B ∧ n = x := by
  by_cases a : A
  · by_cases b : B
    · rw [if_pos a, if_pos b] at h1; exact ⟨a, b, h1⟩
    · rw [if_pos a, if_neg b] at h2; omega
  · rw [if_neg a] at h2; omega
theorem if2T {A B : Prop} [Decidable A] [Decidable B] {x n m : Int} (h1 : n = if A then (if B then x else 0) else 0) (h2 : m = if A then (if B then 0 else 2) else 1) (a : A) (b : B) : m = 0 ∧ n = x := by
  rw [if_pos a, if_pos b] at h1 h2; exact ⟨h2, h1⟩
def ixs (p : Nat → Prop) [DecidablePred p] : Nat → List Int
  | 0 => []
  | n + 1 => if p n then ixs p n ++ [(n : Int)] else ixs p n
theorem ixs_T {p : Nat → Prop} [DecidablePred p] {n : Nat} (h : p n) : ixs p (n + 1) = ixs p n ++ [(n : Int)] := if_pos h
theorem ixs_F {p : Nat → Prop} [DecidablePred p] {n : Nat} (h : ¬ p n) : ixs p (n + 1) = ixs p n := if_neg h
theorem ixs_len {p : Nat → Prop} [DecidablePred p] : ∀ n : Nat, (ixs p n).length ≤ n
  | 0 => Nat.le_refl _
  | n + 1 => by
    have := ixs_len (p := p) n
    by_cases h : p n
    · rw [ixs_T h]; simp; omega
    · rw [ixs_F h]; omega
def gd (xs : List Int) (i : Nat) : Int := xs.getD i 0
theorem gd_eq {xs : List Int} {i : Nat} {p : Int} (h : xs[i]? = some p) : gd xs i = p := by simp [gd, List.getD, h]
def sb0 : Sb := ⟨⟨#[]⟩, 0, 0, 0, 0⟩
def gs (xs : List Sb) (i : Nat) : Sb := xs.getD i sb0
theorem gs_eq {xs : List Sb} {i : Nat} {p : Sb} (h : xs[i]? = some p) : gs xs i = p := by simp [gs, List.getD, h]
noncomputable def pfj (xs : List Sb) (ds : List Int) (pr : Int) (i : Nat) : Int := pfP (gs xs i).tr (gs xs i).su (gs xs i).re pr (gd ds i)
theorem pfj_eq {xs : List Sb} {ds : List Int} {pr : Int} {i : Nat} {p : Sb} {l : Int} (hp : xs[i]? = some p) (hl : ds[i]? = some l) : pfj xs ds pr i = pfP p.tr p.su p.re pr l := by unfold pfj; rw [gs_eq hp, gd_eq hl]
theorem pfP_bd {tr su re pr ld : Int} : 0 ≤ pfP tr su re pr ld ∧ pfP tr su re pr ld ≤ 100001 := by
  have := lst_spec (fun n => pwP tr su re pr n ≥ ld) (lo := 0) (hi := 100000) (by omega)
  exact ⟨this.1, this.2.1⟩
theorem pf_re {tr su re pr ld : Int} (h0 : 0 < pfP tr su re pr ld) (h1 : pfP tr su re pr ld ≤ 100000) : re ≤ pr := by
  apply Classical.byContradiction
  intro h
  have hz : ∀ n, pwP tr su re pr n = 0 := fun n => if_pos (by omega)
  obtain ⟨_, _, a3, a4⟩ := lst_spec (fun n => pwP tr su re pr n ≥ ld) (lo := 0) (hi := 100000) (by omega)
  have b1 := a4 h1
  have b2 := a3 0 (Int.le_refl _) h0
  simp only [hz] at b1 b2
  exact b2 b1
noncomputable def bkj (xs : List Sb) (ds : List Int) (pr : Int) (i : Nat) : Int := bB (lesP (gs xs i).tr (gs xs i).su (gs xs i).re pr (pfj xs ds pr i)) (gs xs i).re pr
noncomputable def rmS (xs : List Sb) (ds : List Int) (pr : Int) : Nat → Int
  | 0 => 0
  | n + 1 => if pfj xs ds pr n > 0 then rmS xs ds pr n + pfj xs ds pr n * bkj xs ds pr n else rmS xs ds pr n
noncomputable def rmA (xs : List Sb) (ds : List Int) (pr : Int) : Nat → Int
  | 0 => 0
  | n + 1 => if pfj xs ds pr n > 0 then rmA xs ds pr n + pfj xs ds pr n else rmA xs ds pr n
theorem rmS_T {xs : List Sb} {ds : List Int} {pr : Int} {n : Nat} (h : pfj xs ds pr n > 0) : rmS xs ds pr (n + 1) = rmS xs ds pr n + pfj xs ds pr n * bkj xs ds pr n := if_pos h
theorem rmS_F {xs : List Sb} {ds : List Int} {pr : Int} {n : Nat} (h : ¬ pfj xs ds pr n > 0) : rmS xs ds pr (n + 1) = rmS xs ds pr n := if_neg h
theorem rmA_T {xs : List Sb} {ds : List Int} {pr : Int} {n : Nat} (h : pfj xs ds pr n > 0) : rmA xs ds pr (n + 1) = rmA xs ds pr n + pfj xs ds pr n := if_pos h
theorem rmA_F {xs : List Sb} {ds : List Int} {pr : Int} {n : Nat} (h : ¬ pfj xs ds pr n > 0) : rmA xs ds pr (n + 1) = rmA xs ds pr n := if_neg h
noncomputable def sbC (xs : List Sb) (ds : List Int) (pr : Int) : Int := if subsOk xs then (if (0 ≤ pr ∧ pr ≤ 18000) ∧ ds.length = xs.length ∧ within ds 0 100000000 then 0 else 2) else 1
theorem sbC_ok {xs : List Sb} {ds : List Int} {pr : Int} (h : sbC xs ds pr = 0) : subsOk xs ∧ (0 ≤ pr ∧ pr ≤ 18000) ∧ ds.length = xs.length ∧ within ds 0 100000000 := by
  unfold sbC at h
  split at h
  · split at h
    · exact ⟨by assumption, by assumption⟩
    · omega
  · omega
theorem sbC0 {xs : List Sb} {ds : List Int} {pr : Int} (h : subsOk xs) (h1 : 0 ≤ pr ∧ pr ≤ 18000) (h2 : ds.length = xs.length) (h3 : within ds 0 100000000) : sbC xs ds pr = 0 := by unfold sbC; rw [if_pos h, if_pos ⟨h1, h2, h3⟩]
theorem sbC1 {xs : List Sb} {ds : List Int} {pr : Int} (h : ¬ subsOk xs) : sbC xs ds pr = 1 := by unfold sbC; rw [if_neg h]
theorem sbC2 {xs : List Sb} {ds : List Int} {pr : Int} (h : subsOk xs) (h1 : ¬ ((0 ≤ pr ∧ pr ≤ 18000) ∧ ds.length = xs.length ∧ within ds 0 100000000)) : sbC xs ds pr = 2 := by unfold sbC; rw [if_pos h, if_neg h1]
theorem rm_bd {xs : List Sb} {ds : List Int} {pr : Int} (hok : subsOk xs ∧ (0 ≤ pr ∧ pr ≤ 18000) ∧ ds.length = xs.length ∧ within ds 0 100000000) : ∀ n : Nat, n ≤ xs.length → (∀ j, j < n → pfj xs ds pr j ≤ 100000) → (0 ≤ rmS xs ds pr n ∧ rmS xs ds pr n ≤ n * 1800000000) ∧ (0 ≤ rmA xs ds pr n ∧ rmA xs ds pr n ≤ n * 100000)
  | 0, _, _ => by simp [rmS, rmA]
  | n + 1, hn, hJ => by
    have ih := rm_bd hok n (by omega) (fun j hj => hJ j (by omega))
    have hp : xs[n]? = some (xs[n]'(by omega)) := List.getElem?_eq_getElem (by omega)
    have hl : ds[n]? = some (ds[n]'(by have := hok.2.2.1; omega)) := List.getElem?_eq_getElem (by have := hok.2.2.1; omega)
    have hx := (hok.1.2 n _ hp).1
    have hj := hJ n (by omega)
    by_cases h : pfj xs ds pr n > 0
    · rw [rmS_T h, rmA_T h]
      have hre : (gs xs n).re ≤ pr := pf_re h hj
      have hb := (bB_best (f := lesP (gs xs n).tr (gs xs n).su (gs xs n).re pr (pfj xs ds pr n)) hre).1
      have hr0 : 0 ≤ (gs xs n).re := by rw [gs_eq hp]; exact hx.2.2.2.2.1
      have hm := mulB (a := pfj xs ds pr n) (b := bkj xs ds pr n) (A := 100000) (B := 18000) (by omega) hj (by unfold bkj; omega) (by unfold bkj; omega)
      omega
    · rw [rmS_F h, rmA_F h]; omega
noncomputable instance (xs : List Sb) (ds : List Int) (pr : Int) (n : Nat) : Decidable (∀ j, j < n → pfj xs ds pr j ≤ 100000) := Classical.propDecidable _
noncomputable def rmC (xs : List Sb) (ds : List Int) (pr : Int) : Int := if sbC xs ds pr = 0 then (if (∀ j, j < xs.length → pfj xs ds pr j ≤ 100000) ∧ ¬ rmA xs ds pr xs.length = 0 then 0 else 6) else sbC xs ds pr
theorem rmC_c {xs : List Sb} {ds : List Int} {pr : Int} (h : ¬ sbC xs ds pr = 0) : rmC xs ds pr = sbC xs ds pr := by unfold rmC; rw [if_neg h]
theorem rmC_6 {xs : List Sb} {ds : List Int} {pr : Int} (h : sbC xs ds pr = 0) (h1 : ¬ ((∀ j, j < xs.length → pfj xs ds pr j ≤ 100000) ∧ ¬ rmA xs ds pr xs.length = 0)) : rmC xs ds pr = 6 := by unfold rmC; rw [if_pos h, if_neg h1]
theorem rmC_0 {xs : List Sb} {ds : List Int} {pr : Int} (h : sbC xs ds pr = 0) (h1 : ∀ j, j < xs.length → pfj xs ds pr j ≤ 100000) (h2 : ¬ rmA xs ds pr xs.length = 0) : rmC xs ds pr = 0 := by unfold rmC; rw [if_pos h, if_pos ⟨h1, h2⟩]
def wkP (xs : List Sb) (ds : List Int) (pr : Int) (i : Nat) : Prop := 100000 < pfj xs ds pr i
noncomputable instance (xs : List Sb) (ds : List Int) (pr : Int) : DecidablePred (wkP xs ds pr) := fun i => Classical.propDecidable _
noncomputable def wkL (xs : List Sb) (ds : List Int) (pr : Int) : List Int := if sbC xs ds pr = 0 then ixs (wkP xs ds pr) xs.length else []
theorem wkL_no {xs : List Sb} {ds : List Int} {pr : Int} (h : ¬ sbC xs ds pr = 0) : wkL xs ds pr = [] := if_neg h
theorem wkL_ok {xs : List Sb} {ds : List Int} {pr : Int} (h : sbC xs ds pr = 0) : wkL xs ds pr = ixs (wkP xs ds pr) xs.length := if_pos h
theorem wkL_len {xs : List Sb} {ds : List Int} {pr : Int} : (wkL xs ds pr).length ≤ 12 ∧ (wkL xs ds pr).length ≤ xs.length := by
  by_cases h : sbC xs ds pr = 0
  · rw [wkL_ok h]
    have := (sbC_ok h).1.1
    have := ixs_len (p := wkP xs ds pr) xs.length
    omega
  · rw [wkL_no h]; simp
def dAV (n : Int) : AV := .s (.string (dec n))
def u8A (n : Int) : AV := .s (.int .u8 n)
theorem fS {a b : ByteArray} (h : a = b) : AV.s (.string a) = .s (.string b) := by rw [h]
theorem dec_0 : (⟨#[48]⟩ : ByteArray) = dec 0 := by simp [dec, tx, Lib.itoa, Lib.decDigits]
theorem sz_app {a b c : ByteArray} (h : a = b ++ c) : a.size = b.size + c.size := by rw [h, ByteArray.size_append]
theorem takeS {α : Type} {xs : List α} {i : Nat} {q : α} (h : xs[i]? = some q) : xs.take (i + 1) = xs.take i ++ [q] := by rw [List.take_add_one, h]; rfl
theorem appG {α : Type} {f : α → AV} {l l2 : List α} {p : α} {v : AV} (h : l2 = l ++ [p]) (e : v = f p) : l.map f ++ [v] = l2.map f := by subst h e; simp
theorem ltx_s1 {xs : List Int} {i : Nat} {q : Int} {s : ByteArray} (hq : xs[i]? = some q) (h : ¬ (i : Int) > 0) (h2 : s = tx (ltx (xs.take i)) ++ dec q) : s = tx (ltx (xs.take (i + 1))) := by
  have h0 : i = 0 := by omega
  subst h0
  rw [h2, ltx_take hq, if_pos rfl]
  show tx [] ++ dec q = dec q
  unfold dec; rw [tx_app]; rfl
theorem ltx_s2 {xs : List Int} {i : Nat} {q : Int} {s u : ByteArray} (hq : xs[i]? = some q) (h : (i : Int) > 0) (h1 : u = tx (ltx (xs.take i)) ++ ⟨#[44]⟩) (h2 : s = u ++ dec q) : s = tx (ltx (xs.take (i + 1))) := by
  rw [h2, h1, ltx_take hq, if_neg (by omega)]
  show tx (ltx (xs.take i)) ++ tx [44] ++ dec q = _
  unfold dec; rw [tx_app, tx_app]
theorem u8w {n m : Int} (h : n = IntKind.u8.wrap m) (h0 : 0 ≤ m) (h1 : m ≤ 255) : n = m := by
  have e : IntKind.u8.wrap m = m % 256 := by simp [IntKind.wrap, IntKind.bits, IntKind.signed]
  rw [e] at h; omega
theorem absT {m a b : Int} (h : a = Int.tmod m 10) (hb : (0 ≤ a ∧ b = a) ∨ (a < 0 ∧ b = -a)) : b = ((m.natAbs % 10 : Nat) : Int) := by
  by_cases h0 : 0 ≤ m
  · rw [tmod_pos h0] at h; omega
  · rw [tmod_neg (by omega)] at h; omega
theorem tmodB {m a : Int} (h : a = Int.tmod m 10) : -9 ≤ a ∧ a ≤ 9 := by
  by_cases h0 : 0 ≤ m
  · rw [tmod_pos h0] at h; omega
  · rw [tmod_neg (by omega)] at h; omega
theorem tdivA {m a : Int} (h : a = Int.tdiv m 10) (hm : m ≠ 0) : a.natAbs < m.natAbs := by
  by_cases h0 : 0 ≤ m
  · rw [tdiv_pos h0] at h; omega
  · rw [tdiv_neg (by omega)] at h; omega
theorem quo10 {n m : Int} (h : n = IntKind.i64.wrap (Int.tdiv m 10)) (h0 : -9223372036854775808 ≤ m) (h1 : m ≤ 9223372036854775807) : n = Int.tdiv m 10 := by
  by_cases h2 : 0 ≤ m
  · rw [tdiv_pos h2] at h ⊢; exact in64 h (by omega) (by omega)
  · rw [tdiv_neg (by omega)] at h ⊢; exact in64 h (by omega) (by omega)
def decL (n : Int) (L : List Int) : List Int := if n < 0 then L ++ [45] else L
theorem dec_end {n : Int} {L : List Int} (h : decI n 0 L) : (decL n L).reverse = itD n := by
  have e := decI_end h
  unfold decL
  by_cases hn : n < 0
  · rw [if_pos hn, itD_neg hn, e]; simp
  · rw [if_neg hn, itD_pos (by omega), e]
def revT (L : List Int) (i : Nat) : List Int := (L.drop i).reverse
theorem revT_0 {L : List Int} : revT L L.length = [] := by simp [revT]
theorem revT_s {L : List Int} {i : Nat} {q : Int} (h : L[i]? = some q) : revT L i = revT L (i + 1) ++ [q] := by
  have hl := (List.getElem?_eq_some_iff.1 h).1
  unfold revT
  rw [List.drop_eq_getElem_cons hl, List.reverse_cons]
  rw [List.getElem?_eq_getElem hl] at h
  rw [Option.some.inj h]
theorem revT_e {L : List Int} : revT L 0 = L.reverse := by simp [revT]
theorem revT_len {L : List Int} {i : Nat} : (revT L i).length = L.length - i := by simp [revT]
theorem u8s_u8A : ∀ xs : List Int, u8s (xs.map u8A) = some xs
  | [] => rfl
  | x :: xs => by simp only [List.map_cons, u8s, u8A]; rw [show u8s (xs.map u8A) = some xs from u8s_u8A xs]
theorem u8s_take {xs : List Int} {n : Nat} (h : n = xs.length) : u8s ((xs.map u8A).take n) = some xs := by subst h; rw [takeMap]; exact u8s_u8A xs
theorem decL_len {n : Int} {L : List Int} : (decL n L).length ≤ L.length + 1 := by unfold decL; split <;> simp
theorem lt_size {xs : List Int} : (lt xs).size ≤ 1400 := by
  by_cases h : fitsL xs
  · by_cases h0 : xs = []
    · subst h0; rw [lt_0, tx_size]; simp
    · rw [lt_ok h h0, tx_size]
      have := ltx_len (L := xs) (fun x hx => by have := h.2 x hx; exact ⟨by omega, by omega⟩) (i := xs.length) (Nat.le_refl _)
      rw [List.take_length] at this
      have := h.1; omega
  · rw [lt_no h, tx_size]; simp
theorem nm_size {s : ByteArray} (h : isName s = true) : 1 ≤ s.size ∧ s.size ≤ 10 := by simp [isName] at h; omega
theorem l1_size {c : UInt8} : (⟨#[c]⟩ : ByteArray).size = 1 := rfl
noncomputable def sbT (s : ByteArray) (nd tr su re : Int) : ByteArray := if isName s = true ∧ (0 ≤ nd ∧ nd ≤ 15) ∧ (1 ≤ tr ∧ tr ≤ 100000) ∧ (0 ≤ su ∧ su ≤ 18000) ∧ (0 ≤ re ∧ re ≤ su - 1) then s ++ ⟨#[32]⟩ ++ tx (ltx [nd, tr, su, re]) else tx []
theorem sbT_no {s : ByteArray} {nd tr su re : Int} (h : ¬ (isName s = true ∧ (0 ≤ nd ∧ nd ≤ 15) ∧ (1 ≤ tr ∧ tr ≤ 100000) ∧ (0 ≤ su ∧ su ≤ 18000) ∧ (0 ≤ re ∧ re ≤ su - 1))) : sbT s nd tr su re = tx [] := if_neg h
theorem sbT_ok {s : ByteArray} {nd tr su re : Int} (h : isName s = true ∧ (0 ≤ nd ∧ nd ≤ 15) ∧ (1 ≤ tr ∧ tr ≤ 100000) ∧ (0 ≤ su ∧ su ≤ 18000) ∧ (0 ≤ re ∧ re ≤ su - 1)) : sbT s nd tr su re = s ++ ⟨#[32]⟩ ++ tx (ltx [nd, tr, su, re]) := if_pos h
theorem sb_in {s : ByteArray} {nd tr su re : Int} (h : isName s = true ∧ (0 ≤ nd ∧ nd ≤ 15) ∧ (1 ≤ tr ∧ tr ≤ 100000) ∧ (0 ≤ su ∧ su ≤ 18000) ∧ (0 ≤ re ∧ re ≤ su - 1)) : ∀ x ∈ [nd, tr, su, re], -1000000000000 ≤ x ∧ x ≤ 1000000000000 := fun x hx => by
  simp only [List.mem_cons, List.not_mem_nil, or_false] at hx
  rcases hx with rfl | rfl | rfl | rfl <;> omega
theorem splitK_mem {c : UInt8} : ∀ (k : Nat) (l : List UInt8), ∀ p ∈ Lib.splitK [c] 0 k l, p.length ≤ l.length
  | 0, l, p, h => by simp [Lib.splitK] at h; subst h; exact Nat.le_refl _
  | k + 1, l, p, h => by
    rw [Lib.splitK] at h
    split at h
    · simp at h; subst h; exact Nat.le_refl _
    · rcases List.mem_cons.1 h with e | e
      · subst e; rw [List.length_take]; omega
      · have := splitK_mem k _ p e
        rw [List.length_drop] at this; omega
theorem splN_sz {c : UInt8} {k : Nat} {s q : ByteArray} (h : q ∈ splN c k s) : q.size ≤ s.size := by
  have hd := Lib.splitB_data (tx [c]) 0 (min k (s.size + 1) - 1) s
  rw [tx_data] at hd
  have := splitK_mem (c := c) (min k (s.size + 1) - 1) s.data.toList q.data.toList (by rw [← hd]; exact List.mem_map_of_mem (f := fun b : ByteArray => b.data.toList) h)
  rw [ba_len, ba_len] at this; exact this
theorem pcs_mem {c : UInt8} : ∀ (l : List UInt8), ∀ p ∈ pcs c l, p.length ≤ l.length
  | [], p, h => by simp [pcs] at h; subst h; simp
  | b :: l, p, h => by
    have ih := pcs_mem (c := c) l
    rw [pcs] at h
    split at h
    · rcases List.mem_cons.1 h with e | e
      · subst e; simp
      · have := ih p e; simp; omega
    · split at h
      · rename_i x xs e
        rw [e] at ih
        rcases List.mem_cons.1 h with e2 | e2
        · subst e2; have := ih x (by simp); simp; omega
        · have := ih p (by simp [e2]); simp; omega
      · simp at h; subst h; simp
theorem pc_sz {c : UInt8} {s q : ByteArray} (h : q ∈ pieces c s) : q.size ≤ s.size := by
  obtain ⟨p, hp, rfl⟩ := List.mem_map.1 h
  have := pcs_mem _ p hp
  rw [ba_len] at this
  rw [tx_size]; exact this
theorem rlP_no1 {s q : ByteArray} (hq : q ∈ splN 44 65 s) (h : ¬ rdB q) : ¬ rlP s := fun hp => h (hp.2 q (by rw [← splN_mem hp]; exact hq)).1
theorem rl_y2 {s : ByteArray} (h : ¬ s = tx [45]) (h2 : rlP s) : rlB s ∧ rlL s = (splN 44 65 s).map rdN := by
  have e := rl_y h h2
  rw [splN_mem h2]; exact e
def pAV (p : List UInt8) : AV := .s (.string (tx p))
theorem pAV_map {o : List (List UInt8)} : o.map pAV = (o.map tx).map stA := by rw [List.map_map]; rfl
theorem ext0 {s : ByteArray} {f i : Nat} {l : ByteArray} (h : l = s.extract f i) : AV.s (.string l) = pAV (s.extract f i).data.toList := by subst h; unfold pAV; rw [tx_self]
theorem u8eq {a b : UInt8} (h : (a.toNat : Int) = b.toNat) : a = b := by
  have : a.toNat = b.toNat := by omega
  exact UInt8.toNat_inj.1 this
theorem numV_lt2 {s : ByteArray} {a i : Nat} (hd : ∀ j u, a ≤ j → j < i → s[j]? = some u → dig u) (hi : i < s.size) (h18 : (s.size : Int) - a ≤ 18) : 0 ≤ numV s a i ∧ numV s a i < 100000000000000000 := by
  have hl : ((s.data.toList.drop a).take (i - a)).length ≤ 17 := by rw [List.length_take]; omega
  have h := valD_lt _ ((s.data.toList.drop a).take (i - a)) rfl (fun c hc => by
    obtain ⟨j, hj⟩ := List.getElem?_of_mem hc
    have hjl : j < i - a := by have := (List.getElem?_eq_some_iff.1 hj).1; rw [List.length_take] at this; omega
    rw [List.getElem?_take_of_lt hjl, List.getElem?_drop] at hj
    exact hd (a + j) c (by omega) (by omega) (by rw [ba_get]; exact hj))
  have h2 : 10 ^ ((s.data.toList.drop a).take (i - a)).length ≤ 10 ^ 17 := Nat.pow_le_pow_right (by omega) hl
  unfold numV
  omega
theorem digit_T {u : UInt8} (h : true = digit u) : dig u := by simpa [digit, dig] using h.symm
theorem digit_F {u : UInt8} (h : false = digit u) : ¬ dig u := fun hd => by
  have : digit u = true := by simpa [digit, dig] using hd
  rw [this] at h; cases h
theorem dig_ext {s : ByteArray} {a i : Nat} {u : UInt8} (hJ : ∀ j v, a ≤ j → j < i → s[j]? = some v → dig v) (hu : s[i]? = some u) (hd : dig u) : ∀ j v, a ≤ j → j < i + 1 → s[j]? = some v → dig v := fun j v h1 h2 hv => by
  by_cases e : j = i
  · subst e; rw [hu] at hv; cases hv; exact hd
  · exact hJ j v h1 (by omega) hv
theorem ne_ext {s : ByteArray} {a i : Nat} {u c : UInt8} (hJ : ∀ j v, a ≤ j → j < i → s[j]? = some v → v ≠ c) (hu : s[i]? = some u) (hd : u ≠ c) : ∀ j v, a ≤ j → j < i + 1 → s[j]? = some v → v ≠ c := fun j v h1 h2 hv => by
  by_cases e : j = i
  · subst e; rw [hu] at hv; cases hv; exact hd
  · exact hJ j v h1 (by omega) hv
theorem sp_end {s : ByteArray} {c : UInt8} {o : List (List UInt8)} {f : Nat} {l : ByteArray} (hI : pcs c s.data.toList = o ++ pcs c (s.data.toList.drop f)) (hl : l = s.extract f s.size) (hJ : ∀ j b, f ≤ j → j < s.size → s[j]? = some b → b ≠ c) : o.map pAV ++ [AV.s (.string l)] = (pieces c s).map stA := by
  subst hl
  rw [← pc_end hI hJ, List.map_append, pAV_map]; rfl
noncomputable def tkT (c r l : Int) : ByteArray := if (1 ≤ c ∧ c ≤ 100) ∧ (1 ≤ r ∧ r ≤ 20) ∧ (0 ≤ l ∧ l ≤ 1000) then tx (ltx [c, r, l]) else tx []
theorem tk_no {c r l : Int} (h : ¬ ((1 ≤ c ∧ c ≤ 100) ∧ (1 ≤ r ∧ r ≤ 20) ∧ (0 ≤ l ∧ l ≤ 1000))) : tkT c r l = tx [] := if_neg h
theorem tk_ok {c r l : Int} (h : (1 ≤ c ∧ c ≤ 100) ∧ (1 ≤ r ∧ r ≤ 20) ∧ (0 ≤ l ∧ l ≤ 1000)) : tkT c r l = tx (ltx [c, r, l]) := if_pos h
theorem tk_in {c r l : Int} (h : (1 ≤ c ∧ c ≤ 100) ∧ (1 ≤ r ∧ r ≤ 20) ∧ (0 ≤ l ∧ l ≤ 1000)) : ∀ x ∈ [c, r, l], -1000000000000 ≤ x ∧ x ≤ 1000000000000 := fun x hx => by
  simp only [List.mem_cons, List.not_mem_nil, or_false] at hx
  rcases hx with rfl | rfl | rfl <;> omega
def okN (s : ByteArray) (m : Int) : Prop := rlB s ∧ ((rlL s).length : Int) = m
noncomputable instance (s : ByteArray) (m : Int) : Decidable (okN s m) := Classical.propDecidable _
noncomputable def rnL (s : ByteArray) (m : Int) : List AV := if okN s m then (rlL s).map ci else List.replicate m.toNat (ci 0)
theorem rnL_y {s : ByteArray} {m : Int} (h : okN s m) : rnL s m = (rlL s).map ci := if_pos h
theorem rnL_n {s : ByteArray} {m : Int} (h : ¬ okN s m) : rnL s m = List.replicate m.toNat (ci 0) := if_neg h
theorem rnL_len {s : ByteArray} {m : Int} (hm : 0 ≤ m) : ((rnL s m).length : Int) = m := by
  by_cases h : okN s m
  · rw [rnL_y h, List.length_map]; exact h.2
  · rw [rnL_n h, List.length_replicate]; omega
noncomputable def tkv (s : ByteArray) (m : Int) (k : Nat) : Int := if okN s m then (rlL s).getD k 0 else 0
theorem rnL_get {s : ByteArray} {m : Int} {k : Nat} (hk : (k : Int) < m) : (rnL s m)[k]? = some (ci (tkv s m k)) := by
  unfold tkv
  by_cases h : okN s m
  · rw [rnL_y h, if_pos h, List.getElem?_map]
    have hl : k < (rlL s).length := by have := h.2; omega
    rw [List.getElem?_eq_getElem hl, List.getD, List.getElem?_eq_getElem hl]; rfl
  · rw [rnL_n h, if_neg h]
    rw [List.getElem?_eq_getElem (by rw [List.length_replicate]; omega)]; simp
theorem rl_get {s : ByteArray} {m : Int} (h : okN s m) {k : Nat} (hk : (k : Int) < m) : (rlL s)[k]? = some (tkv s m k) := by
  have hl : k < (rlL s).length := by have := h.2; omega
  unfold tkv
  rw [if_pos h, List.getD, List.getElem?_eq_getElem hl]; rfl
theorem rl_text {s : ByteArray} (h : rlB s) (h0 : rlL s ≠ []) : s = tx (ltx (rlL s)) := by
  rcases h with h | h
  · exact absurd (rl_d h).2 h0
  · have hd : ¬ s = tx [45] := fun e => h0 (rl_d e).2
    have e := (rl_y hd h).2
    have hm : pieces 44 s = (rlL s).map dec := by
      rw [e, List.map_map]
      conv => lhs; rw [← List.map_id (pieces 44 s)]
      exact List.map_congr_left fun p hp => (rdN_of (h.2 p hp).1).1
    exact dec_pieces hm
theorem rl_ne {s : ByteArray} (h : rlB s) : s ≠ tx [] := fun e => by
  subst e
  rcases h with h | h
  · have := tx_inj h; cases this
  · obtain ⟨n, e1, -⟩ := (h.2 (tx []) (by unfold pieces; rw [tx_data]; simp [pcs])).1
    have e2 := tx_inj e1
    unfold Lib.itoa at e2
    split at e2
    · cases e2
    · exact dec_ne _ e2.symm
theorem list3 {s : ByteArray} (h : okN s 3) : rlL s = [tkv s 3 0, tkv s 3 1, tkv s 3 2] := by
  have h0 := rl_get h (k := 0) (by omega); have h1 := rl_get h (k := 1) (by omega); have h2 := rl_get h (k := 2) (by omega)
  have hl := h.2
  generalize rlL s = L at *
  match L, hl, h0, h1, h2 with
  | [a, b, c], _, h0, h1, h2 => simp at h0 h1 h2; rw [h0, h1, h2]
def tkOk (c r l : Int) : Prop := (1 ≤ c ∧ c ≤ 100) ∧ (1 ≤ r ∧ r ≤ 20) ∧ (0 ≤ l ∧ l ≤ 1000)
instance (c r l : Int) : Decidable (tkOk c r l) := by unfold tkOk; infer_instance
theorem tk_text {s : ByteArray} (h : okN s 3) : tkT (tkv s 3 0) (tkv s 3 1) (tkv s 3 2) = s ↔ tkOk (tkv s 3 0) (tkv s 3 1) (tkv s 3 2) := by
  have hl := list3 h
  constructor
  · intro e
    apply Classical.byContradiction
    intro hn
    rw [tk_no hn] at e
    exact rl_ne h.1 e.symm
  · intro hk
    rw [tk_ok hk, ← hl]
    exact (rl_text h.1 (by rw [hl]; simp)).symm
def rtB (s : ByteArray) : Prop := okN s 3 ∧ tkOk (tkv s 3 0) (tkv s 3 1) (tkv s 3 2)
noncomputable instance (s : ByteArray) : Decidable (rtB s) := Classical.propDecidable _
noncomputable def rtV (s : ByteArray) (k : Nat) : Int := if rtB s then tkv s 3 k else 0
theorem rtV_y {s : ByteArray} {k : Nat} (h : rtB s) : rtV s k = tkv s 3 k := if_pos h
theorem rtV_n {s : ByteArray} {k : Nat} (h : ¬ rtB s) : rtV s k = 0 := if_neg h
def cutA (c : UInt8) (s : ByteArray) : ByteArray := tx (Lib.cut s.data.toList [c]).1
def cutB (c : UInt8) (s : ByteArray) : ByteArray := tx (Lib.cut s.data.toList [c]).2.1
def cutF (c : UInt8) (s : ByteArray) : Bool := (Lib.cut s.data.toList [c]).2.2
theorem cut_no {c : UInt8} {s : ByteArray} (h : ∀ x ∈ s.data.toList, x ≠ c) : cutA c s = s ∧ cutB c s = tx [] := by
  rcases index_one (c := c) s.data.toList with ⟨h1, h2⟩ | ⟨p, r, h1, h2, h3⟩
  · unfold cutA cutB Lib.cut
    rw [h1, if_neg (by decide)]
    exact ⟨tx_self s, rfl⟩
  · exact absurd rfl (h c (by rw [h1]; simp))
theorem cut_yes {c : UInt8} {s : ByteArray} {p r : List UInt8} (h : s.data.toList = p ++ c :: r) (hp : ∀ x ∈ p, x ≠ c) : cutA c s = tx p ∧ cutB c s = tx r := by
  rcases index_one (c := c) s.data.toList with ⟨h1, h2⟩ | ⟨q, t, h1, h2, h3⟩
  · exact absurd rfl (h2 c (by rw [h]; simp))
  · have e := pcs_hit (r := r) hp
    have e2 := pcs_hit (r := t) h3
    rw [← h, h1, e2] at e
    have hq : q = p := (List.cons.inj e).1
    subst hq
    have ht : t = r := by
      have := h1.symm.trans h
      exact (List.cons.inj (List.append_cancel_left this)).2
    subst ht
    unfold cutA cutB Lib.cut
    rw [h2, if_pos (by omega), h1]
    simp
theorem cutB_sz {c : UInt8} {s : ByteArray} : (cutB c s).size ≤ s.size ∧ (cutA c s).size ≤ s.size := by
  have hl : s.data.toList.length = s.size := ba_len
  unfold cutA cutB Lib.cut
  split
  · simp only [tx_size, List.length_drop, List.length_take]; omega
  · simp only [tx_size, List.length_nil]; omega
/-- What a first cut says of the pieces. -/
theorem pcs_cut {c : UInt8} {s : ByteArray} : (pieces c s = [s] ∧ cutA c s = s ∧ cutB c s = tx []) ∨ (∃ ps, pieces c s = cutA c s :: ps ∧ ps ≠ [] ∧ (ps.length = 1 → ps = [cutB c s]) ∧ s = cutA c s ++ tx [c] ++ cutB c s ∧ ps = pieces c (cutB c s)) := by
  rcases index_one (c := c) s.data.toList with ⟨h1, h2⟩ | ⟨p, r, h1, h2, h3⟩
  · left
    obtain ⟨a, b⟩ := cut_no h2
    refine ⟨?_, a, b⟩
    unfold pieces
    rw [pcs_no h2]
    simp [tx_self]
  · right
    obtain ⟨a, b⟩ := cut_yes h1 h3
    refine ⟨(pcs c r).map tx, ?_, ?_, ?_, ?_, ?_⟩
    · unfold pieces; rw [h1, pcs_hit h3, a]; rfl
    · intro e; exact pcs_ne c r (List.map_eq_nil_iff.1 e)
    · intro hl
      rw [List.length_map] at hl
      match hq : pcs c r, hl with
      | [x], _ =>
        have := join_pcs (c := c) r
        rw [hq, Lib.join_one] at this
        rw [b, this]; rfl
    · rw [a, b, tx_app, tx_app]
      refine tx_eq ?_
      rw [h1]; simp
    · rw [b]; unfold pieces; rw [tx_data]
theorem itoa_chars (n : Int) : ∀ x ∈ Lib.itoa n, dig x ∨ x = 45 := fun x hx => by
  unfold Lib.itoa at hx
  split at hx
  · rcases List.mem_cons.1 hx with e | e
    · exact .inr e
    · exact .inl (dec_dig _ x e)
  · exact .inl (dec_dig _ x hx)
theorem join_chars {P : UInt8 → Prop} {sep : List UInt8} (hs : ∀ x ∈ sep, P x) : ∀ L : List (List UInt8), (∀ l ∈ L, ∀ x ∈ l, P x) → ∀ x ∈ Lib.join L sep, P x
  | [], _, x, hx => by rw [Lib.join_nil] at hx; cases hx
  | y :: r, h, x, hx => by
    rw [Lib.join_cons] at hx
    rcases List.mem_append.1 hx with e | e
    · exact h y (by simp) x e
    · unfold Lib.joinTail at e
      obtain ⟨l, hl, hxl⟩ := List.mem_flatten.1 e
      obtain ⟨z, hz, rfl⟩ := List.mem_map.1 hl
      rcases List.mem_append.1 hxl with e2 | e2
      · exact hs x e2
      · exact h z (by simp [hz]) x e2
theorem ltx_chars (L : List Int) : ∀ x ∈ ltx L, dig x ∨ x = 45 ∨ x = 44 :=
  join_chars (P := fun x => dig x ∨ x = 45 ∨ x = 44) (fun x hx => by simp at hx; exact .inr (.inr hx)) _ (fun l hl x hx => by
    obtain ⟨n, _, rfl⟩ := List.mem_map.1 hl
    rcases itoa_chars n x hx with h | h
    · exact .inl h
    · exact .inr (.inl h))
theorem list4 {s : ByteArray} (h : okN s 4) : rlL s = [tkv s 4 0, tkv s 4 1, tkv s 4 2, tkv s 4 3] := by
  have h0 := rl_get h (k := 0) (by omega); have h1 := rl_get h (k := 1) (by omega); have h2 := rl_get h (k := 2) (by omega); have h3 := rl_get h (k := 3) (by omega)
  have hl := h.2
  generalize rlL s = L at *
  match L, hl, h0, h1, h2, h3 with
  | [a, b, c, d], _, h0, h1, h2, h3 => simp at h0 h1 h2 h3; rw [h0, h1, h2, h3]
def sbOkN (s : ByteArray) (nd tr su re : Int) : Prop := isName s = true ∧ (0 ≤ nd ∧ nd ≤ 15) ∧ (1 ≤ tr ∧ tr ≤ 100000) ∧ (0 ≤ su ∧ su ≤ 18000) ∧ (0 ≤ re ∧ re ≤ su - 1)
instance (s : ByteArray) (nd tr su re : Int) : Decidable (sbOkN s nd tr su re) := by unfold sbOkN; infer_instance
theorem nm_c {s : ByteArray} (h : isName s = true) : ∀ x ∈ s.data.toList, x ≠ 32 := fun x hx e => by
  subst e
  have h2 : allNb s = true := by simp [isName] at h; exact h.2
  unfold allNb at h2
  rw [Array.all_eq_true] at h2
  obtain ⟨i, hi⟩ := List.getElem?_of_mem hx
  have hl := (List.getElem?_eq_some_iff.1 hi).1
  have := h2 i (by simpa using hl)
  have e2 : s.data[i]'(by simpa using hl) = 32 := by
    have := (List.getElem?_eq_some_iff.1 hi).2
    simpa using this
  rw [e2] at this
  exact absurd this (by decide)
/-- The name and the numbers of a text. -/
def sId (s : ByteArray) : ByteArray := cutA 32 s
def sNm (s : ByteArray) : ByteArray := cutB 32 s
noncomputable def svV (s : ByteArray) (k : Nat) : Int := tkv (sNm s) 4 k
def svO (s : ByteArray) : Prop := okN (sNm s) 4
noncomputable instance (s : ByteArray) : Decidable (svO s) := Classical.propDecidable _
def rsB (s : ByteArray) : Prop := svO s ∧ sbOkN (sId s) (svV s 0) (svV s 1) (svV s 2) (svV s 3)
noncomputable instance (s : ByteArray) : Decidable (rsB s) := Classical.propDecidable _
noncomputable def rsI (s : ByteArray) : ByteArray := if rsB s then sId s else tx []
noncomputable def rsV (s : ByteArray) (k : Nat) : Int := if rsB s then svV s k else 0
theorem rs_y {s : ByteArray} (h : rsB s) : rsI s = sId s ∧ ∀ k, rsV s k = svV s k := ⟨if_pos h, fun k => if_pos h⟩
theorem rs_n {s : ByteArray} (h : ¬ rsB s) : rsI s = tx [] ∧ ∀ k, rsV s k = 0 := ⟨if_neg h, fun k => if_neg h⟩
theorem sNm_ne {s : ByteArray} (h : svO s) : sNm s ≠ tx [] := rl_ne h.1
theorem sb_join {s : ByteArray} (h : svO s) : s = sId s ++ ⟨#[32]⟩ ++ sNm s := by
  rcases pcs_cut (c := 32) (s := s) with ⟨_, _, h3⟩ | ⟨ps, _, _, _, h4, _⟩
  · exact absurd h3 (sNm_ne h)
  · exact h4
theorem sb_num {s : ByteArray} (h : svO s) : sNm s = tx (ltx [svV s 0, svV s 1, svV s 2, svV s 3]) := by
  have hl := list4 h
  have e := rl_text h.1 (by rw [hl]; simp)
  rw [hl] at e
  exact e
theorem sb_text {s : ByteArray} (h : svO s) : sbT (sId s) (svV s 0) (svV s 1) (svV s 2) (svV s 3) = s ↔ sbOkN (sId s) (svV s 0) (svV s 1) (svV s 2) (svV s 3) := by
  constructor
  · intro e
    apply Classical.byContradiction
    intro hn
    rw [sbT_no hn] at e
    have := sb_join h
    rw [← e] at this
    have h2 := congrArg ByteArray.size this
    rw [ByteArray.size_append, ByteArray.size_append, l1_size, tx_size, List.length_nil] at h2
    omega
  · intro hk
    rw [sbT_ok hk, ← sb_num h]
    exact (sb_join h).symm
/-- The specification's pieces. -/
theorem sp_two {s : ByteArray} (h : ((pieces 32 s).length : Int) = 2) : pieces 32 s = [sId s, sNm s] := by
  rcases pcs_cut (c := 32) (s := s) with ⟨h1, _, _⟩ | ⟨ps, h1, _, h3, _, _⟩
  · rw [h1] at h; simp at h
  · rw [h1] at h ⊢
    rw [List.length_cons] at h
    rw [h3 (by omega)]; rfl
theorem sp_not {s : ByteArray} (h : ¬ ((pieces 32 s).length : Int) = 2) : ¬ svO s := fun hs => by
  have hn := sNm_ne hs
  rcases pcs_cut (c := 32) (s := s) with ⟨_, _, h3⟩ | ⟨ps, h1, h2, h3, _, h5⟩
  · exact hn h3
  · have hnum := sb_num hs
    have hb : pieces 32 (sNm s) = [sNm s] := by
      unfold pieces
      rw [pcs_no, List.map_cons, List.map_nil, tx_self]
      intro x hx e
      subst e
      have : ∀ x ∈ (sNm s).data.toList, dig x ∨ x = 45 ∨ x = 44 := by
        rw [hnum, tx_data]
        intro x hx
        exact ltx_chars _ x hx
      rcases this 32 hx with h | h | h
      · unfold dig at h; simp at h
      · cases h
      · cases h
    have h5' : ps = pieces 32 (sNm s) := h5
    rw [hb] at h5'
    rw [h1, h5'] at h
    simp at h
def nmL : List ByteArray := [⟨#[101, 97, 115, 116]⟩, ⟨#[110, 111, 114, 116, 104]⟩, ⟨#[115, 111, 117, 116, 104]⟩, ⟨#[119, 101, 115, 116]⟩]
theorem nmL_sz {q : ByteArray} (h : q ∈ nmL) : q.size ≤ 100 := by
  simp only [nmL, List.mem_cons, List.not_mem_nil, or_false] at h
  rcases h with rfl | rfl | rfl | rfl <;> decide
theorem idz_app {u : List Sb} {v : Sb} (h : ∀ x ∈ u, x.id.size ≤ 100) (hv : v.id.size ≤ 100) : ∀ x ∈ u ++ [v], x.id.size ≤ 100 := fun x hx => by
  rcases List.mem_append.1 hx with e | e
  · exact h x e
  · simp at e; subst e; exact hv
theorem dr_nnP {a : Int} (ha : 0 ≤ a) : dr a 100 = (2 * a + 100) / 200 := by
  unfold dr drP; rw [if_neg (by omega), if_neg (by omega)]; rfl
theorem pcs_join {c : UInt8} : ∀ (r : List (List UInt8)) (x : List UInt8), (∀ l ∈ x :: r, ∀ b ∈ l, b ≠ c) → pcs c (Lib.join (x :: r) [c]) = x :: r
  | [], x, h => by rw [Lib.join_one]; exact pcs_no (h x (by simp))
  | y :: r, x, h => by
    have ih := pcs_join r y (fun l hl => h l (by simp at hl ⊢; exact .inr hl))
    have e : Lib.join (x :: y :: r) [c] = x ++ c :: Lib.join (y :: r) [c] := by
      rw [Lib.join_cons, Lib.join_cons]
      simp [Lib.joinTail]
    rw [e, pcs_hit (h x (by simp)), ih]
theorem splN_dec {L : List Int} (h0 : L ≠ []) : pieces 44 (tx (ltx L)) = L.map dec := by
  obtain ⟨y, r, ey⟩ := List.exists_cons_of_ne_nil h0
  have e : pcs 44 (ltx L) = L.map Lib.itoa := by
    subst ey
    exact pcs_join (c := 44) (r.map Lib.itoa) (Lib.itoa y) (fun l hl b hb e => by
      subst e
      have hm : l ∈ (y :: r).map Lib.itoa := hl
      obtain ⟨n, _, rfl⟩ := List.mem_map.1 hm
      rcases itoa_chars n 44 hb with h | h
      · unfold dig at h; simp at h
      · cases h)
  unfold pieces
  rw [tx_data, e, List.map_map]; rfl
theorem lt_rl {L : List Int} (h : fitsL L) (h0 : L ≠ []) : rlB (lt L) ∧ rlL (lt L) = L := by
  have ht : lt L = tx (ltx L) := lt_ok h h0
  have hp : pieces 44 (lt L) = L.map dec := by
    have := splN_dec (L := L) h0
    rw [ht]; exact this
  have hd : ¬ lt L = tx [45] := fun e => by
    rw [e] at hp
    have : pieces 44 (tx [45]) = [tx [45]] := by unfold pieces; rw [tx_data]; rfl
    rw [this] at hp
    obtain ⟨y, r, ey⟩ := List.exists_cons_of_ne_nil h0
    rw [ey] at hp
    simp only [List.map_cons] at hp
    have := (List.cons.inj hp).1
    have h2 := tx_inj this
    unfold Lib.itoa at h2
    split at h2
    · exact dec_ne _ (List.cons.inj h2).2.symm
    · have := dec_dig y.toNat 45 (by rw [← h2]; simp)
      unfold dig at this; simp at this
  have hb : ∀ x ∈ L, x.natAbs < 1000000000000000000 := fun x hx => by have := h.2 x hx; omega
  have hr : rlP (lt L) := ⟨by rw [hp, List.length_map]; exact h.1, fun p hq => by
    rw [hp] at hq
    obtain ⟨n, hn, rfl⟩ := List.mem_map.1 hq
    have := rdN_eq (hb n hn)
    exact ⟨this.1, by rw [this.2]; exact h.2 n hn⟩⟩
  have e := rl_y hd hr
  refine ⟨e.1, ?_⟩
  rw [e.2, hp, List.map_map]
  conv => rhs; rw [← List.map_id L]
  exact List.map_congr_left fun n hn => (rdN_eq (hb n hn)).2
theorem dr_nn {a b : Int} (hb : 0 < b) (ha : 0 ≤ a) : dr a b = (2 * a + b) / (2 * b) := by
  unfold dr drP; rw [if_neg (by omega), if_neg (by omega)]
theorem dr_le {a b k : Int} (hb : 0 < b) (ha : 0 ≤ a) (h : a ≤ k * b) : dr a b ≤ k := by
  rw [dr_nn hb ha]
  have e : 2 * (k * b) = k * (2 * b) := by rw [Int.mul_left_comm]
  have : (2 * a + b) < (k + 1) * (2 * b) := by rw [Int.add_mul, Int.one_mul, ← e]; omega
  have := Int.ediv_lt_of_lt_mul (by omega : 0 < 2 * b) this
  omega
theorem if4 {A B C : Prop} [Decidable A] [Decidable B] [Decidable C] {x n m : Int} (h1 : n = if A then (if B then (if C then 0 else x) else 0) else 0) (h2 : m = if A then (if B then (if C then 6 else 0) else 2) else 1) (h : m = 0) : A ∧ B ∧ ¬ C ∧ n = x := by
  by_cases a : A
  · by_cases b : B
    · by_cases c : C
      · rw [if_pos a, if_pos b, if_pos c] at h2; omega
      · rw [if_pos a, if_pos b, if_neg c] at h1; exact ⟨a, b, c, h1⟩
    · rw [if_pos a, if_neg b] at h2; omega
  · rw [if_neg a] at h2; omega
theorem rt_law {tr su re pr q b : Int} (ht : 1 ≤ tr ∧ tr ≤ 100000) (hs : 0 ≤ su ∧ su ≤ 18000) (hr : 0 ≤ re) (hp : 0 ≤ pr ∧ pr ≤ 18000) (hq : 0 ≤ q ∧ q ≤ 100000) (hre : re ≤ pr) (hb : b = bB (lesP tr su re pr q) re pr) :
    (re ≤ b ∧ b ≤ pr) ∧ 0 ≤ pwP tr su re pr q ∧ pwP tr su re pr q ≤ gP q pr b ∧ (0 < pwP tr su re pr q → (0 ≤ tr * mdP su re pr b ∧ tr * mdP su re pr b ≤ 4000000000) ∧ pwP tr su re pr q ≤ dr (tr * mdP su re pr b) 100) := by
  have h1 := (bB_best (f := lesP tr su re pr q) hre).1
  rw [← hb] at h1
  have e : pwP tr su re pr q = mx0 (lesP tr su re pr q b) := by unfold pwP; rw [if_neg (by omega), ← hb]
  have hg : 0 ≤ gP q pr b := by
    unfold gP
    exact dr_nonneg (by omega) (Int.mul_nonneg (Int.mul_nonneg hq.1 (by omega)) (by omega))
  have hm : mi (gP q pr b) (cP tr su re pr b) = lesP tr su re pr q b := rfl
  have h2 : lesP tr su re pr q b ≤ gP q pr b ∧ lesP tr su re pr q b ≤ cP tr su re pr b := by rw [← hm]; unfold mi; split <;> omega
  have h3 : (0 ≤ mx0 (lesP tr su re pr q b) ∧ lesP tr su re pr q b ≤ mx0 (lesP tr su re pr q b)) ∧ (mx0 (lesP tr su re pr q b) = 0 ∨ mx0 (lesP tr su re pr q b) = lesP tr su re pr q b) := by unfold mx0; split <;> omega
  rw [e]
  refine ⟨h1, h3.1.1, by omega, fun h0 => ?_⟩
  have h4 : 0 < cP tr su re pr b := by omega
  have hd := dr_bound (a := pr - su + b - re) (b := 2) (by omega)
  have hmd : mdP su re pr b ≤ 40000 := by unfold mdP; omega
  have hpos : 0 ≤ tr * mdP su re pr b := by
    apply Classical.byContradiction
    intro hn
    have := dr_nonpos (a := tr * mdP su re pr b) (b := 100) (by omega) (by omega)
    unfold cP at h4; omega
  have hup : tr * mdP su re pr b ≤ 100000 * 40000 := by
    by_cases hm0 : 0 ≤ mdP su re pr b
    · exact Int.mul_le_mul ht.2 hmd hm0 (by omega)
    · have : tr * mdP su re pr b ≤ tr * 0 := Int.mul_le_mul_of_nonneg_left (by omega) (by omega)
      omega
  refine ⟨⟨hpos, by omega⟩, ?_⟩
  have : cP tr su re pr b = dr (tr * mdP su re pr b) 100 := rfl
  omega
/-- The text of a substation is read back. -/
theorem rs_back {s : ByteArray} {nd tr su re : Int} (h : isName s = true ∧ (0 ≤ nd ∧ nd ≤ 15) ∧ (1 ≤ tr ∧ tr ≤ 100000) ∧ (0 ≤ su ∧ su ≤ 18000) ∧ (0 ≤ re ∧ re ≤ su - 1)) : rsB (sbT s nd tr su re) ∧ rsI (sbT s nd tr su re) = s ∧ rsV (sbT s nd tr su re) 0 = nd ∧ rsV (sbT s nd tr su re) 1 = tr ∧ rsV (sbT s nd tr su re) 2 = su ∧ rsV (sbT s nd tr su re) 3 = re := by
  have hf : fitsL [nd, tr, su, re] := ⟨by simp, sb_in h⟩
  have hl := lt_rl hf (by simp)
  rw [lt_ok hf (by simp)] at hl
  have hc := cut_yes (c := 32) (s := sbT s nd tr su re) (p := s.data.toList) (r := ltx [nd, tr, su, re]) (by rw [sbT_ok h]; simp [tx]) (nm_c h.1)
  have hN : sNm (sbT s nd tr su re) = tx (ltx [nd, tr, su, re]) := hc.2
  have hI : sId (sbT s nd tr su re) = s := by
    have := hc.1
    rw [tx_self] at this; exact this
  have ho : okN (sNm (sbT s nd tr su re)) 4 := by rw [hN]; exact ⟨hl.1, by rw [hl.2]; rfl⟩
  have hv : ∀ k : Nat, svV (sbT s nd tr su re) k = [nd, tr, su, re].getD k 0 := fun k => by
    unfold svV tkv
    rw [if_pos ho, hN, hl.2]
  have hB : rsB (sbT s nd tr su re) := ⟨ho, by rw [hI, hv, hv, hv, hv]; exact h⟩
  have hy := rs_y hB
  exact ⟨hB, hy.1.trans hI, (hy.2 0).trans (hv 0), (hy.2 1).trans (hv 1), (hy.2 2).trans (hv 2), (hy.2 3).trans (hv 3)⟩
theorem sbT_sz {s : ByteArray} {nd tr su re : Int} (h : isName s = true ∧ (0 ≤ nd ∧ nd ≤ 15) ∧ (1 ≤ tr ∧ tr ≤ 100000) ∧ (0 ≤ su ∧ su ≤ 18000) ∧ (0 ≤ re ∧ re ≤ su - 1)) : (sbT s nd tr su re).size ≤ 2000 := by
  have hf : fitsL [nd, tr, su, re] := ⟨by simp, sb_in h⟩
  have hz := lt_size (xs := [nd, tr, su, re])
  rw [lt_ok hf (by simp)] at hz
  have hn := nm_size h.1
  rw [sbT_ok h, ByteArray.size_append, ByteArray.size_append, l1_size]
  omega
theorem rm_le {xs : List Sb} {ds : List Int} {pr : Int} (hok : subsOk xs ∧ (0 ≤ pr ∧ pr ≤ 18000) ∧ ds.length = xs.length ∧ within ds 0 100000000) : ∀ n : Nat, n ≤ xs.length → (∀ j, j < n → pfj xs ds pr j ≤ 100000) → rmS xs ds pr n ≤ pr * rmA xs ds pr n
  | 0, _, _ => by simp [rmS, rmA]
  | n + 1, hn, hJ => by
    have ih := rm_le hok n (by omega) (fun j hj => hJ j (by omega))
    have hj := hJ n (by omega)
    by_cases h : pfj xs ds pr n > 0
    · rw [rmS_T h, rmA_T h]
      have hre : (gs xs n).re ≤ pr := pf_re h hj
      have hb := (bB_best (f := lesP (gs xs n).tr (gs xs n).su (gs xs n).re pr (pfj xs ds pr n)) hre).1
      have hm : pfj xs ds pr n * bkj xs ds pr n ≤ pfj xs ds pr n * pr := Int.mul_le_mul_of_nonneg_left hb.2 (by omega)
      rw [Int.mul_add, Int.mul_comm pr (pfj xs ds pr n)]
      omega
    · rw [rmS_F h, rmA_F h]; exact ih
theorem mix_bd {xs : List Sb} {ds : List Int} {pr : Int} (h : rmC xs ds pr = 0) : 0 ≤ dr (rmS xs ds pr xs.length) (rmA xs ds pr xs.length) ∧ dr (rmS xs ds pr xs.length) (rmA xs ds pr xs.length) ≤ pr := by
  have h0 : sbC xs ds pr = 0 := by
    apply Classical.byContradiction; intro hn
    rw [rmC_c hn] at h; exact hn h
  have hok := sbC_ok h0
  have h1 : (∀ j, j < xs.length → pfj xs ds pr j ≤ 100000) ∧ ¬ rmA xs ds pr xs.length = 0 := by
    apply Classical.byContradiction; intro hn
    rw [rmC_6 h0 hn] at h; omega
  have hb := rm_bd hok xs.length (Nat.le_refl _) h1.1
  have hl := rm_le hok xs.length (Nat.le_refl _) h1.1
  exact ⟨dr_nonneg (by omega) hb.1.1, dr_le (by omega) hb.1.1 hl⟩
theorem ixs_mem {p : Nat → Prop} [DecidablePred p] {i : Nat} : ∀ n : Nat, ((i : Int) ∈ ixs p n ↔ i < n ∧ p i)
  | 0 => by simp [ixs]
  | n + 1 => by
    have ih := ixs_mem (p := p) (i := i) n
    by_cases h : p n
    · rw [ixs_T h, List.mem_append, ih]
      constructor
      · rintro (⟨a, b⟩ | a)
        · exact ⟨by omega, b⟩
        · have : i = n := by simp at a; omega
          subst this; exact ⟨by omega, h⟩
      · rintro ⟨a, b⟩
        by_cases e : i = n
        · right; subst e; simp
        · left; exact ⟨by omega, b⟩
    · rw [ixs_F h, ih]
      constructor
      · rintro ⟨a, b⟩; exact ⟨by omega, b⟩
      · rintro ⟨a, b⟩
        by_cases e : i = n
        · subst e; exact absurd b h
        · exact ⟨by omega, b⟩
theorem ixs_lt {p : Nat → Prop} [DecidablePred p] : ∀ n : Nat, 0 < (ixs p n).length → ∃ j, j < n ∧ p j
  | 0, h => by simp [ixs] at h
  | n + 1, h => by
    by_cases hp : p n
    · exact ⟨n, by omega, hp⟩
    · rw [ixs_F hp] at h
      obtain ⟨j, a, b⟩ := ixs_lt n h
      exact ⟨j, by omega, b⟩
theorem wk_law {xs : List Sb} {ds : List Int} {pr : Int} : (¬ sbC xs ds pr = 0 → rmC xs ds pr = sbC xs ds pr ∧ (wkL xs ds pr).length = 0) ∧ (sbC xs ds pr = 0 → 0 < (wkL xs ds pr).length → rmC xs ds pr = 6) := by
  refine ⟨fun h => ⟨rmC_c h, by rw [wkL_no h]; rfl⟩, fun h hw => ?_⟩
  rw [wkL_ok h] at hw
  obtain ⟨j, a, b⟩ := ixs_lt _ hw
  refine rmC_6 h (fun hn => ?_)
  have := hn.1 j a
  unfold wkP at b; omega
theorem wk_mem {xs : List Sb} {ds : List Int} {pr : Int} {i : Nat} {x : Sb} {l : Int} (h : sbC xs ds pr = 0) (hx : xs[i]? = some x) (hl : ds[i]? = some l) : ((i : Int) ∈ wkL xs ds pr ↔ 100000 < pfP x.tr x.su x.re pr l) := by
  have hi := (List.getElem?_eq_some_iff.1 hx).1
  rw [wkL_ok h, ixs_mem]
  unfold wkP
  rw [pfj_eq hx hl]
  exact ⟨fun h => h.2, fun h => ⟨hi, h⟩⟩
theorem fO25_0 : fOff Tryz.prog 25 0 = some 0 := by kernel_rfl
theorem fO25_1 : fOff Tryz.prog 25 1 = some 1 := by kernel_rfl
theorem fO25_2 : fOff Tryz.prog 25 2 = some 2 := by kernel_rfl
theorem fO25_3 : fOff Tryz.prog 25 3 = some 3 := by kernel_rfl
theorem fO25_4 : fOff Tryz.prog 25 4 = some 4 := by kernel_rfl
theorem fO91_0 : fOff Tryz.prog 91 0 = some 0 := by kernel_rfl
theorem fO91_1 : fOff Tryz.prog 91 1 = some 1 := by kernel_rfl
theorem fO91_2 : fOff Tryz.prog 91 2 = some 2 := by kernel_rfl
theorem hmix : Tryz.prog.follows .mixedOrders = true := by kernel_rfl
theorem pl25 : placesA Tryz.prog 25 = some [(0, 1), (1, 1), (2, 1), (3, 1), (4, 1)] := by kernel_rfl
theorem pl91 : placesA Tryz.prog 91 = some [(0, 1), (1, 1), (2, 1)] := by kernel_rfl
theorem sz2 : tSz Tryz.prog 2 = some 1 := by kernel_rfl
theorem sz25 : tSz Tryz.prog 25 = some 5 := by kernel_rfl
theorem sz3 : tSz Tryz.prog 3 = some 1 := by kernel_rfl
theorem sz89 : tSz Tryz.prog 89 = some 1 := by kernel_rfl
theorem tA2 : tAgg Tryz.prog 2 = some none := by kernel_rfl
theorem tA22 : tAgg Tryz.prog 22 = some none := by kernel_rfl
theorem tA25 : tAgg Tryz.prog 25 = some (some 5) := by kernel_rfl
theorem tA3 : tAgg Tryz.prog 3 = some none := by kernel_rfl
theorem tA5 : tAgg Tryz.prog 5 = some none := by kernel_rfl
theorem tA65 : tAgg Tryz.prog 65 = some none := by kernel_rfl
theorem tA89 : tAgg Tryz.prog 89 = some none := by kernel_rfl
theorem tA9 : tAgg Tryz.prog 9 = some none := by kernel_rfl
theorem tApp35 : tApp Tryz.prog 35 = some (25, 5, 48) := by kernel_rfl
theorem tApp36 : tApp Tryz.prog 36 = some (2, 1, 8) := by kernel_rfl
theorem tApp80 : tApp Tryz.prog 80 = some (9, 1, 16) := by kernel_rfl
theorem tB4 : tIsBool Tryz.prog 4 = true := by kernel_rfl
theorem tBy2 : tBytes Tryz.prog 2 = some 8 := by kernel_rfl
theorem tBy9 : tBytes Tryz.prog 9 = some 16 := by kernel_rfl
theorem tByS22 : tIsBytes Tryz.prog 22 = true := by kernel_rfl
theorem tE22 : tElem Tryz.prog 22 = some (5, 1) := by kernel_rfl
theorem tE35 : tElem Tryz.prog 35 = some (25, 5) := by kernel_rfl
theorem tE36 : tElem Tryz.prog 36 = some (2, 1) := by kernel_rfl
theorem tE80 : tElem Tryz.prog 80 = some (9, 1) := by kernel_rfl
theorem tEq25 : tEq Tryz.prog 25 = some [1, 0, 0, 0, 0] := by kernel_rfl
theorem tEs22 : (tElem Tryz.prog 22).isSome = true := by kernel_rfl
theorem tEs35 : (tElem Tryz.prog 35).isSome = true := by kernel_rfl
theorem tEs36 : (tElem Tryz.prog 36).isSome = true := by kernel_rfl
theorem tEs80 : (tElem Tryz.prog 80).isSome = true := by kernel_rfl
theorem tIf109 : tIfc Tryz.prog 109 = true := by kernel_rfl
theorem tK130 : tKind Tryz.prog 130 = some .u64 := by kernel_rfl
theorem tK2 : tKind Tryz.prog 2 = some .i64 := by kernel_rfl
theorem tK3 : tKind Tryz.prog 3 = some .i64 := by kernel_rfl
theorem tK5 : tKind Tryz.prog 5 = some .u8 := by kernel_rfl
theorem tK89 : tKind Tryz.prog 89 = some .u64 := by kernel_rfl
theorem tStr9 : tIsStr Tryz.prog 9 = true := by kernel_rfl
theorem zA2 : zeroA Tryz.prog 2 = some [.s (.int .i64 0)] := by kernel_rfl
theorem zA25 : zeroA Tryz.prog 25 = some [.s (.string ⟨#[]⟩), .s (.int .i64 0), .s (.int .i64 0), .s (.int .i64 0), .s (.int .i64 0)] := by kernel_rfl
theorem zA5 : zeroA Tryz.prog 5 = some [.s (.int .u8 0)] := by kernel_rfl
theorem zA9 : zeroA Tryz.prog 9 = some [.s (.string ⟨#[]⟩)] := by kernel_rfl
theorem zA91 : zeroA Tryz.prog 91 = some [.nil, .s (.int .i64 0), .s (.int .u64 0)] := by kernel_rfl

-- impl.within
set_option maxRecDepth 20000 in
set_option maxHeartbeats 2000000 in
theorem D_impl_within (a lo hi : Int)  : Den Tryz.prog 40 [.s (.int .i64 a), .s (.int .i64 lo), .s (.int .i64 hi)] (.s (.bool (decide (lo ≤ a ∧ a ≤ hi)))) := by
  refine den_of_good Tryz.func40 (by decide) rfl (Nat.le_of_ble_eq_true rfl) (Nat.le_of_ble_eq_true rfl) ?_
  refine good_seq fun K1 hK1 => ?_
  refine good_region rfl ?_
  refine ev_q rfl (q_assign (by conv => lhs; whnf) ?_)
  refine ev_nil (hK1 _ ?_); clear hK1
  refine good_seq fun K2 hK2 => ?_
  refine good_region rfl ?_
  refine ev_q rfl (q_move (by conv => lhs; whnf) ?_)
  refine ev_q rfl (q_move (by conv => lhs; whnf) ?_)
  refine ev_q rfl (q_int rfl rfl ?_)
  intro b3 hb3; cases b3
  · replace hb3 := dF hb3
    refine ev_q rfl (q_move (by conv => lhs; whnf) ?_)
    refine ev_skip rfl ?_
    refine ev_skip rfl ?_
    refine ev_skip rfl ?_
    refine ev_q rfl (q_pickF rfl (by conv => lhs; whnf) ?_)
    refine ev_q rfl (q_assign (by conv => lhs; whnf) ?_)
    refine ev_nil (hK2 _ ?_); clear hK2
    refine good_ret ?_
    repeat (first | refine thenQ_ret ?_ | refine blockQ_ret ?_)
    refine ret_tmp (st := _) rfl (by conv => lhs; whnf) rfl ?_
    first | rfl | exact fT (by first | omega | grind) | exact fF (by first | omega | grind) | exact fT' (by first | omega | grind) | (exfalso; first | omega | grind)
  · replace hb3 := dT hb3
    refine ev_q rfl (q_move (by conv => lhs; whnf) ?_)
    refine ev_q rfl (q_move (by conv => lhs; whnf) ?_)
    refine ev_q rfl (q_move (by conv => lhs; whnf) ?_)
    refine ev_q rfl (q_int rfl rfl ?_)
    intro b4 hb4; cases b4
    · replace hb4 := dF hb4
      refine ev_q rfl (q_pickT rfl (by conv => lhs; whnf) ?_)
      refine ev_q rfl (q_assign (by conv => lhs; whnf) ?_)
      refine ev_nil (hK2 _ ?_); clear hK2
      refine good_ret ?_
      repeat (first | refine thenQ_ret ?_ | refine blockQ_ret ?_)
      refine ret_tmp (st := _) rfl (by conv => lhs; whnf) rfl ?_
      first | rfl | exact fT (by first | omega | grind) | exact fF (by first | omega | grind) | exact fT' (by first | omega | grind) | (exfalso; first | omega | grind)
    · replace hb4 := dT hb4
      refine ev_q rfl (q_pickT rfl (by conv => lhs; whnf) ?_)
      refine ev_q rfl (q_assign (by conv => lhs; whnf) ?_)
      refine ev_nil (hK2 _ ?_); clear hK2
      refine good_ret ?_
      repeat (first | refine thenQ_ret ?_ | refine blockQ_ret ?_)
      refine ret_tmp (st := _) rfl (by conv => lhs; whnf) rfl ?_
      first | rfl | exact fT (by first | omega | grind) | exact fF (by first | omega | grind) | exact fT' (by first | omega | grind) | (exfalso; first | omega | grind)

-- spec.l00In
set_option maxRecDepth 20000 in
set_option maxHeartbeats 2000000 in
theorem D_spec_l00In (a lo hi : Int)  : Den Tryz.prog 45 [.s (.int .i64 a), .s (.int .i64 lo), .s (.int .i64 hi)] (.s (.bool (decide (lo ≤ a ∧ a ≤ hi)))) := by
  refine den_of_good Tryz.func45 (by decide) rfl (Nat.le_of_ble_eq_true rfl) (Nat.le_of_ble_eq_true rfl) ?_
  refine good_seq fun K1 hK1 => ?_
  refine good_region rfl ?_
  refine ev_q rfl (q_assign (by conv => lhs; whnf) ?_)
  refine ev_nil (hK1 _ ?_); clear hK1
  refine good_seq fun K2 hK2 => ?_
  refine good_region rfl ?_
  refine ev_q rfl (q_move (by conv => lhs; whnf) ?_)
  refine ev_q rfl (q_move (by conv => lhs; whnf) ?_)
  refine ev_q rfl (q_int rfl rfl ?_)
  intro b3 hb3; cases b3
  · replace hb3 := dF hb3
    refine ev_q rfl (q_move (by conv => lhs; whnf) ?_)
    refine ev_skip rfl ?_
    refine ev_skip rfl ?_
    refine ev_skip rfl ?_
    refine ev_q rfl (q_pickF rfl (by conv => lhs; whnf) ?_)
    refine ev_q rfl (q_assign (by conv => lhs; whnf) ?_)
    refine ev_nil (hK2 _ ?_); clear hK2
    refine good_ret ?_
    repeat (first | refine thenQ_ret ?_ | refine blockQ_ret ?_)
    refine ret_tmp (st := _) rfl (by conv => lhs; whnf) rfl ?_
    first | rfl | exact fT (by first | omega | grind) | exact fF (by first | omega | grind) | exact fT' (by first | omega | grind) | (exfalso; first | omega | grind)
  · replace hb3 := dT hb3
    refine ev_q rfl (q_move (by conv => lhs; whnf) ?_)
    refine ev_q rfl (q_move (by conv => lhs; whnf) ?_)
    refine ev_q rfl (q_move (by conv => lhs; whnf) ?_)
    refine ev_q rfl (q_int rfl rfl ?_)
    intro b4 hb4; cases b4
    · replace hb4 := dF hb4
      refine ev_q rfl (q_pickT rfl (by conv => lhs; whnf) ?_)
      refine ev_q rfl (q_assign (by conv => lhs; whnf) ?_)
      refine ev_nil (hK2 _ ?_); clear hK2
      refine good_ret ?_
      repeat (first | refine thenQ_ret ?_ | refine blockQ_ret ?_)
      refine ret_tmp (st := _) rfl (by conv => lhs; whnf) rfl ?_
      first | rfl | exact fT (by first | omega | grind) | exact fF (by first | omega | grind) | exact fT' (by first | omega | grind) | (exfalso; first | omega | grind)
    · replace hb4 := dT hb4
      refine ev_q rfl (q_pickT rfl (by conv => lhs; whnf) ?_)
      refine ev_q rfl (q_assign (by conv => lhs; whnf) ?_)
      refine ev_nil (hK2 _ ?_); clear hK2
      refine good_ret ?_
      repeat (first | refine thenQ_ret ?_ | refine blockQ_ret ?_)
      refine ret_tmp (st := _) rfl (by conv => lhs; whnf) rfl ?_
      first | rfl | exact fT (by first | omega | grind) | exact fF (by first | omega | grind) | exact fT' (by first | omega | grind) | (exfalso; first | omega | grind)

theorem D_fmt (n : Int) (h : inI n) : Den Tryz.prog 99 [.s (.int .i64 n), .s (.int .i64 10)] (.s (.string (dec n))) := by
  obtain ⟨g, hg⟩ := Option.isSome_iff_exists.1 (show (Tryz.prog.globalNamed "internal/strconv.uint64pow10").isSome = true by kernel_rfl)
  exact den_fmt ⟨_, Tryz.func99, rfl, rfl⟩ hg (fun n h0 h1 w ht => Tryz.strconv_FormatInt_10 n h0 h1 w ht) n h.1 h.2

theorem D_joinI (L : List Int) (hl : L.length ≤ 1000000) (hi : ∀ x ∈ L, inI x) : Den Tryz.prog 68 [.lst 1 (L.map dAV), .s (.string ⟨#[44]⟩)] (.s (.string (tx (ltx L)))) := by
  have e : (L.map dec).map stA = L.map dAV := by rw [List.map_map]; rfl
  have e2 : (L.map dec).map (fun b : ByteArray => b.data.toList) = L.map Lib.itoa := by rw [List.map_map]; exact List.map_congr_left fun n _ => by simp [dec, tx_data]
  have hlen := ltx_len hi (i := L.length) (Nat.le_refl _)
  rw [List.take_length] at hlen
  have h := den_join ⟨_, Tryz.func68, rfl, rfl⟩ Tryz.strings_Join_none Tryz.strings_Join (L.map dec) ⟨#[44]⟩ (by rw [List.length_map]; omega) (by rw [e2]; show (ltx L).length ≤ _; omega)
  rw [e, e2] at h
  exact h

-- impl.Decimal
set_option maxRecDepth 20000 in
set_option maxHeartbeats 2000000 in
theorem D_impl_Decimal (n : Int) (h : inI n) : Den Tryz.prog 67 [.s (.int .i64 n)] (.s (.string (dec n))) := by
  refine den_of_good Tryz.func67 (by decide) rfl (Nat.le_of_ble_eq_true rfl) (Nat.le_of_ble_eq_true rfl) ?_
  refine good_seq fun K1 hK1 => ?_
  refine good_region rfl ?_
  refine ev_q rfl (q_assign (by conv => lhs; whnf) ?_)
  refine ev_nil (hK1 _ ?_); clear hK1
  refine good_seq fun K2 hK2 => ?_
  refine good_region rfl ?_
  refine ev_q rfl (q_move (by conv => lhs; whnf) ?_)
  refine ev_q rfl (q_call rfl rfl (rfl) (D_fmt n h) rfl ?_)
  refine ev_q rfl (q_assign (by conv => lhs; whnf) ?_)
  refine ev_nil (hK2 _ ?_); clear hK2
  refine good_ret ?_
  repeat (first | refine thenQ_ret ?_ | refine blockQ_ret ?_)
  refine ret_tmp (st := _) rfl (by conv => lhs; whnf) rfl ?_
  rfl

-- impl.ListText
set_option maxRecDepth 20000 in
set_option maxHeartbeats 2000000 in
theorem D_impl_ListText (xs : List Int) (hx : xs.length ≤ 17592186044416) : Den Tryz.prog 82 [.lst 1 (xs.map ci)] (.s (.string (lt xs))) := by
  refine den_of_good Tryz.func82 (by decide) rfl (Nat.le_of_ble_eq_true rfl) (Nat.le_of_ble_eq_true rfl) ?_
  refine good_seq fun K1 hK1 => ?_
  refine good_region rfl ?_
  refine ev_q rfl (q_assign (by conv => lhs; whnf) ?_)
  refine ev_nil (hK1 _ ?_); clear hK1
  refine good_seq fun K2 hK2 => ?_
  refine good_seq fun K3 hK3 => ?_
  refine good_region rfl ?_
  refine ev_q rfl (q_move (by conv => lhs; whnf) ?_)
  refine ev_q rfl (q_len tEs36 rfl ?_)
  intro n4 hn4
  try simp only [List.length_map] at hn4
  refine ev_q rfl (q_int rfl rfl ?_)
  intro b5 hb5; cases b5
  · replace hb5 := dF hb5
    refine ev_nil (hK3 _ ?_); clear hK3
    refine good_condF rfl ?_
    refine good_skip (hK2 _ ?_); clear hK2
    refine good_seq fun K6 hK6 => ?_
    refine good_seq fun K7 hK7 => ?_
    refine good_region rfl ?_
    refine ev_q rfl (q_move (by conv => lhs; whnf) ?_)
    refine ev_q rfl (q_len tEs36 rfl ?_)
    intro n8 hn8
    try simp only [List.length_map] at hn8
    refine ev_q rfl (q_int rfl rfl ?_)
    intro b9 hb9; cases b9
    · replace hb9 := eqF hb9
      refine ev_nil (hK7 _ ?_); clear hK7
      refine good_condF rfl ?_
      refine good_skip (hK6 _ ?_); clear hK6
      refine good_seq fun K10 hK10 => ?_
      refine good_region rfl ?_
      refine ev_q rfl (q_move (by conv => lhs; whnf) ?_)
      refine ev_q rfl (q_len tEs36 rfl ?_)
      intro n11 hn11
      try simp only [List.length_map] at hn11
      refine ev_k rfl (k_make2 tE80 rfl rfl zA9 tBy9 rfl (by omega) (by omega) (by omega) (by omega) rfl (by rfl) ?_)
      refine ev_q rfl (q_assign (by conv => lhs; whnf) ?_)
      refine ev_nil (hK10 _ ?_); clear hK10
      refine good_seq fun K12 hK12 => ?_
      refine good_seq fun K13 hK13 => ?_
      refine good_region rfl ?_
      refine ev_q rfl (q_move (by conv => lhs; whnf) ?_)
      refine ev_q rfl (q_len tEs36 rfl ?_)
      intro n14 hn14
      try simp only [List.length_map] at hn14
      refine ev_q rfl (q_move (by conv => lhs; whnf) ?_)
      refine ev_nil (hK13 _ ?_); clear hK13
      refine good_block ?_
      refine good_loop (α := Nat) (fun i => { env := upd (upd (upd (upd ((fun _ => .junk)) 3 (.own 28 (xs.take i).length)) 15 (.lst 1 (xs.map ci))) 16 (.s (.int .i64 ((xs.length : Int))))) 17 (.s (.int .i64 i)), H := upd ((fun _ => none)) 28 (some (.row 9 1 ((xs.take i).map dAV))) }) (fun i => i ≤ xs.length ∧ ∀ j q, j < i → xs[j]? = some q → -1000000000000 ≤ q ∧ q ≤ 1000000000000) (fun i => xs.length - i) 0 ?_ ?_ ?_
      · exact ⟨Nat.zero_le _, fun j u hj => by omega⟩
      · refine Sub.trans (sub_move 3 14 28 rfl rfl rfl (by decide)) ?_
        refine sub_weak ?_ ?_
        · exact weakH_row (rowEq (rfl)) (weakH_none _)
        · refine weakE_upd ?e17 ?r17 (weakE_upd ?e16 ?r16 (weakE_upd ?e15 ?r15 (weakE_upd ?e3 ?r3 (weakE_junk _ _))))
          case e3 => first | rfl | exact fI (by omega) | (first | rfl | (rw [hst]; exact ownEq (by simp)))
          case r3 => intro h hh; simp [refs] at hh; subst hh; rfl
          case e15 => first | rfl | exact fI (by omega) | (simp_all)
          case r15 => intro h hh; cases hh
          case e16 => first | rfl | exact fI (by omega) | (simp_all)
          case r16 => intro h hh; cases hh
          case e17 => first | rfl | exact fI (by omega) | (simp_all)
          case r17 => intro h hh; cases hh
      · rintro i ⟨hI, hJ⟩
        refine good_seq fun K15 hK15 => ?_
        refine good_region rfl ?_
        refine ev_q rfl (q_int rfl rfl ?_)
        intro b16 hb16; cases b16
        · replace hb16 := dF hb16
          obtain rfl : i = xs.length := by omega
          have hall : ∀ x ∈ xs, -1000000000000 ≤ x ∧ x ≤ 1000000000000 := fun x hx => by obtain ⟨j, hj⟩ := List.getElem?_of_mem hx; exact hJ j x (List.getElem?_eq_some_iff.1 hj).1 hj
          have hfl : fitsL xs := ⟨by omega, hall⟩
          have hne : xs ≠ [] := fun e => by have e2 := congrArg List.length e; rw [List.length_nil] at e2; omega
          refine ev_nil (hK15 _ ?_); clear hK15
          refine good_seq fun K17 hK17 => ?_
          refine good_condF rfl ?_
          refine good_exit ?_
          repeat (first | refine thenQ_exit ?_ | refine blockQ_pass rfl ?_)
          refine blockQ_exit (hK12 _ ?_); clear hK12
          refine good_seq fun K18 hK18 => ?_
          refine good_region rfl ?_
          refine ev_q rfl (q_move (by conv => lhs; whnf) ?_)
          refine ev_q rfl (q_call rfl rfl (by change ([.lst 1 (List.take (List.take xs.length xs).length ((List.take xs.length xs).map dAV)), .s (.string ⟨#[44]⟩)] : List AV) = _; simp only [takeMap, List.take_length]) (D_joinI xs (by omega) (fun x hx => by have := hall x hx; exact ⟨by omega, by omega⟩)) rfl ?_)
          refine ev_q rfl (q_assign (by conv => lhs; whnf) ?_)
          refine ev_nil (hK18 _ ?_); clear hK18
          refine good_ret ?_
          repeat (first | refine thenQ_ret ?_ | refine blockQ_ret ?_)
          refine ret_tmp (st := _) rfl (by conv => lhs; whnf) rfl ?_
          clear hK17
          first | exact fS (lt_no hnf).symm | exact fS (by subst h0; exact lt_0.symm) | exact fS (lt_ok hfl hne).symm
        · replace hb16 := dT hb16
          obtain ⟨q, hq⟩ := getL (xs := xs) (n := (i : Int)) (by omega) (by omega)
          replace hq : xs[i]? = some q := hq
          have hst := takeS hq
          refine ev_nil (hK15 _ ?_); clear hK15
          refine good_seq fun K19 hK19 => ?_
          refine good_condT rfl ?_
          refine good_skip (hK19 _ ?_); clear hK19
          refine good_seq fun K20 hK20 => ?_
          refine good_block ?_
          refine good_seq fun K21 hK21 => ?_
          refine good_region rfl ?_
          refine ev_q rfl (q_idx tE36 rfl rfl (by exact Int.natCast_nonneg _) (by exact map_get hq) rfl ?_)
          refine ev_q rfl (q_load tA2 rfl ?_)
          refine ev_q rfl (q_assign (by conv => lhs; whnf) ?_)
          refine ev_nil (hK21 _ ?_); clear hK21
          refine good_seq fun K22 hK22 => ?_
          refine good_seq fun K23 hK23 => ?_
          refine good_region rfl ?_
          refine ev_q rfl (q_move (by conv => lhs; whnf) ?_)
          refine ev_q rfl (q_callB rfl rfl (rfl) (D_impl_within ..) ?_)
          intro b24 hb24; cases b24
          · first | replace hb24 := dF hb24 | skip
            have hnf : ¬ fitsL xs := fun h => by have := h.2 q (List.mem_of_getElem? hq); omega
            refine ev_q rfl (q_not rfl rfl ?_)
            refine ev_nil (hK23 _ ?_); clear hK23
            refine good_condT rfl ?_
            refine good_seq fun K25 hK25 => ?_
            refine good_region rfl ?_
            refine ev_q rfl (q_assign (by conv => lhs; whnf) ?_)
            refine ev_nil (hK25 _ ?_); clear hK25
            refine good_ret ?_
            repeat (first | refine thenQ_ret ?_ | refine blockQ_ret ?_)
            refine ret_tmp (st := _) rfl (by conv => lhs; whnf) rfl ?_
            clear hK12 hK20 hK22
            first | exact fS (lt_no hnf).symm | exact fS (by subst h0; exact lt_0.symm) | exact fS (lt_ok hfl hne).symm
          · first | replace hb24 := dT hb24 | skip
            have hqb := hb24
            refine ev_q rfl (q_not rfl rfl ?_)
            refine ev_nil (hK23 _ ?_); clear hK23
            refine good_condF rfl ?_
            refine good_skip (hK22 _ ?_); clear hK22
            refine good_region rfl ?_
            refine ev_q rfl (q_move (by conv => lhs; whnf) ?_)
            refine ev_q rfl (q_move (by conv => lhs; whnf) ?_)
            refine ev_q rfl (q_call rfl rfl (rfl) (D_impl_Decimal q ⟨by omega, by omega⟩) rfl ?_)
            refine ev_k rfl (k_lit tE80 zA9 rfl rfl (by decide) (by decide) rfl rfl rfl ?_)
            refine ev_k rfl (k_app tApp80 rfl rfl (by simp) rfl (.inr rfl) (by simp [maxLen]; omega) (by simp; omega) ?_)
            refine ev_q rfl (q_assign (by conv => lhs; whnf) ?_)
            refine ev_nil (hK20 _ ?_); clear hK20
            refine good_region rfl ?_
            refine ev_q rfl (q_int rfl rfl ?_)
            intro n26 hn26
            replace hn26 := in64 hn26 (by omega) (by omega)
            refine ev_q rfl (q_move (by conv => lhs; whnf) ?_)
            refine ev_nil ?_
            clear hK12
            refine ⟨i + 1, ?_, ?_, ?_⟩
            · exact ⟨by omega, all_extI (Q := fun _ (q : Int) => -1000000000000 ≤ q ∧ q ≤ 1000000000000) hJ hq hqb⟩
            · first | omega | (simp only []; omega) | (dsimp only; omega)
            · refine sub_weak ?_ ?_
              · exact weakH_row (rowEq (appG hst rfl)) (weakH_none _)
              · refine weakE_upd ?e17 ?r17 (weakE_upd ?e16 ?r16 (weakE_upd ?e15 ?r15 (weakE_upd ?e3 ?r3 (weakE_junk _ _))))
                case e3 => first | rfl | exact fI (by omega) | (first | rfl | (rw [hst]; exact ownEq (by simp)))
                case r3 => intro h hh; simp [refs] at hh; subst hh; rfl
                case e15 => first | rfl | exact fI (by omega) | (simp_all)
                case r15 => intro h hh; cases hh
                case e16 => first | rfl | exact fI (by omega) | (simp_all)
                case r16 => intro h hh; cases hh
                case e17 => first | rfl | exact fI (by omega) | (simp_all)
                case r17 => intro h hh; cases hh
    · replace hb9 := eqT hb9
      have h0 : xs = [] := List.eq_nil_of_length_eq_zero (by omega)
      refine ev_nil (hK7 _ ?_); clear hK7
      refine good_condT rfl ?_
      refine good_seq fun K27 hK27 => ?_
      refine good_region rfl ?_
      refine ev_q rfl (q_assign (by conv => lhs; whnf) ?_)
      refine ev_nil (hK27 _ ?_); clear hK27
      refine good_ret ?_
      repeat (first | refine thenQ_ret ?_ | refine blockQ_ret ?_)
      refine ret_tmp (st := _) rfl (by conv => lhs; whnf) rfl ?_
      clear hK6
      first | exact fS (lt_no hnf).symm | exact fS (by subst h0; exact lt_0.symm) | exact fS (lt_ok hfl hne).symm
  · replace hb5 := dT hb5
    have hnf : ¬ fitsL xs := fun h => by have := h.1; omega
    refine ev_nil (hK3 _ ?_); clear hK3
    refine good_condT rfl ?_
    refine good_seq fun K28 hK28 => ?_
    refine good_region rfl ?_
    refine ev_q rfl (q_assign (by conv => lhs; whnf) ?_)
    refine ev_nil (hK28 _ ?_); clear hK28
    refine good_ret ?_
    repeat (first | refine thenQ_ret ?_ | refine blockQ_ret ?_)
    refine ret_tmp (st := _) rfl (by conv => lhs; whnf) rfl ?_
    clear hK2
    first | exact fS (lt_no hnf).symm | exact fS (by subst h0; exact lt_0.symm) | exact fS (lt_ok hfl hne).symm

-- impl.onlyNameBytes
set_option maxRecDepth 20000 in
set_option maxHeartbeats 2000000 in
theorem D_impl_onlyNameBytes (s : ByteArray) (hs : s.size ≤ 140737488351232) : Den Tryz.prog 105 [.s (.string s)] (.s (.bool (allNb s))) := by
  refine den_of_good Tryz.func105 (by decide) rfl (Nat.le_of_ble_eq_true rfl) (Nat.le_of_ble_eq_true rfl) ?_
  refine good_seq fun K1 hK1 => ?_
  refine good_region rfl ?_
  refine ev_q rfl (q_assign (by conv => lhs; whnf) ?_)
  refine ev_nil (hK1 _ ?_); clear hK1
  refine good_seq fun K2 hK2 => ?_
  refine good_seq fun K3 hK3 => ?_
  refine good_region rfl ?_
  refine ev_q rfl (q_move (by conv => lhs; whnf) ?_)
  refine ev_q rfl (q_lenS tStr9 rfl ?_)
  intro n4 hn4
  refine ev_q rfl (q_move (by conv => lhs; whnf) ?_)
  refine ev_nil (hK3 _ ?_); clear hK3
  refine good_block ?_
  refine good_loop (α := Nat) (fun i => { env := upd (upd (upd ((fun _ => .junk)) 0 (.s (.string s))) 6 (.s (.int .i64 (s.size)))) 7 (.s (.int .i64 i)), H := fun _ => none }) (fun i => i ≤ s.size ∧ ∀ j u, j < i → s[j]? = some u → nbc u = true) (fun i => s.size - i) 0 ?_ ?_ ?_
  · exact ⟨by omega, fun j u hj => by omega⟩
  · refine sub_weak ?_ ?_
    · exact weakH_none _
    · refine weakE_upd ?e7 ?r7 (weakE_upd ?e6 ?r6 (weakE_upd ?e0 ?r0 (weakE_junk _ _)))
      case e0 => first | rfl | exact fI (by omega) | (simp_all)
      case r0 => intro h hh; cases hh
      case e6 => first | rfl | exact fI (by omega) | (simp_all)
      case r6 => intro h hh; cases hh
      case e7 => first | rfl | exact fI (by omega) | (simp_all)
      case r7 => intro h hh; cases hh
  · rintro i ⟨hI, hJ⟩
    refine good_seq fun K5 hK5 => ?_
    refine good_region rfl ?_
    refine ev_q rfl (q_int rfl rfl ?_)
    intro b6 hb6; cases b6
    · replace hb6 := dF hb6
      refine ev_nil (hK5 _ ?_); clear hK5
      refine good_seq fun K7 hK7 => ?_
      refine good_condF rfl ?_
      refine good_exit ?_
      repeat (first | refine thenQ_exit ?_ | refine blockQ_pass rfl ?_)
      refine blockQ_exit (hK2 _ ?_); clear hK2
      refine good_seq fun K8 hK8 => ?_
      refine good_region rfl ?_
      refine ev_q rfl (q_assign (by conv => lhs; whnf) ?_)
      refine ev_nil (hK8 _ ?_); clear hK8
      refine good_ret ?_
      repeat (first | refine thenQ_ret ?_ | refine blockQ_ret ?_)
      refine ret_tmp (st := _) rfl (by conv => lhs; whnf) rfl ?_
      clear hK7
      first | exact fB (allNb_T (fun j u hj => hJ j u (by omega))).symm | exact fB (allNb_F hu (by simp only [nbc, small, digit]; grind)).symm
    · replace hb6 := dT hb6
      obtain ⟨u, hu⟩ := getB (s := s) (i := i) (by omega)
      refine ev_nil (hK5 _ ?_); clear hK5
      refine good_seq fun K9 hK9 => ?_
      refine good_condT rfl ?_
      refine good_skip (hK9 _ ?_); clear hK9
      refine good_seq fun K10 hK10 => ?_
      refine good_block ?_
      refine good_seq fun K11 hK11 => ?_
      refine good_region rfl ?_
      refine ev_q rfl (q_move (by conv => lhs; whnf) ?_)
      refine ev_q rfl (q_assign (by conv => lhs; whnf) ?_)
      refine ev_nil (hK11 _ ?_); clear hK11
      refine good_seq fun K12 hK12 => ?_
      refine good_region rfl ?_
      refine ev_q rfl (q_move (by conv => lhs; whnf) ?_)
      refine ev_q rfl (q_move (by conv => lhs; whnf) ?_)
      refine ev_q rfl (q_indexS tStr9 rfl rfl (by exact Int.natCast_nonneg _) (by exact hu) ?_)
      intro n13 hn13
      refine ev_q rfl (q_assign (by conv => lhs; whnf) ?_)
      refine ev_nil (hK12 _ ?_); clear hK12
      refine good_seq fun K14 hK14 => ?_
      refine good_region rfl ?_
      refine ev_q rfl (q_move (by conv => lhs; whnf) ?_)
      refine ev_q rfl (q_int rfl rfl ?_)
      intro b15 hb15; cases b15
      · replace hb15 := dF hb15
        refine ev_q rfl (q_move (by conv => lhs; whnf) ?_)
        refine ev_q rfl (q_move (by conv => lhs; whnf) ?_)
        refine ev_q rfl (q_int rfl rfl ?_)
        intro b16 hb16; cases b16
        · replace hb16 := dF hb16
          refine ev_q rfl (q_pickF rfl (by conv => lhs; whnf) ?_)
          refine ev_q rfl (q_move (by conv => lhs; whnf) ?_)
          refine ev_skip rfl ?_
          refine ev_skip rfl ?_
          refine ev_skip rfl ?_
          refine ev_skip rfl ?_
          refine ev_skip rfl ?_
          refine ev_skip rfl ?_
          refine ev_q rfl (q_pickF rfl (by conv => lhs; whnf) ?_)
          refine ev_nil (hK14 _ ?_); clear hK14
          refine good_condF rfl ?_
          refine good_skip (hK10 _ ?_); clear hK10
          refine good_region rfl ?_
          refine ev_q rfl (q_int rfl rfl ?_)
          intro n17 hn17
          replace hn17 := in64 hn17 (by omega) (by omega)
          refine ev_q rfl (q_move (by conv => lhs; whnf) ?_)
          refine ev_nil ?_
          clear hK2
          refine ⟨i + 1, ?_, ?_, ?_⟩
          · refine ⟨by omega, fun j v hj hv => ?_⟩
            by_cases hji : j = i
            · subst hji; rw [hu] at hv; cases hv; simp only [nbc, small, digit] at *; grind
            · exact hJ j v (by omega) hv
          · first | omega | (simp only []; omega) | (dsimp only; omega)
          · refine sub_weak ?_ ?_
            · exact weakH_none _
            · refine weakE_upd ?e7 ?r7 (weakE_upd ?e6 ?r6 (weakE_upd ?e0 ?r0 (weakE_junk _ _)))
              case e0 => first | rfl | exact fI (by omega) | (simp_all)
              case r0 => intro h hh; cases hh
              case e6 => first | rfl | exact fI (by omega) | (simp_all)
              case r6 => intro h hh; cases hh
              case e7 => first | rfl | exact fI (by omega) | (simp_all)
              case r7 => intro h hh; cases hh
        · replace hb16 := dT hb16
          refine ev_q rfl (q_pickF rfl (by conv => lhs; whnf) ?_)
          refine ev_q rfl (q_move (by conv => lhs; whnf) ?_)
          refine ev_q rfl (q_move (by conv => lhs; whnf) ?_)
          refine ev_q rfl (q_int rfl rfl ?_)
          intro b18 hb18; cases b18
          · replace hb18 := dF hb18
            refine ev_q rfl (q_move (by conv => lhs; whnf) ?_)
            refine ev_q rfl (q_move (by conv => lhs; whnf) ?_)
            refine ev_q rfl (q_int rfl rfl ?_)
            intro b19 hb19; cases b19
            · replace hb19 := dF hb19
              refine ev_q rfl (q_pickF rfl (by conv => lhs; whnf) ?_)
              refine ev_q rfl (q_pickT rfl (by conv => lhs; whnf) ?_)
              refine ev_nil (hK14 _ ?_); clear hK14
              refine good_condF rfl ?_
              refine good_skip (hK10 _ ?_); clear hK10
              refine good_region rfl ?_
              refine ev_q rfl (q_int rfl rfl ?_)
              intro n20 hn20
              replace hn20 := in64 hn20 (by omega) (by omega)
              refine ev_q rfl (q_move (by conv => lhs; whnf) ?_)
              refine ev_nil ?_
              clear hK2
              refine ⟨i + 1, ?_, ?_, ?_⟩
              · refine ⟨by omega, fun j v hj hv => ?_⟩
                by_cases hji : j = i
                · subst hji; rw [hu] at hv; cases hv; simp only [nbc, small, digit] at *; grind
                · exact hJ j v (by omega) hv
              · first | omega | (simp only []; omega) | (dsimp only; omega)
              · refine sub_weak ?_ ?_
                · exact weakH_none _
                · refine weakE_upd ?e7 ?r7 (weakE_upd ?e6 ?r6 (weakE_upd ?e0 ?r0 (weakE_junk _ _)))
                  case e0 => first | rfl | exact fI (by omega) | (simp_all)
                  case r0 => intro h hh; cases hh
                  case e6 => first | rfl | exact fI (by omega) | (simp_all)
                  case r6 => intro h hh; cases hh
                  case e7 => first | rfl | exact fI (by omega) | (simp_all)
                  case r7 => intro h hh; cases hh
            · replace hb19 := dT hb19
              refine ev_q rfl (q_pickF rfl (by conv => lhs; whnf) ?_)
              refine ev_q rfl (q_pickT rfl (by conv => lhs; whnf) ?_)
              refine ev_nil (hK14 _ ?_); clear hK14
              refine good_condT rfl ?_
              refine good_seq fun K21 hK21 => ?_
              refine good_region rfl ?_
              refine ev_q rfl (q_assign (by conv => lhs; whnf) ?_)
              refine ev_nil (hK21 _ ?_); clear hK21
              refine good_ret ?_
              repeat (first | refine thenQ_ret ?_ | refine blockQ_ret ?_)
              refine ret_tmp (st := _) rfl (by conv => lhs; whnf) rfl ?_
              clear hK2 hK10
              first | exact fB (allNb_T (fun j u hj => hJ j u (by omega))).symm | exact fB (allNb_F hu (by simp only [nbc, small, digit]; grind)).symm
          · replace hb18 := dT hb18
            refine ev_q rfl (q_move (by conv => lhs; whnf) ?_)
            refine ev_skip rfl ?_
            refine ev_skip rfl ?_
            refine ev_q rfl (q_pickT rfl (by conv => lhs; whnf) ?_)
            refine ev_q rfl (q_pickT rfl (by conv => lhs; whnf) ?_)
            refine ev_nil (hK14 _ ?_); clear hK14
            refine good_condT rfl ?_
            refine good_seq fun K22 hK22 => ?_
            refine good_region rfl ?_
            refine ev_q rfl (q_assign (by conv => lhs; whnf) ?_)
            refine ev_nil (hK22 _ ?_); clear hK22
            refine good_ret ?_
            repeat (first | refine thenQ_ret ?_ | refine blockQ_ret ?_)
            refine ret_tmp (st := _) rfl (by conv => lhs; whnf) rfl ?_
            clear hK2 hK10
            first | exact fB (allNb_T (fun j u hj => hJ j u (by omega))).symm | exact fB (allNb_F hu (by simp only [nbc, small, digit]; grind)).symm
      · replace hb15 := dT hb15
        refine ev_q rfl (q_move (by conv => lhs; whnf) ?_)
        refine ev_skip rfl ?_
        refine ev_skip rfl ?_
        refine ev_q rfl (q_pickT rfl (by conv => lhs; whnf) ?_)
        refine ev_q rfl (q_move (by conv => lhs; whnf) ?_)
        refine ev_q rfl (q_move (by conv => lhs; whnf) ?_)
        refine ev_q rfl (q_int rfl rfl ?_)
        intro b23 hb23; cases b23
        · replace hb23 := dF hb23
          refine ev_q rfl (q_move (by conv => lhs; whnf) ?_)
          refine ev_q rfl (q_move (by conv => lhs; whnf) ?_)
          refine ev_q rfl (q_int rfl rfl ?_)
          intro b24 hb24; cases b24
          · replace hb24 := dF hb24
            refine ev_q rfl (q_pickF rfl (by conv => lhs; whnf) ?_)
            refine ev_q rfl (q_pickT rfl (by conv => lhs; whnf) ?_)
            refine ev_nil (hK14 _ ?_); clear hK14
            refine good_condF rfl ?_
            refine good_skip (hK10 _ ?_); clear hK10
            refine good_region rfl ?_
            refine ev_q rfl (q_int rfl rfl ?_)
            intro n25 hn25
            replace hn25 := in64 hn25 (by omega) (by omega)
            refine ev_q rfl (q_move (by conv => lhs; whnf) ?_)
            refine ev_nil ?_
            clear hK2
            refine ⟨i + 1, ?_, ?_, ?_⟩
            · refine ⟨by omega, fun j v hj hv => ?_⟩
              by_cases hji : j = i
              · subst hji; rw [hu] at hv; cases hv; simp only [nbc, small, digit] at *; grind
              · exact hJ j v (by omega) hv
            · first | omega | (simp only []; omega) | (dsimp only; omega)
            · refine sub_weak ?_ ?_
              · exact weakH_none _
              · refine weakE_upd ?e7 ?r7 (weakE_upd ?e6 ?r6 (weakE_upd ?e0 ?r0 (weakE_junk _ _)))
                case e0 => first | rfl | exact fI (by omega) | (simp_all)
                case r0 => intro h hh; cases hh
                case e6 => first | rfl | exact fI (by omega) | (simp_all)
                case r6 => intro h hh; cases hh
                case e7 => first | rfl | exact fI (by omega) | (simp_all)
                case r7 => intro h hh; cases hh
          · replace hb24 := dT hb24
            refine ev_q rfl (q_pickF rfl (by conv => lhs; whnf) ?_)
            refine ev_q rfl (q_pickT rfl (by conv => lhs; whnf) ?_)
            refine ev_nil (hK14 _ ?_); clear hK14
            refine good_condT rfl ?_
            refine good_seq fun K26 hK26 => ?_
            refine good_region rfl ?_
            refine ev_q rfl (q_assign (by conv => lhs; whnf) ?_)
            refine ev_nil (hK26 _ ?_); clear hK26
            refine good_ret ?_
            repeat (first | refine thenQ_ret ?_ | refine blockQ_ret ?_)
            refine ret_tmp (st := _) rfl (by conv => lhs; whnf) rfl ?_
            clear hK2 hK10
            first | exact fB (allNb_T (fun j u hj => hJ j u (by omega))).symm | exact fB (allNb_F hu (by simp only [nbc, small, digit]; grind)).symm
        · replace hb23 := dT hb23
          refine ev_q rfl (q_move (by conv => lhs; whnf) ?_)
          refine ev_skip rfl ?_
          refine ev_skip rfl ?_
          refine ev_q rfl (q_pickT rfl (by conv => lhs; whnf) ?_)
          refine ev_q rfl (q_pickT rfl (by conv => lhs; whnf) ?_)
          refine ev_nil (hK14 _ ?_); clear hK14
          refine good_condT rfl ?_
          refine good_seq fun K27 hK27 => ?_
          refine good_region rfl ?_
          refine ev_q rfl (q_assign (by conv => lhs; whnf) ?_)
          refine ev_nil (hK27 _ ?_); clear hK27
          refine good_ret ?_
          repeat (first | refine thenQ_ret ?_ | refine blockQ_ret ?_)
          refine ret_tmp (st := _) rfl (by conv => lhs; whnf) rfl ?_
          clear hK2 hK10
          first | exact fB (allNb_T (fun j u hj => hJ j u (by omega))).symm | exact fB (allNb_F hu (by simp only [nbc, small, digit]; grind)).symm

-- impl.IsName
set_option maxRecDepth 20000 in
set_option maxHeartbeats 2000000 in
theorem D_impl_IsName (s : ByteArray) (hs : s.size ≤ 140737488351232) : Den Tryz.prog 76 [.s (.string s)] (.s (.bool (isName s))) := by
  refine den_of_good Tryz.func76 (by decide) rfl (Nat.le_of_ble_eq_true rfl) (Nat.le_of_ble_eq_true rfl) ?_
  refine good_seq fun K1 hK1 => ?_
  refine good_region rfl ?_
  refine ev_q rfl (q_assign (by conv => lhs; whnf) ?_)
  refine ev_nil (hK1 _ ?_); clear hK1
  refine good_seq fun K2 hK2 => ?_
  refine good_seq fun K3 hK3 => ?_
  refine good_region rfl ?_
  refine ev_q rfl (q_move (by conv => lhs; whnf) ?_)
  refine ev_q rfl (q_lenS tStr9 rfl ?_)
  intro n4 hn4
  refine ev_q rfl (q_int rfl rfl ?_)
  intro b5 hb5; cases b5
  · replace hb5 := dF hb5
    refine ev_q rfl (q_move (by conv => lhs; whnf) ?_)
    refine ev_q rfl (q_move (by conv => lhs; whnf) ?_)
    refine ev_q rfl (q_lenS tStr9 rfl ?_)
    intro n6 hn6
    refine ev_q rfl (q_int rfl rfl ?_)
    intro b7 hb7; cases b7
    · replace hb7 := dF hb7
      obtain ⟨u, hu⟩ := getB (s := s) (i := 0) (by omega)
      refine ev_q rfl (q_pickF rfl (by conv => lhs; whnf) ?_)
      refine ev_q rfl (q_move (by conv => lhs; whnf) ?_)
      refine ev_q rfl (q_move (by conv => lhs; whnf) ?_)
      refine ev_q rfl (q_indexS tStr9 rfl rfl (by decide) (by exact hu) ?_)
      intro n8 hn8
      refine ev_q rfl (q_int rfl rfl ?_)
      intro b9 hb9; cases b9
      · replace hb9 := dF hb9
        refine ev_q rfl (q_pickF rfl (by conv => lhs; whnf) ?_)
        refine ev_q rfl (q_move (by conv => lhs; whnf) ?_)
        refine ev_q rfl (q_move (by conv => lhs; whnf) ?_)
        refine ev_q rfl (q_indexS tStr9 rfl rfl (by decide) (by exact hu) ?_)
        intro n10 hn10
        refine ev_q rfl (q_int rfl rfl ?_)
        intro b11 hb11; cases b11
        · replace hb11 := dF hb11
          refine ev_q rfl (q_pickF rfl (by conv => lhs; whnf) ?_)
          refine ev_nil (hK3 _ ?_); clear hK3
          refine good_condF rfl ?_
          refine good_skip (hK2 _ ?_); clear hK2
          refine good_seq fun K12 hK12 => ?_
          refine good_region rfl ?_
          refine ev_q rfl (q_move (by conv => lhs; whnf) ?_)
          refine ev_q rfl (q_callB rfl rfl (rfl) (D_impl_onlyNameBytes _ hs) ?_)
          intro b13 hb13; cases b13
          · first | replace hb13 := dF hb13 | skip
            refine ev_q rfl (q_assign (by conv => lhs; whnf) ?_)
            refine ev_nil (hK12 _ ?_); clear hK12
            refine good_ret ?_
            repeat (first | refine thenQ_ret ?_ | refine blockQ_ret ?_)
            refine ret_tmp (st := _) rfl (by conv => lhs; whnf) rfl ?_
            first | exact fB (isName_none (by omega)).symm | exact fB (isName_long (by omega)).symm | exact fB (isName_head hu (by simp only [small]; grind)).symm | (exact fB (by rw [isName_eq (by omega) (by omega) hu (by simp only [small]; grind)]; grind))
          · first | replace hb13 := dT hb13 | skip
            refine ev_q rfl (q_assign (by conv => lhs; whnf) ?_)
            refine ev_nil (hK12 _ ?_); clear hK12
            refine good_ret ?_
            repeat (first | refine thenQ_ret ?_ | refine blockQ_ret ?_)
            refine ret_tmp (st := _) rfl (by conv => lhs; whnf) rfl ?_
            first | exact fB (isName_none (by omega)).symm | exact fB (isName_long (by omega)).symm | exact fB (isName_head hu (by simp only [small]; grind)).symm | (exact fB (by rw [isName_eq (by omega) (by omega) hu (by simp only [small]; grind)]; grind))
        · replace hb11 := dT hb11
          refine ev_q rfl (q_pickF rfl (by conv => lhs; whnf) ?_)
          refine ev_nil (hK3 _ ?_); clear hK3
          refine good_condT rfl ?_
          refine good_seq fun K14 hK14 => ?_
          refine good_region rfl ?_
          refine ev_q rfl (q_assign (by conv => lhs; whnf) ?_)
          refine ev_nil (hK14 _ ?_); clear hK14
          refine good_ret ?_
          repeat (first | refine thenQ_ret ?_ | refine blockQ_ret ?_)
          refine ret_tmp (st := _) rfl (by conv => lhs; whnf) rfl ?_
          clear hK2
          first | exact fB (isName_none (by omega)).symm | exact fB (isName_long (by omega)).symm | exact fB (isName_head hu (by simp only [small]; grind)).symm | (exact fB (by rw [isName_eq (by omega) (by omega) hu (by simp only [small]; grind)]; grind))
      · replace hb9 := dT hb9
        refine ev_q rfl (q_pickF rfl (by conv => lhs; whnf) ?_)
        refine ev_q rfl (q_move (by conv => lhs; whnf) ?_)
        refine ev_skip rfl ?_
        refine ev_skip rfl ?_
        refine ev_skip rfl ?_
        refine ev_q rfl (q_pickT rfl (by conv => lhs; whnf) ?_)
        refine ev_nil (hK3 _ ?_); clear hK3
        refine good_condT rfl ?_
        refine good_seq fun K15 hK15 => ?_
        refine good_region rfl ?_
        refine ev_q rfl (q_assign (by conv => lhs; whnf) ?_)
        refine ev_nil (hK15 _ ?_); clear hK15
        refine good_ret ?_
        repeat (first | refine thenQ_ret ?_ | refine blockQ_ret ?_)
        refine ret_tmp (st := _) rfl (by conv => lhs; whnf) rfl ?_
        clear hK2
        first | exact fB (isName_none (by omega)).symm | exact fB (isName_long (by omega)).symm | exact fB (isName_head hu (by simp only [small]; grind)).symm | (exact fB (by rw [isName_eq (by omega) (by omega) hu (by simp only [small]; grind)]; grind))
    · replace hb7 := dT hb7
      refine ev_q rfl (q_pickF rfl (by conv => lhs; whnf) ?_)
      refine ev_q rfl (q_move (by conv => lhs; whnf) ?_)
      refine ev_skip rfl ?_
      refine ev_skip rfl ?_
      refine ev_skip rfl ?_
      refine ev_q rfl (q_pickT rfl (by conv => lhs; whnf) ?_)
      refine ev_q rfl (q_move (by conv => lhs; whnf) ?_)
      refine ev_skip rfl ?_
      refine ev_skip rfl ?_
      refine ev_skip rfl ?_
      refine ev_q rfl (q_pickT rfl (by conv => lhs; whnf) ?_)
      refine ev_nil (hK3 _ ?_); clear hK3
      refine good_condT rfl ?_
      refine good_seq fun K16 hK16 => ?_
      refine good_region rfl ?_
      refine ev_q rfl (q_assign (by conv => lhs; whnf) ?_)
      refine ev_nil (hK16 _ ?_); clear hK16
      refine good_ret ?_
      repeat (first | refine thenQ_ret ?_ | refine blockQ_ret ?_)
      refine ret_tmp (st := _) rfl (by conv => lhs; whnf) rfl ?_
      clear hK2
      first | exact fB (isName_none (by omega)).symm | exact fB (isName_long (by omega)).symm | exact fB (isName_head hu (by simp only [small]; grind)).symm | (exact fB (by rw [isName_eq (by omega) (by omega) hu (by simp only [small]; grind)]; grind))
  · replace hb5 := dT hb5
    refine ev_q rfl (q_move (by conv => lhs; whnf) ?_)
    refine ev_skip rfl ?_
    refine ev_skip rfl ?_
    refine ev_skip rfl ?_
    refine ev_q rfl (q_pickT rfl (by conv => lhs; whnf) ?_)
    refine ev_q rfl (q_move (by conv => lhs; whnf) ?_)
    refine ev_skip rfl ?_
    refine ev_skip rfl ?_
    refine ev_skip rfl ?_
    refine ev_q rfl (q_pickT rfl (by conv => lhs; whnf) ?_)
    refine ev_q rfl (q_move (by conv => lhs; whnf) ?_)
    refine ev_skip rfl ?_
    refine ev_skip rfl ?_
    refine ev_skip rfl ?_
    refine ev_q rfl (q_pickT rfl (by conv => lhs; whnf) ?_)
    refine ev_nil (hK3 _ ?_); clear hK3
    refine good_condT rfl ?_
    refine good_seq fun K17 hK17 => ?_
    refine good_region rfl ?_
    refine ev_q rfl (q_assign (by conv => lhs; whnf) ?_)
    refine ev_nil (hK17 _ ?_); clear hK17
    refine good_ret ?_
    repeat (first | refine thenQ_ret ?_ | refine blockQ_ret ?_)
    refine ret_tmp (st := _) rfl (by conv => lhs; whnf) rfl ?_
    clear hK2
    first | exact fB (isName_none (by omega)).symm | exact fB (isName_long (by omega)).symm | exact fB (isName_head hu (by simp only [small]; grind)).symm | (exact fB (by rw [isName_eq (by omega) (by omega) hu (by simp only [small]; grind)]; grind))

-- impl.nodeOk
set_option maxRecDepth 20000 in
set_option maxHeartbeats 2000000 in
theorem D_impl_nodeOk (a : Int)  : Den Tryz.prog 77 [.s (.int .i64 a)] (.s (.bool (decide (0 ≤ a ∧ a ≤ 15)))) := by
  refine den_of_good Tryz.func77 (by decide) rfl (Nat.le_of_ble_eq_true rfl) (Nat.le_of_ble_eq_true rfl) ?_
  refine good_seq fun K1 hK1 => ?_
  refine good_region rfl ?_
  refine ev_q rfl (q_assign (by conv => lhs; whnf) ?_)
  refine ev_nil (hK1 _ ?_); clear hK1
  refine good_seq fun K2 hK2 => ?_
  refine good_region rfl ?_
  refine ev_q rfl (q_move (by conv => lhs; whnf) ?_)
  refine ev_q rfl (q_callB rfl rfl (rfl) (D_impl_within ..) ?_)
  intro b3 hb3; cases b3
  · first | replace hb3 := dF hb3 | skip
    refine ev_q rfl (q_assign (by conv => lhs; whnf) ?_)
    refine ev_nil (hK2 _ ?_); clear hK2
    refine good_ret ?_
    repeat (first | refine thenQ_ret ?_ | refine blockQ_ret ?_)
    refine ret_tmp (st := _) rfl (by conv => lhs; whnf) rfl ?_
    first | rfl | exact fT (by first | omega | grind) | exact fF (by first | omega | grind) | exact fT' (by first | omega | grind) | (exfalso; first | omega | grind)
  · first | replace hb3 := dT hb3 | skip
    refine ev_q rfl (q_assign (by conv => lhs; whnf) ?_)
    refine ev_nil (hK2 _ ?_); clear hK2
    refine good_ret ?_
    repeat (first | refine thenQ_ret ?_ | refine blockQ_ret ?_)
    refine ret_tmp (st := _) rfl (by conv => lhs; whnf) rfl ?_
    first | rfl | exact fT (by first | omega | grind) | exact fF (by first | omega | grind) | exact fT' (by first | omega | grind) | (exfalso; first | omega | grind)

-- impl.waterOk
set_option maxRecDepth 20000 in
set_option maxHeartbeats 2000000 in
theorem D_impl_waterOk (a : Int)  : Den Tryz.prog 39 [.s (.int .i64 a)] (.s (.bool (decide (0 ≤ a ∧ a ≤ 18000)))) := by
  refine den_of_good Tryz.func39 (by decide) rfl (Nat.le_of_ble_eq_true rfl) (Nat.le_of_ble_eq_true rfl) ?_
  refine good_seq fun K1 hK1 => ?_
  refine good_region rfl ?_
  refine ev_q rfl (q_assign (by conv => lhs; whnf) ?_)
  refine ev_nil (hK1 _ ?_); clear hK1
  refine good_seq fun K2 hK2 => ?_
  refine good_region rfl ?_
  refine ev_q rfl (q_move (by conv => lhs; whnf) ?_)
  refine ev_q rfl (q_callB rfl rfl (rfl) (D_impl_within ..) ?_)
  intro b3 hb3; cases b3
  · first | replace hb3 := dF hb3 | skip
    refine ev_q rfl (q_assign (by conv => lhs; whnf) ?_)
    refine ev_nil (hK2 _ ?_); clear hK2
    refine good_ret ?_
    repeat (first | refine thenQ_ret ?_ | refine blockQ_ret ?_)
    refine ret_tmp (st := _) rfl (by conv => lhs; whnf) rfl ?_
    first | rfl | exact fT (by first | omega | grind) | exact fF (by first | omega | grind) | exact fT' (by first | omega | grind) | (exfalso; first | omega | grind)
  · first | replace hb3 := dT hb3 | skip
    refine ev_q rfl (q_assign (by conv => lhs; whnf) ?_)
    refine ev_nil (hK2 _ ?_); clear hK2
    refine good_ret ?_
    repeat (first | refine thenQ_ret ?_ | refine blockQ_ret ?_)
    refine ret_tmp (st := _) rfl (by conv => lhs; whnf) rfl ?_
    first | rfl | exact fT (by first | omega | grind) | exact fF (by first | omega | grind) | exact fT' (by first | omega | grind) | (exfalso; first | omega | grind)

-- spec.l02Degrees
set_option maxRecDepth 20000 in
set_option maxHeartbeats 2000000 in
theorem D_spec_l02Degrees (a : Int)  : Den Tryz.prog 44 [.s (.int .i64 a)] (.s (.bool (decide (0 ≤ a ∧ a ≤ 18000)))) := by
  refine den_of_good Tryz.func44 (by decide) rfl (Nat.le_of_ble_eq_true rfl) (Nat.le_of_ble_eq_true rfl) ?_
  refine good_seq fun K1 hK1 => ?_
  refine good_region rfl ?_
  refine ev_q rfl (q_assign (by conv => lhs; whnf) ?_)
  refine ev_nil (hK1 _ ?_); clear hK1
  refine good_seq fun K2 hK2 => ?_
  refine good_region rfl ?_
  refine ev_q rfl (q_move (by conv => lhs; whnf) ?_)
  refine ev_q rfl (q_callB rfl rfl (rfl) (D_spec_l00In ..) ?_)
  intro b3 hb3; cases b3
  · first | replace hb3 := dF hb3 | skip
    refine ev_q rfl (q_assign (by conv => lhs; whnf) ?_)
    refine ev_nil (hK2 _ ?_); clear hK2
    refine good_ret ?_
    repeat (first | refine thenQ_ret ?_ | refine blockQ_ret ?_)
    refine ret_tmp (st := _) rfl (by conv => lhs; whnf) rfl ?_
    first | rfl | exact fT (by first | omega | grind) | exact fF (by first | omega | grind) | exact fT' (by first | omega | grind) | (exfalso; first | omega | grind)
  · first | replace hb3 := dT hb3 | skip
    refine ev_q rfl (q_assign (by conv => lhs; whnf) ?_)
    refine ev_nil (hK2 _ ?_); clear hK2
    refine good_ret ?_
    repeat (first | refine thenQ_ret ?_ | refine blockQ_ret ?_)
    refine ret_tmp (st := _) rfl (by conv => lhs; whnf) rfl ?_
    first | rfl | exact fT (by first | omega | grind) | exact fF (by first | omega | grind) | exact fT' (by first | omega | grind) | (exfalso; first | omega | grind)

-- impl.ValidSubstation
set_option maxRecDepth 20000 in
set_option maxHeartbeats 2000000 in
theorem D_impl_ValidSubstation (s : ByteArray) (nd tr su re : Int) (hs : s.size ≤ 140737488351232) : Den Tryz.prog 38 [.agg [.s (.string s), .s (.int .i64 nd), .s (.int .i64 tr), .s (.int .i64 su), .s (.int .i64 re)]] (.s (.bool (decide (isName s = true ∧ (0 ≤ nd ∧ nd ≤ 15) ∧ (1 ≤ tr ∧ tr ≤ 100000) ∧ (0 ≤ su ∧ su ≤ 18000) ∧ (0 ≤ re ∧ re ≤ su - 1))))) := by
  refine den_of_good Tryz.func38 (by decide) rfl (Nat.le_of_ble_eq_true rfl) (Nat.le_of_ble_eq_true rfl) ?_
  refine good_seq fun K1 hK1 => ?_
  refine good_region rfl ?_
  refine ev_k rfl (k_box (by conv => lhs; whnf) rfl rfl rfl ?_)
  refine ev_q rfl (q_assign (by conv => lhs; whnf) ?_)
  refine ev_nil (hK1 _ ?_); clear hK1
  refine good_seq fun K2 hK2 => ?_
  refine good_region rfl ?_
  refine ev_q rfl (q_fieldAddrP fO25_0 rfl rfl ?_)
  refine ev_q rfl (q_load tA9 rfl ?_)
  refine ev_q rfl (q_callB rfl rfl (rfl) (D_impl_IsName _ hs) ?_)
  intro b3 hb3; cases b3
  · first | replace hb3 := dF hb3 | skip
    refine ev_q rfl (q_move (by conv => lhs; whnf) ?_)
    refine ev_skip rfl ?_
    refine ev_skip rfl ?_
    refine ev_skip rfl ?_
    refine ev_q rfl (q_pickF rfl (by conv => lhs; whnf) ?_)
    refine ev_q rfl (q_move (by conv => lhs; whnf) ?_)
    refine ev_skip rfl ?_
    refine ev_skip rfl ?_
    refine ev_skip rfl ?_
    refine ev_q rfl (q_pickF rfl (by conv => lhs; whnf) ?_)
    refine ev_q rfl (q_move (by conv => lhs; whnf) ?_)
    refine ev_skip rfl ?_
    refine ev_skip rfl ?_
    refine ev_skip rfl ?_
    refine ev_q rfl (q_pickF rfl (by conv => lhs; whnf) ?_)
    refine ev_q rfl (q_move (by conv => lhs; whnf) ?_)
    refine ev_skip rfl ?_
    refine ev_skip rfl ?_
    refine ev_skip rfl ?_
    refine ev_skip rfl ?_
    refine ev_skip rfl ?_
    refine ev_skip rfl ?_
    refine ev_q rfl (q_pickF rfl (by conv => lhs; whnf) ?_)
    refine ev_q rfl (q_assign (by conv => lhs; whnf) ?_)
    refine ev_nil (hK2 _ ?_); clear hK2
    refine good_ret ?_
    repeat (first | refine thenQ_ret ?_ | refine blockQ_ret ?_)
    refine ret_tmp (st := _) rfl (by conv => lhs; whnf) rfl ?_
    first | rfl | exact fT (by first | omega | grind) | exact fF (by first | omega | grind) | exact fT' (by first | omega | grind) | (exfalso; first | omega | grind)
  · first | replace hb3 := dT hb3 | skip
    refine ev_q rfl (q_move (by conv => lhs; whnf) ?_)
    refine ev_q rfl (q_fieldAddrP fO25_1 rfl rfl ?_)
    refine ev_q rfl (q_load tA2 rfl ?_)
    refine ev_q rfl (q_callB rfl rfl (rfl) (D_impl_nodeOk ..) ?_)
    intro b4 hb4; cases b4
    · first | replace hb4 := dF hb4 | skip
      refine ev_q rfl (q_pickT rfl (by conv => lhs; whnf) ?_)
      refine ev_q rfl (q_move (by conv => lhs; whnf) ?_)
      refine ev_skip rfl ?_
      refine ev_skip rfl ?_
      refine ev_skip rfl ?_
      refine ev_q rfl (q_pickF rfl (by conv => lhs; whnf) ?_)
      refine ev_q rfl (q_move (by conv => lhs; whnf) ?_)
      refine ev_skip rfl ?_
      refine ev_skip rfl ?_
      refine ev_skip rfl ?_
      refine ev_q rfl (q_pickF rfl (by conv => lhs; whnf) ?_)
      refine ev_q rfl (q_move (by conv => lhs; whnf) ?_)
      refine ev_skip rfl ?_
      refine ev_skip rfl ?_
      refine ev_skip rfl ?_
      refine ev_skip rfl ?_
      refine ev_skip rfl ?_
      refine ev_skip rfl ?_
      refine ev_q rfl (q_pickF rfl (by conv => lhs; whnf) ?_)
      refine ev_q rfl (q_assign (by conv => lhs; whnf) ?_)
      refine ev_nil (hK2 _ ?_); clear hK2
      refine good_ret ?_
      repeat (first | refine thenQ_ret ?_ | refine blockQ_ret ?_)
      refine ret_tmp (st := _) rfl (by conv => lhs; whnf) rfl ?_
      first | rfl | exact fT (by first | omega | grind) | exact fF (by first | omega | grind) | exact fT' (by first | omega | grind) | (exfalso; first | omega | grind)
    · first | replace hb4 := dT hb4 | skip
      refine ev_q rfl (q_pickT rfl (by conv => lhs; whnf) ?_)
      refine ev_q rfl (q_move (by conv => lhs; whnf) ?_)
      refine ev_q rfl (q_fieldAddrP fO25_2 rfl rfl ?_)
      refine ev_q rfl (q_load tA2 rfl ?_)
      refine ev_q rfl (q_callB rfl rfl (rfl) (D_impl_within ..) ?_)
      intro b5 hb5; cases b5
      · first | replace hb5 := dF hb5 | skip
        refine ev_q rfl (q_pickT rfl (by conv => lhs; whnf) ?_)
        refine ev_q rfl (q_move (by conv => lhs; whnf) ?_)
        refine ev_skip rfl ?_
        refine ev_skip rfl ?_
        refine ev_skip rfl ?_
        refine ev_q rfl (q_pickF rfl (by conv => lhs; whnf) ?_)
        refine ev_q rfl (q_move (by conv => lhs; whnf) ?_)
        refine ev_skip rfl ?_
        refine ev_skip rfl ?_
        refine ev_skip rfl ?_
        refine ev_skip rfl ?_
        refine ev_skip rfl ?_
        refine ev_skip rfl ?_
        refine ev_q rfl (q_pickF rfl (by conv => lhs; whnf) ?_)
        refine ev_q rfl (q_assign (by conv => lhs; whnf) ?_)
        refine ev_nil (hK2 _ ?_); clear hK2
        refine good_ret ?_
        repeat (first | refine thenQ_ret ?_ | refine blockQ_ret ?_)
        refine ret_tmp (st := _) rfl (by conv => lhs; whnf) rfl ?_
        first | rfl | exact fT (by first | omega | grind) | exact fF (by first | omega | grind) | exact fT' (by first | omega | grind) | (exfalso; first | omega | grind)
      · first | replace hb5 := dT hb5 | skip
        refine ev_q rfl (q_pickT rfl (by conv => lhs; whnf) ?_)
        refine ev_q rfl (q_move (by conv => lhs; whnf) ?_)
        refine ev_q rfl (q_fieldAddrP fO25_3 rfl rfl ?_)
        refine ev_q rfl (q_load tA2 rfl ?_)
        refine ev_q rfl (q_callB rfl rfl (rfl) (D_impl_waterOk ..) ?_)
        intro b6 hb6; cases b6
        · first | replace hb6 := dF hb6 | skip
          refine ev_q rfl (q_pickT rfl (by conv => lhs; whnf) ?_)
          refine ev_q rfl (q_move (by conv => lhs; whnf) ?_)
          refine ev_skip rfl ?_
          refine ev_skip rfl ?_
          refine ev_skip rfl ?_
          refine ev_skip rfl ?_
          refine ev_skip rfl ?_
          refine ev_skip rfl ?_
          refine ev_q rfl (q_pickF rfl (by conv => lhs; whnf) ?_)
          refine ev_q rfl (q_assign (by conv => lhs; whnf) ?_)
          refine ev_nil (hK2 _ ?_); clear hK2
          refine good_ret ?_
          repeat (first | refine thenQ_ret ?_ | refine blockQ_ret ?_)
          refine ret_tmp (st := _) rfl (by conv => lhs; whnf) rfl ?_
          first | rfl | exact fT (by first | omega | grind) | exact fF (by first | omega | grind) | exact fT' (by first | omega | grind) | (exfalso; first | omega | grind)
        · first | replace hb6 := dT hb6 | skip
          refine ev_q rfl (q_pickT rfl (by conv => lhs; whnf) ?_)
          refine ev_q rfl (q_move (by conv => lhs; whnf) ?_)
          refine ev_q rfl (q_fieldAddrP fO25_4 rfl rfl ?_)
          refine ev_q rfl (q_load tA2 rfl ?_)
          refine ev_q rfl (q_fieldAddrP fO25_3 rfl rfl ?_)
          refine ev_q rfl (q_load tA2 rfl ?_)
          refine ev_q rfl (q_int rfl rfl ?_)
          intro n7 hn7
          replace hn7 := in64 hn7 (by omega) (by omega)
          refine ev_q rfl (q_callB rfl rfl (rfl) (D_impl_within ..) ?_)
          intro b8 hb8; cases b8
          · first | replace hb8 := dF hb8 | skip
            refine ev_q rfl (q_pickT rfl (by conv => lhs; whnf) ?_)
            refine ev_q rfl (q_assign (by conv => lhs; whnf) ?_)
            refine ev_nil (hK2 _ ?_); clear hK2
            refine good_ret ?_
            repeat (first | refine thenQ_ret ?_ | refine blockQ_ret ?_)
            refine ret_tmp (st := _) rfl (by conv => lhs; whnf) rfl ?_
            first | rfl | exact fT (by first | omega | grind) | exact fF (by first | omega | grind) | exact fT' (by first | omega | grind) | (exfalso; first | omega | grind)
          · first | replace hb8 := dT hb8 | skip
            refine ev_q rfl (q_pickT rfl (by conv => lhs; whnf) ?_)
            refine ev_q rfl (q_assign (by conv => lhs; whnf) ?_)
            refine ev_nil (hK2 _ ?_); clear hK2
            refine good_ret ?_
            repeat (first | refine thenQ_ret ?_ | refine blockQ_ret ?_)
            refine ret_tmp (st := _) rfl (by conv => lhs; whnf) rfl ?_
            first | rfl | exact fT (by first | omega | grind) | exact fF (by first | omega | grind) | exact fT' (by first | omega | grind) | (exfalso; first | omega | grind)

-- impl.allWithin$1
set_option maxRecDepth 20000 in
set_option maxHeartbeats 2000000 in
theorem D_impl_allWithin_1 (a lo hi : Int)  : Den Tryz.prog 107 [.s (.int .i64 a), .rp [.s (.int .i64 lo)], .rp [.s (.int .i64 hi)]] (.s (.bool (decide (¬ (lo ≤ a ∧ a ≤ hi))))) := by
  refine den_of_good Tryz.func107 (by decide) rfl (Nat.le_of_ble_eq_true rfl) (Nat.le_of_ble_eq_true rfl) ?_
  refine good_seq fun K1 hK1 => ?_
  refine good_region rfl ?_
  refine ev_q rfl (q_assign (by conv => lhs; whnf) ?_)
  refine ev_nil (hK1 _ ?_); clear hK1
  refine good_seq fun K2 hK2 => ?_
  refine good_region rfl ?_
  refine ev_q rfl (q_move (by conv => lhs; whnf) ?_)
  refine ev_q rfl (q_load tA2 rfl ?_)
  refine ev_q rfl (q_load tA2 rfl ?_)
  refine ev_q rfl (q_callB rfl rfl (rfl) (D_impl_within ..) ?_)
  intro b3 hb3; cases b3
  · first | replace hb3 := dF hb3 | skip
    refine ev_q rfl (q_not rfl rfl ?_)
    refine ev_q rfl (q_assign (by conv => lhs; whnf) ?_)
    refine ev_nil (hK2 _ ?_); clear hK2
    refine good_ret ?_
    repeat (first | refine thenQ_ret ?_ | refine blockQ_ret ?_)
    refine ret_tmp (st := _) rfl (by conv => lhs; whnf) rfl ?_
    first | rfl | exact fT (by first | omega | grind) | exact fF (by first | omega | grind) | exact fT' (by first | omega | grind) | (exfalso; first | omega | grind)
  · first | replace hb3 := dT hb3 | skip
    refine ev_q rfl (q_not rfl rfl ?_)
    refine ev_q rfl (q_assign (by conv => lhs; whnf) ?_)
    refine ev_nil (hK2 _ ?_); clear hK2
    refine good_ret ?_
    repeat (first | refine thenQ_ret ?_ | refine blockQ_ret ?_)
    refine ret_tmp (st := _) rfl (by conv => lhs; whnf) rfl ?_
    first | rfl | exact fT (by first | omega | grind) | exact fF (by first | omega | grind) | exact fT' (by first | omega | grind) | (exfalso; first | omega | grind)

-- slices.IndexFunc[[]int64,int64]
set_option maxRecDepth 20000 in
set_option maxHeartbeats 2000000 in
theorem D_slices_IndexFunc_int64_int64 (f : Nat) (caps : List AV) (p : Int → Prop) [DecidablePred p] (xs : List Int) (hx : xs.length ≤ 17592186044416) (hf : ∀ x ∈ xs, Den Tryz.prog f (.s (.int .i64 x) :: caps) (.s (.bool (decide (p x))))) : Den Tryz.prog 121 [.lst 1 (xs.map ci), .fn f caps] (.s (.int .i64 (fiM (fun x => decide (p x)) xs))) := by
  refine den_of_good Tryz.func121 (by decide) rfl (Nat.le_of_ble_eq_true rfl) (Nat.le_of_ble_eq_true rfl) ?_
  refine good_seq fun K1 hK1 => ?_
  refine good_region rfl ?_
  refine ev_q rfl (q_assign (by conv => lhs; whnf) ?_)
  refine ev_nil (hK1 _ ?_); clear hK1
  refine good_seq fun K2 hK2 => ?_
  refine good_seq fun K3 hK3 => ?_
  refine good_region rfl ?_
  refine ev_q rfl (q_move (by conv => lhs; whnf) ?_)
  refine ev_q rfl (q_len tEs36 rfl ?_)
  intro n4 hn4
  try simp only [List.length_map] at hn4
  refine ev_q rfl (q_move (by conv => lhs; whnf) ?_)
  refine ev_nil (hK3 _ ?_); clear hK3
  refine good_block ?_
  refine good_loop (α := Nat) (fun i => { env := upd (upd (upd (upd ((fun _ => .junk)) 0 (.lst 1 (xs.map ci))) 1 (.fn f caps)) 7 (.s (.int .i64 ((xs.length : Int))))) 8 (.s (.int .i64 i)), H := fun _ => none }) (fun i => i ≤ xs.length ∧ ∀ j q, j < i → xs[j]? = some q → ¬ p q) (fun i => xs.length - i) 0 ?_ ?_ ?_
  · exact ⟨by omega, fun j u hj => by omega⟩
  · refine sub_weak ?_ ?_
    · exact weakH_none _
    · refine weakE_upd ?e8 ?r8 (weakE_upd ?e7 ?r7 (weakE_upd ?e1 ?r1 (weakE_upd ?e0 ?r0 (weakE_junk _ _))))
      case e0 => first | rfl | exact fI (by omega) | (simp_all)
      case r0 => intro h hh; cases hh
      case e1 => first | rfl | exact fI (by omega) | (simp_all)
      case r1 => intro h hh; cases hh
      case e7 => first | rfl | exact fI (by omega) | (simp_all)
      case r7 => intro h hh; cases hh
      case e8 => first | rfl | exact fI (by omega) | (simp_all)
      case r8 => intro h hh; cases hh
  · rintro i ⟨hI, hJ⟩
    refine good_seq fun K5 hK5 => ?_
    refine good_region rfl ?_
    refine ev_q rfl (q_int rfl rfl ?_)
    intro b6 hb6; cases b6
    · replace hb6 := dF hb6
      refine ev_nil (hK5 _ ?_); clear hK5
      refine good_seq fun K7 hK7 => ?_
      refine good_condF rfl ?_
      refine good_exit ?_
      repeat (first | refine thenQ_exit ?_ | refine blockQ_pass rfl ?_)
      refine blockQ_exit (hK2 _ ?_); clear hK2
      refine good_seq fun K8 hK8 => ?_
      refine good_region rfl ?_
      refine ev_q rfl (q_assign (by conv => lhs; whnf) ?_)
      refine ev_nil (hK8 _ ?_); clear hK8
      refine good_ret ?_
      repeat (first | refine thenQ_ret ?_ | refine blockQ_ret ?_)
      refine ret_tmp (st := _) rfl (by conv => lhs; whnf) rfl ?_
      clear hK7
      first | exact fI (by have e := fi_some (i := i) hq hJ (by assumption); simp only [fiM, e]) | exact fI (by have e := fi_none (all_finI (Q := fun _ q => ¬ p q) hJ (by omega)); simp only [fiM, e])
    · replace hb6 := dT hb6
      obtain ⟨q, hq⟩ := getL (xs := xs) (n := (i : Int)) (by omega) (by omega)
      replace hq : xs[i]? = some q := hq
      refine ev_nil (hK5 _ ?_); clear hK5
      refine good_seq fun K9 hK9 => ?_
      refine good_condT rfl ?_
      refine good_skip (hK9 _ ?_); clear hK9
      refine good_seq fun K10 hK10 => ?_
      refine good_block ?_
      refine good_seq fun K11 hK11 => ?_
      refine good_region rfl ?_
      refine ev_q rfl (q_move (by conv => lhs; whnf) ?_)
      refine ev_q rfl (q_assign (by conv => lhs; whnf) ?_)
      refine ev_nil (hK11 _ ?_); clear hK11
      refine good_seq fun K12 hK12 => ?_
      refine good_region rfl ?_
      refine ev_q rfl (q_move (by conv => lhs; whnf) ?_)
      refine ev_q rfl (q_move (by conv => lhs; whnf) ?_)
      refine ev_q rfl (q_move (by conv => lhs; whnf) ?_)
      refine ev_q rfl (q_idx tE36 rfl rfl (by exact Int.natCast_nonneg _) (by exact map_get hq) rfl ?_)
      refine ev_q rfl (q_load tA2 rfl ?_)
      refine ev_q rfl (q_callB rfl rfl (rfl) (hf _ (List.mem_of_getElem? hq)) ?_)
      intro b13 hb13; cases b13
      · first | replace hb13 := dF hb13 | skip
        refine ev_nil (hK12 _ ?_); clear hK12
        refine good_condF rfl ?_
        refine good_skip (hK10 _ ?_); clear hK10
        refine good_region rfl ?_
        refine ev_q rfl (q_int rfl rfl ?_)
        intro n14 hn14
        replace hn14 := in64 hn14 (by omega) (by omega)
        refine ev_q rfl (q_move (by conv => lhs; whnf) ?_)
        refine ev_nil ?_
        clear hK2
        refine ⟨i + 1, ?_, ?_, ?_⟩
        · exact ⟨by omega, all_extI (Q := fun _ q => ¬ p q) hJ hq (by assumption)⟩
        · first | omega | (simp only []; omega) | (dsimp only; omega)
        · refine sub_weak ?_ ?_
          · exact weakH_none _
          · refine weakE_upd ?e8 ?r8 (weakE_upd ?e7 ?r7 (weakE_upd ?e1 ?r1 (weakE_upd ?e0 ?r0 (weakE_junk _ _))))
            case e0 => first | rfl | exact fI (by omega) | (simp_all)
            case r0 => intro h hh; cases hh
            case e1 => first | rfl | exact fI (by omega) | (simp_all)
            case r1 => intro h hh; cases hh
            case e7 => first | rfl | exact fI (by omega) | (simp_all)
            case r7 => intro h hh; cases hh
            case e8 => first | rfl | exact fI (by omega) | (simp_all)
            case r8 => intro h hh; cases hh
      · first | replace hb13 := dT hb13 | skip
        refine ev_nil (hK12 _ ?_); clear hK12
        refine good_condT rfl ?_
        refine good_seq fun K15 hK15 => ?_
        refine good_region rfl ?_
        refine ev_q rfl (q_move (by conv => lhs; whnf) ?_)
        refine ev_q rfl (q_assign (by conv => lhs; whnf) ?_)
        refine ev_nil (hK15 _ ?_); clear hK15
        refine good_ret ?_
        repeat (first | refine thenQ_ret ?_ | refine blockQ_ret ?_)
        refine ret_tmp (st := _) rfl (by conv => lhs; whnf) rfl ?_
        clear hK2 hK10
        first | exact fI (by have e := fi_some (i := i) hq hJ (by assumption); simp only [fiM, e]) | exact fI (by have e := fi_none (all_finI (Q := fun _ q => ¬ p q) hJ (by omega)); simp only [fiM, e])

-- slices.ContainsFunc[[]int64,int64]
set_option maxRecDepth 20000 in
set_option maxHeartbeats 2000000 in
theorem D_slices_ContainsFunc_int64_int64 (f : Nat) (caps : List AV) (p : Int → Prop) [DecidablePred p] (xs : List Int) [Decidable (∃ x ∈ xs, p x)] (hx : xs.length ≤ 17592186044416) (hf : ∀ x ∈ xs, Den Tryz.prog f (.s (.int .i64 x) :: caps) (.s (.bool (decide (p x))))) : Den Tryz.prog 106 [.lst 1 (xs.map ci), .fn f caps] (.s (.bool (decide (∃ x ∈ xs, p x)))) := by
  refine den_of_good Tryz.func106 (by decide) rfl (Nat.le_of_ble_eq_true rfl) (Nat.le_of_ble_eq_true rfl) ?_
  refine good_seq fun K1 hK1 => ?_
  refine good_region rfl ?_
  refine ev_q rfl (q_assign (by conv => lhs; whnf) ?_)
  refine ev_nil (hK1 _ ?_); clear hK1
  refine good_seq fun K2 hK2 => ?_
  refine good_region rfl ?_
  refine ev_q rfl (q_move (by conv => lhs; whnf) ?_)
  refine ev_q rfl (q_move (by conv => lhs; whnf) ?_)
  refine ev_q rfl (q_callI rfl rfl (rfl) (D_slices_IndexFunc_int64_int64 f caps p xs hx hf) ?_)
  intro n3 hn3
  refine ev_q rfl (q_int rfl rfl ?_)
  intro b4 hb4; cases b4
  · replace hb4 := dF hb4
    refine ev_q rfl (q_assign (by conv => lhs; whnf) ?_)
    refine ev_nil (hK2 _ ?_); clear hK2
    refine good_ret ?_
    repeat (first | refine thenQ_ret ?_ | refine blockQ_ret ?_)
    refine ret_tmp (st := _) rfl (by conv => lhs; whnf) rfl ?_
    first | exact fT (fi_any.1 (by omega)) | exact fF (fun h => absurd (fi_any.2 h) (by omega))
  · replace hb4 := dT hb4
    refine ev_q rfl (q_assign (by conv => lhs; whnf) ?_)
    refine ev_nil (hK2 _ ?_); clear hK2
    refine good_ret ?_
    repeat (first | refine thenQ_ret ?_ | refine blockQ_ret ?_)
    refine ret_tmp (st := _) rfl (by conv => lhs; whnf) rfl ?_
    first | exact fT (fi_any.1 (by omega)) | exact fF (fun h => absurd (fi_any.2 h) (by omega))

-- impl.allWithin
set_option maxRecDepth 20000 in
set_option maxHeartbeats 2000000 in
theorem D_impl_allWithin (xs : List Int) (lo hi : Int) (hx : xs.length ≤ 17592186044416) : Den Tryz.prog 86 [.lst 1 (xs.map ci), .s (.int .i64 lo), .s (.int .i64 hi)] (.s (.bool (decide (within xs lo hi)))) := by
  classical
  refine den_of_good Tryz.func86 (by decide) rfl (Nat.le_of_ble_eq_true rfl) (Nat.le_of_ble_eq_true rfl) ?_
  refine good_seq fun K1 hK1 => ?_
  refine good_region rfl ?_
  refine ev_k rfl (k_box (by conv => lhs; whnf) rfl rfl rfl ?_)
  refine ev_k rfl (k_box (by conv => lhs; whnf) rfl rfl rfl ?_)
  refine ev_q rfl (q_assign (by conv => lhs; whnf) ?_)
  refine ev_nil (hK1 _ ?_); clear hK1
  refine good_seq fun K2 hK2 => ?_
  refine good_region rfl ?_
  refine ev_q rfl (q_move (by conv => lhs; whnf) ?_)
  refine ev_q rfl (q_clo rfl rfl ?_)
  refine ev_q rfl (q_callB rfl rfl (rfl) (D_slices_ContainsFunc_int64_int64 _ _ (fun x => ¬ (lo ≤ x ∧ x ≤ hi)) xs hx (fun x _ => D_impl_allWithin_1 x lo hi)) ?_)
  intro b3 hb3; cases b3
  · first | replace hb3 := dF hb3 | skip
    refine ev_q rfl (q_not rfl rfl ?_)
    refine ev_q rfl (q_assign (by conv => lhs; whnf) ?_)
    refine ev_nil (hK2 _ ?_); clear hK2
    refine good_ret ?_
    repeat (first | refine thenQ_ret ?_ | refine blockQ_ret ?_)
    refine ret_tmp (st := _) rfl (by conv => lhs; whnf) rfl ?_
    first | exact fT (within_any.2 (by assumption)) | exact fF (fun h => absurd (within_any.1 h) (by simpa using ‹∃ x ∈ xs, ¬ (lo ≤ x ∧ x ≤ hi)›))
  · first | replace hb3 := dT hb3 | skip
    refine ev_q rfl (q_not rfl rfl ?_)
    refine ev_q rfl (q_assign (by conv => lhs; whnf) ?_)
    refine ev_nil (hK2 _ ?_); clear hK2
    refine good_ret ?_
    repeat (first | refine thenQ_ret ?_ | refine blockQ_ret ?_)
    refine ret_tmp (st := _) rfl (by conv => lhs; whnf) rfl ?_
    first | exact fT (within_any.2 (by assumption)) | exact fF (fun h => absurd (within_any.1 h) (by simpa using ‹∃ x ∈ xs, ¬ (lo ≤ x ∧ x ≤ hi)›))

-- impl.abs
set_option maxRecDepth 20000 in
set_option maxHeartbeats 2000000 in
theorem D_impl_abs (a : Int) (h : -9223372036854775807 ≤ a ∧ a ≤ 9223372036854775807) : Den Tryz.prog 89 [.s (.int .i64 a)] (.s (.int .i64 ((a.natAbs : Int)))) := by
  refine den_of_good Tryz.func89 (by decide) rfl (Nat.le_of_ble_eq_true rfl) (Nat.le_of_ble_eq_true rfl) ?_
  refine good_seq fun K1 hK1 => ?_
  refine good_region rfl ?_
  refine ev_q rfl (q_assign (by conv => lhs; whnf) ?_)
  refine ev_nil (hK1 _ ?_); clear hK1
  refine good_seq fun K2 hK2 => ?_
  refine good_region rfl ?_
  refine ev_q rfl (q_move (by conv => lhs; whnf) ?_)
  refine ev_q rfl (q_move (by conv => lhs; whnf) ?_)
  refine ev_q rfl (q_neg rfl ?_)
  intro n3 hn3
  replace hn3 := neg64 hn3 (by omega) (by omega)
  refine ev_q rfl (q_max rfl rfl ?_)
  intro n4 hn4; simp only [mxI, mnI] at hn4
  refine ev_q rfl (q_assign (by conv => lhs; whnf) ?_)
  refine ev_nil (hK2 _ ?_); clear hK2
  refine good_ret ?_
  repeat (first | refine thenQ_ret ?_ | refine blockQ_ret ?_)
  refine ret_tmp (st := _) rfl (by conv => lhs; whnf) rfl ?_
  first | rfl | exact fI (by first | omega | grind) | (exfalso; first | omega | grind)

-- impl.divRound
set_option maxRecDepth 20000 in
set_option maxHeartbeats 2000000 in
theorem D_impl_divRound (a b : Int) (ha : -4000000000000000000 ≤ a ∧ a ≤ 4000000000000000000) (hb : b ≠ 0 ∧ -1000000000000000000 ≤ b ∧ b ≤ 1000000000000000000) : Den Tryz.prog 53 [.s (.int .i64 a), .s (.int .i64 b)] (.s (.int .i64 (dr a b))) := by
  refine den_of_good Tryz.func53 (by decide) rfl (Nat.le_of_ble_eq_true rfl) (Nat.le_of_ble_eq_true rfl) ?_
  refine good_seq fun K1 hK1 => ?_
  refine good_region rfl ?_
  refine ev_q rfl (q_assign (by conv => lhs; whnf) ?_)
  refine ev_nil (hK1 _ ?_); clear hK1
  refine good_seq fun K2 hK2 => ?_
  refine good_draw 9 hmix (by kernel_rfl) rfl ?_
  refine qo_q rfl (q_move (by conv => lhs; whnf) ?_)
  refine qo_q rfl (q_move (by conv => lhs; whnf) ?_)
  refine qo_q rfl (q_int rfl rfl ⟨by omega, ?_⟩)
  intro n3 hn3
  replace hn3 := quoT hn3 (by omega) (by omega)
  have ht := tdiv_le (a := a) (b := b)
  rw [← hn3] at ht
  refine qo_q rfl (q_move (by conv => lhs; whnf) ?_)
  refine qo_q rfl (q_move (by conv => lhs; whnf) ?_)
  refine qo_q rfl (q_int rfl rfl ⟨by omega, ?_⟩)
  intro n4 hn4
  have hm := tmod_lt' (a := a) (b := b) (by omega)
  rw [← hn4] at hm
  refine qo_q rfl (q_callI rfl rfl (rfl) (D_impl_abs _ (by omega)) ?_)
  intro n5 hn5
  refine qo_q rfl (q_assign (by conv => lhs; whnf) ?_)
  refine qo_q rfl (q_assign (by conv => lhs; whnf) ?_)
  refine qo_nil ?_
  refine ev_nil (hK2 _ ?_); clear hK2
  refine good_seq fun K6 hK6 => ?_
  refine good_seq fun K7 hK7 => ?_
  refine good_region rfl ?_
  refine ev_q rfl (q_move (by conv => lhs; whnf) ?_)
  refine ev_q rfl (q_move (by conv => lhs; whnf) ?_)
  refine ev_q rfl (q_callI rfl rfl (rfl) (D_impl_abs _ (by omega)) ?_)
  intro n8 hn8
  refine ev_q rfl (q_move (by conv => lhs; whnf) ?_)
  refine ev_q rfl (q_int rfl rfl ?_)
  intro n9 hn9
  replace hn9 := in64 hn9 (by omega) (by omega)
  refine ev_q rfl (q_int rfl rfl ?_)
  intro b10 hb10; cases b10
  · replace hb10 := dF hb10
    refine ev_nil (hK7 _ ?_); clear hK7
    refine good_condF rfl ?_
    refine good_skip (hK6 _ ?_); clear hK6
    refine good_seq fun K11 hK11 => ?_
    refine good_region rfl ?_
    refine ev_q rfl (q_move (by conv => lhs; whnf) ?_)
    refine ev_q rfl (q_assign (by conv => lhs; whnf) ?_)
    refine ev_nil (hK11 _ ?_); clear hK11
    refine good_ret ?_
    repeat (first | refine thenQ_ret ?_ | refine blockQ_ret ?_)
    refine ret_tmp (st := _) rfl (by conv => lhs; whnf) rfl ?_
    exact fI (by rw [dr_eq (q := n3) (r := n5) (by omega) hn3 (by rw [hn5, hn4])]; first | (rw [if_neg (by omega)]) | (rw [if_pos (by omega)]; first | (rw [if_pos (decide_eq_decide.2 (by omega))]; omega) | (rw [if_neg (fun h => by have := decide_eq_decide.1 h; omega)]; omega)))
  · replace hb10 := dT hb10
    refine ev_nil (hK7 _ ?_); clear hK7
    refine good_condT rfl ?_
    refine good_seq fun K12 hK12 => ?_
    refine good_seq fun K13 hK13 => ?_
    refine good_region rfl ?_
    refine ev_q rfl (q_move (by conv => lhs; whnf) ?_)
    refine ev_q rfl (q_int rfl rfl ?_)
    intro b14 hb14; cases b14
    · replace hb14 := dF hb14
      refine ev_q rfl (q_move (by conv => lhs; whnf) ?_)
      refine ev_q rfl (q_int rfl rfl ?_)
      intro b15 hb15; cases b15
      · replace hb15 := dF hb15
        refine ev_q rfl (q_beq tB4 rfl rfl ?_)
        intro b16 hb16; replace hb16 : b16 = true := hb16; subst hb16
        refine ev_nil (hK13 _ ?_); clear hK13
        refine good_condT rfl ?_
        refine good_seq fun K17 hK17 => ?_
        refine good_region rfl ?_
        refine ev_q rfl (q_move (by conv => lhs; whnf) ?_)
        refine ev_q rfl (q_int rfl rfl ?_)
        intro n18 hn18
        replace hn18 := in64 hn18 (by omega) (by omega)
        refine ev_q rfl (q_assign (by conv => lhs; whnf) ?_)
        refine ev_nil (hK17 _ ?_); clear hK17
        refine good_ret ?_
        repeat (first | refine thenQ_ret ?_ | refine blockQ_ret ?_)
        refine ret_tmp (st := _) rfl (by conv => lhs; whnf) rfl ?_
        clear hK6 hK12
        exact fI (by rw [dr_eq (q := n3) (r := n5) (by omega) hn3 (by rw [hn5, hn4])]; first | (rw [if_neg (by omega)]) | (rw [if_pos (by omega)]; first | (rw [if_pos (decide_eq_decide.2 (by omega))]; omega) | (rw [if_neg (fun h => by have := decide_eq_decide.1 h; omega)]; omega)))
      · replace hb15 := dT hb15
        refine ev_q rfl (q_beq tB4 rfl rfl ?_)
        intro b19 hb19; replace hb19 : b19 = false := hb19; subst hb19
        refine ev_nil (hK13 _ ?_); clear hK13
        refine good_condF rfl ?_
        refine good_skip (hK12 _ ?_); clear hK12
        refine good_seq fun K20 hK20 => ?_
        refine good_region rfl ?_
        refine ev_q rfl (q_move (by conv => lhs; whnf) ?_)
        refine ev_q rfl (q_int rfl rfl ?_)
        intro n21 hn21
        replace hn21 := in64 hn21 (by omega) (by omega)
        refine ev_q rfl (q_assign (by conv => lhs; whnf) ?_)
        refine ev_nil (hK20 _ ?_); clear hK20
        refine good_ret ?_
        repeat (first | refine thenQ_ret ?_ | refine blockQ_ret ?_)
        refine ret_tmp (st := _) rfl (by conv => lhs; whnf) rfl ?_
        clear hK6
        exact fI (by rw [dr_eq (q := n3) (r := n5) (by omega) hn3 (by rw [hn5, hn4])]; first | (rw [if_neg (by omega)]) | (rw [if_pos (by omega)]; first | (rw [if_pos (decide_eq_decide.2 (by omega))]; omega) | (rw [if_neg (fun h => by have := decide_eq_decide.1 h; omega)]; omega)))
    · replace hb14 := dT hb14
      refine ev_q rfl (q_move (by conv => lhs; whnf) ?_)
      refine ev_q rfl (q_int rfl rfl ?_)
      intro b22 hb22; cases b22
      · replace hb22 := dF hb22
        refine ev_q rfl (q_beq tB4 rfl rfl ?_)
        intro b23 hb23; replace hb23 : b23 = false := hb23; subst hb23
        refine ev_nil (hK13 _ ?_); clear hK13
        refine good_condF rfl ?_
        refine good_skip (hK12 _ ?_); clear hK12
        refine good_seq fun K24 hK24 => ?_
        refine good_region rfl ?_
        refine ev_q rfl (q_move (by conv => lhs; whnf) ?_)
        refine ev_q rfl (q_int rfl rfl ?_)
        intro n25 hn25
        replace hn25 := in64 hn25 (by omega) (by omega)
        refine ev_q rfl (q_assign (by conv => lhs; whnf) ?_)
        refine ev_nil (hK24 _ ?_); clear hK24
        refine good_ret ?_
        repeat (first | refine thenQ_ret ?_ | refine blockQ_ret ?_)
        refine ret_tmp (st := _) rfl (by conv => lhs; whnf) rfl ?_
        clear hK6
        exact fI (by rw [dr_eq (q := n3) (r := n5) (by omega) hn3 (by rw [hn5, hn4])]; first | (rw [if_neg (by omega)]) | (rw [if_pos (by omega)]; first | (rw [if_pos (decide_eq_decide.2 (by omega))]; omega) | (rw [if_neg (fun h => by have := decide_eq_decide.1 h; omega)]; omega)))
      · replace hb22 := dT hb22
        refine ev_q rfl (q_beq tB4 rfl rfl ?_)
        intro b26 hb26; replace hb26 : b26 = true := hb26; subst hb26
        refine ev_nil (hK13 _ ?_); clear hK13
        refine good_condT rfl ?_
        refine good_seq fun K27 hK27 => ?_
        refine good_region rfl ?_
        refine ev_q rfl (q_move (by conv => lhs; whnf) ?_)
        refine ev_q rfl (q_int rfl rfl ?_)
        intro n28 hn28
        replace hn28 := in64 hn28 (by omega) (by omega)
        refine ev_q rfl (q_assign (by conv => lhs; whnf) ?_)
        refine ev_nil (hK27 _ ?_); clear hK27
        refine good_ret ?_
        repeat (first | refine thenQ_ret ?_ | refine blockQ_ret ?_)
        refine ret_tmp (st := _) rfl (by conv => lhs; whnf) rfl ?_
        clear hK6 hK12
        exact fI (by rw [dr_eq (q := n3) (r := n5) (by omega) hn3 (by rw [hn5, hn4])]; first | (rw [if_neg (by omega)]) | (rw [if_pos (by omega)]; first | (rw [if_pos (decide_eq_decide.2 (by omega))]; omega) | (rw [if_neg (fun h => by have := decide_eq_decide.1 h; omega)]; omega)))

-- spec.l01Div
set_option maxRecDepth 20000 in
set_option maxHeartbeats 2000000 in
theorem D_spec_l01Div (a b : Int) (ha : -4000000000000000000 ≤ a ∧ a ≤ 4000000000000000000) (hb : b ≠ 0 ∧ -1000000000000000000 ≤ b ∧ b ≤ 1000000000000000000) : Den Tryz.prog 80 [.s (.int .i64 a), .s (.int .i64 b)] (.s (.int .i64 (dr a b))) := by
  refine den_of_good Tryz.func80 (by decide) rfl (Nat.le_of_ble_eq_true rfl) (Nat.le_of_ble_eq_true rfl) ?_
  refine good_seq fun K1 hK1 => ?_
  refine good_region rfl ?_
  refine ev_q rfl (q_assign (by conv => lhs; whnf) ?_)
  refine ev_nil (hK1 _ ?_); clear hK1
  refine good_seq fun K2 hK2 => ?_
  refine good_seq fun K3 hK3 => ?_
  refine good_region rfl ?_
  refine ev_q rfl (q_move (by conv => lhs; whnf) ?_)
  refine ev_q rfl (q_int rfl rfl ?_)
  intro b4 hb4; cases b4
  · replace hb4 := dF hb4
    refine ev_nil (hK3 _ ?_); clear hK3
    refine good_condF rfl ?_
    refine good_skip (hK2 _ ?_); clear hK2
    refine good_seq fun K5 hK5 => ?_
    refine good_seq fun K6 hK6 => ?_
    refine good_region rfl ?_
    refine ev_q rfl (q_move (by conv => lhs; whnf) ?_)
    refine ev_q rfl (q_int rfl rfl ?_)
    intro b7 hb7; cases b7
    · replace hb7 := dF hb7
      refine ev_nil (hK6 _ ?_); clear hK6
      refine good_condF rfl ?_
      refine good_skip (hK5 _ ?_); clear hK5
      refine good_seq fun K8 hK8 => ?_
      refine good_region rfl ?_
      refine ev_q rfl (q_move (by conv => lhs; whnf) ?_)
      refine ev_q rfl (q_int rfl rfl ?_)
      intro n9 hn9
      replace hn9 := in64 hn9 (by omega) (by omega)
      refine ev_q rfl (q_move (by conv => lhs; whnf) ?_)
      refine ev_q rfl (q_int rfl rfl ?_)
      intro n10 hn10
      replace hn10 := in64 hn10 (by omega) (by omega)
      refine ev_q rfl (q_move (by conv => lhs; whnf) ?_)
      refine ev_q rfl (q_int rfl rfl ?_)
      intro n11 hn11
      replace hn11 := in64 hn11 (by omega) (by omega)
      refine ev_q rfl (q_int rfl rfl ⟨by omega, ?_⟩)
      intro n12 hn12
      first | replace hn12 := quoE hn12 (by omega) (by omega) | replace hn12 := quoT hn12 (by omega) (by omega)
      refine ev_q rfl (q_assign (by conv => lhs; whnf) ?_)
      refine ev_nil (hK8 _ ?_); clear hK8
      refine good_ret ?_
      repeat (first | refine thenQ_ret ?_ | refine blockQ_ret ?_)
      refine ret_tmp (st := _) rfl (by conv => lhs; whnf) rfl ?_
      exact fI (by simp only [dr, drP]; subst_vars; first | rw [if_pos (by omega), if_pos (by omega)] | rw [if_pos (by omega), if_neg (by omega)] | rw [if_neg (by omega), if_pos (by omega)] | rw [if_neg (by omega), if_neg (by omega)])
    · replace hb7 := dT hb7
      refine ev_nil (hK6 _ ?_); clear hK6
      refine good_condT rfl ?_
      refine good_seq fun K13 hK13 => ?_
      refine good_region rfl ?_
      refine ev_q rfl (q_move (by conv => lhs; whnf) ?_)
      refine ev_q rfl (q_move (by conv => lhs; whnf) ?_)
      refine ev_q rfl (q_int rfl rfl ?_)
      intro n14 hn14
      replace hn14 := in64 hn14 (by omega) (by omega)
      refine ev_q rfl (q_int rfl rfl ?_)
      intro n15 hn15
      replace hn15 := in64 hn15 (by omega) (by omega)
      refine ev_q rfl (q_move (by conv => lhs; whnf) ?_)
      refine ev_q rfl (q_int rfl rfl ?_)
      intro n16 hn16
      replace hn16 := in64 hn16 (by omega) (by omega)
      refine ev_q rfl (q_int rfl rfl ⟨by omega, ?_⟩)
      intro n17 hn17
      first | replace hn17 := quoE hn17 (by omega) (by omega) | replace hn17 := quoT hn17 (by omega) (by omega)
      refine ev_q rfl (q_neg rfl ?_)
      intro n18 hn18
      have hd := divB (x := n15) (y := n16) (by omega) (by omega)
      rw [← hn17] at hd
      replace hn18 := neg64 hn18 (by omega) (by omega)
      refine ev_q rfl (q_assign (by conv => lhs; whnf) ?_)
      refine ev_nil (hK13 _ ?_); clear hK13
      refine good_ret ?_
      repeat (first | refine thenQ_ret ?_ | refine blockQ_ret ?_)
      refine ret_tmp (st := _) rfl (by conv => lhs; whnf) rfl ?_
      clear hK5
      exact fI (by simp only [dr, drP]; subst_vars; first | rw [if_pos (by omega), if_pos (by omega)] | rw [if_pos (by omega), if_neg (by omega)] | rw [if_neg (by omega), if_pos (by omega)] | rw [if_neg (by omega), if_neg (by omega)])
  · replace hb4 := dT hb4
    refine ev_nil (hK3 _ ?_); clear hK3
    refine good_condT rfl ?_
    refine good_seq fun K19 hK19 => ?_
    refine good_region rfl ?_
    refine ev_q rfl (q_move (by conv => lhs; whnf) ?_)
    refine ev_q rfl (q_neg rfl ?_)
    intro n20 hn20
    replace hn20 := neg64 hn20 (by omega) (by omega)
    refine ev_q rfl (q_assign (by conv => lhs; whnf) ?_)
    refine ev_nil (hK19 _ ?_); clear hK19
    refine good_region rfl ?_
    refine ev_q rfl (q_move (by conv => lhs; whnf) ?_)
    refine ev_q rfl (q_neg rfl ?_)
    intro n21 hn21
    replace hn21 := neg64 hn21 (by omega) (by omega)
    refine ev_q rfl (q_assign (by conv => lhs; whnf) ?_)
    refine ev_nil (hK2 _ ?_); clear hK2
    refine good_seq fun K22 hK22 => ?_
    refine good_seq fun K23 hK23 => ?_
    refine good_region rfl ?_
    refine ev_q rfl (q_move (by conv => lhs; whnf) ?_)
    refine ev_q rfl (q_int rfl rfl ?_)
    intro b24 hb24; cases b24
    · replace hb24 := dF hb24
      refine ev_nil (hK23 _ ?_); clear hK23
      refine good_condF rfl ?_
      refine good_skip (hK22 _ ?_); clear hK22
      refine good_seq fun K25 hK25 => ?_
      refine good_region rfl ?_
      refine ev_q rfl (q_move (by conv => lhs; whnf) ?_)
      refine ev_q rfl (q_int rfl rfl ?_)
      intro n26 hn26
      replace hn26 := in64 hn26 (by omega) (by omega)
      refine ev_q rfl (q_move (by conv => lhs; whnf) ?_)
      refine ev_q rfl (q_int rfl rfl ?_)
      intro n27 hn27
      replace hn27 := in64 hn27 (by omega) (by omega)
      refine ev_q rfl (q_move (by conv => lhs; whnf) ?_)
      refine ev_q rfl (q_int rfl rfl ?_)
      intro n28 hn28
      replace hn28 := in64 hn28 (by omega) (by omega)
      refine ev_q rfl (q_int rfl rfl ⟨by omega, ?_⟩)
      intro n29 hn29
      first | replace hn29 := quoE hn29 (by omega) (by omega) | replace hn29 := quoT hn29 (by omega) (by omega)
      refine ev_q rfl (q_assign (by conv => lhs; whnf) ?_)
      refine ev_nil (hK25 _ ?_); clear hK25
      refine good_ret ?_
      repeat (first | refine thenQ_ret ?_ | refine blockQ_ret ?_)
      refine ret_tmp (st := _) rfl (by conv => lhs; whnf) rfl ?_
      exact fI (by simp only [dr, drP]; subst_vars; first | rw [if_pos (by omega), if_pos (by omega)] | rw [if_pos (by omega), if_neg (by omega)] | rw [if_neg (by omega), if_pos (by omega)] | rw [if_neg (by omega), if_neg (by omega)])
    · replace hb24 := dT hb24
      refine ev_nil (hK23 _ ?_); clear hK23
      refine good_condT rfl ?_
      refine good_seq fun K30 hK30 => ?_
      refine good_region rfl ?_
      refine ev_q rfl (q_move (by conv => lhs; whnf) ?_)
      refine ev_q rfl (q_move (by conv => lhs; whnf) ?_)
      refine ev_q rfl (q_int rfl rfl ?_)
      intro n31 hn31
      replace hn31 := in64 hn31 (by omega) (by omega)
      refine ev_q rfl (q_int rfl rfl ?_)
      intro n32 hn32
      replace hn32 := in64 hn32 (by omega) (by omega)
      refine ev_q rfl (q_move (by conv => lhs; whnf) ?_)
      refine ev_q rfl (q_int rfl rfl ?_)
      intro n33 hn33
      replace hn33 := in64 hn33 (by omega) (by omega)
      refine ev_q rfl (q_int rfl rfl ⟨by omega, ?_⟩)
      intro n34 hn34
      first | replace hn34 := quoE hn34 (by omega) (by omega) | replace hn34 := quoT hn34 (by omega) (by omega)
      refine ev_q rfl (q_neg rfl ?_)
      intro n35 hn35
      have hd := divB (x := n32) (y := n33) (by omega) (by omega)
      rw [← hn34] at hd
      replace hn35 := neg64 hn35 (by omega) (by omega)
      refine ev_q rfl (q_assign (by conv => lhs; whnf) ?_)
      refine ev_nil (hK30 _ ?_); clear hK30
      refine good_ret ?_
      repeat (first | refine thenQ_ret ?_ | refine blockQ_ret ?_)
      refine ret_tmp (st := _) rfl (by conv => lhs; whnf) rfl ?_
      clear hK22
      exact fI (by simp only [dr, drP]; subst_vars; first | rw [if_pos (by omega), if_pos (by omega)] | rw [if_pos (by omega), if_neg (by omega)] | rw [if_neg (by omega), if_pos (by omega)] | rw [if_neg (by omega), if_neg (by omega)])

theorem gB {q pr b : Int} (h1 : 0 ≤ q ∧ q ≤ 100000) (h2 : 0 ≤ pr ∧ pr ≤ 18000) (h3 : 0 ≤ b ∧ b ≤ 18001) : (-7600000000000 ≤ q * 4186 * (pr - b) ∧ q * 4186 * (pr - b) ≤ 7600000000000) ∧ (-7600000000001 ≤ gP q pr b ∧ gP q pr b ≤ 7600000000001) := by
  have a1 := mulS (a := q * 4186) (b := pr - b) (A := 418600000) (B := 18001) (by omega) (by omega) (by omega) (by omega)
  have a2 := dr_bound (a := q * 4186 * (pr - b)) (b := 100000) (by omega)
  exact ⟨by omega, by unfold gP; omega⟩
theorem cB {tr su re pr b : Int} (h1 : 0 ≤ tr ∧ tr ≤ 100000) (h2 : 0 ≤ pr ∧ pr ≤ 18000) (h3 : 0 ≤ b ∧ b ≤ 18001) (h4 : 0 ≤ su ∧ su ≤ 18000) (h5 : 0 ≤ re ∧ re ≤ 18000) : (-40000 ≤ mdP su re pr b ∧ mdP su re pr b ≤ 40000) ∧ (-4000000000 ≤ tr * mdP su re pr b ∧ tr * mdP su re pr b ≤ 4000000000) ∧ (-4000000001 ≤ cP tr su re pr b ∧ cP tr su re pr b ≤ 4000000001) := by
  have a0 := dr_bound (a := pr - su + b - re) (b := 2) (by omega)
  have a1 : -40000 ≤ mdP su re pr b ∧ mdP su re pr b ≤ 40000 := by unfold mdP; omega
  have a2 := mulS (a := tr) (b := mdP su re pr b) (A := 100000) (B := 40000) (by omega) (by omega) (by omega) (by omega)
  have a3 := dr_bound (a := tr * mdP su re pr b) (b := 100) (by omega)
  exact ⟨a1, by omega, by unfold cP; omega⟩

theorem les_v {tr su re pr q l h : Int} (m : Meet (gP q pr) (cP tr su re pr) re pr) (h1 : re ≤ l ∧ l ≤ pr) (e : h = l + 1) (h2 : l = re ∨ cP tr su re pr l ≤ gP q pr l) (h3 : h = pr + 1 ∨ gP q pr h < cP tr su re pr h) :
    ∃ v f0, v = (if h ≤ pr then (if mx0 (lesP tr su re pr q l) > mx0 (lesP tr su re pr q h) then mx0 (lesP tr su re pr q l) else mx0 (lesP tr su re pr q h)) else mx0 (lesP tr su re pr q l)) ∧
      f0 = (if h ≤ pr ∧ mx0 (lesP tr su re pr q h) = v then h else if mx0 (lesP tr su re pr q l) = v then l else re) ∧ (∀ a, re ≤ a → a ≤ pr → mx0 (lesP tr su re pr q a) ≤ v) ∧ mx0 (lesP tr su re pr q f0) = v ∧ re ≤ f0 ∧ f0 ≤ pr := by
  refine ⟨_, _, rfl, rfl, fun a ha hb => ?_, ?_, ?_, ?_⟩
  · have := meet_top m h1 h2 (by rw [← e]; omega) a ⟨ha, hb⟩
    rw [← e] at this
    have k : lesP tr su re pr q a ≤ lesP tr su re pr q l ∨ (h ≤ pr ∧ lesP tr su re pr q a ≤ lesP tr su re pr q h) := this
    rcases k with k | ⟨k0, k⟩
    · have := mx0_le k
      split
      · split <;> omega
      · exact this
    · have := mx0_le k
      rw [if_pos k0]
      split <;> omega
  · grind
  · split
    · omega
    · split <;> omega
  · have := m.le
    split
    · omega
    · split <;> omega
theorem les_end {tr su re pr q b v : Int} (m : Meet (gP q pr) (cP tr su re pr) re pr) (hb : re ≤ b ∧ b ≤ pr) (hv : mx0 (lesP tr su re pr q b) = v) (htop : ∀ a, re ≤ a → a ≤ pr → mx0 (lesP tr su re pr q a) ≤ v) (hend : b = pr ∨ mx0 (lesP tr su re pr q (b + 1)) < v) : b = bB (lesP tr su re pr q) re pr :=
  bB_uniq (meet_best m hb hv htop hend)

-- (impl.Substation).meanDifference
set_option maxRecDepth 20000 in
set_option maxHeartbeats 2000000 in
theorem D_impl_Substation_meanDifference (s : ByteArray) (nd tr su re : Int) (pr ba : Int) (h1 : 0 ≤ pr ∧ pr ≤ 20000) (h2 : 0 ≤ ba ∧ ba ≤ 20000) (h3 : 0 ≤ su ∧ su ≤ 18000) (h4 : 0 ≤ re ∧ re ≤ 18000) : Den Tryz.prog 47 [.agg [.s (.string s), .s (.int .i64 nd), .s (.int .i64 tr), .s (.int .i64 su), .s (.int .i64 re)], .s (.int .i64 pr), .s (.int .i64 ba)] (.s (.int .i64 (dr (pr - su + ba - re) 2))) := by
  refine den_of_good Tryz.func47 (by decide) rfl (Nat.le_of_ble_eq_true rfl) (Nat.le_of_ble_eq_true rfl) ?_
  refine good_seq fun K1 hK1 => ?_
  refine good_region rfl ?_
  refine ev_k rfl (k_box (by conv => lhs; whnf) rfl rfl rfl ?_)
  refine ev_q rfl (q_assign (by conv => lhs; whnf) ?_)
  refine ev_nil (hK1 _ ?_); clear hK1
  refine good_seq fun K2 hK2 => ?_
  refine good_region rfl ?_
  refine ev_q rfl (q_move (by conv => lhs; whnf) ?_)
  refine ev_q rfl (q_fieldAddrP fO25_3 rfl rfl ?_)
  refine ev_q rfl (q_load tA2 rfl ?_)
  refine ev_q rfl (q_int rfl rfl ?_)
  intro n3 hn3
  replace hn3 := in64 hn3 (by omega) (by omega)
  refine ev_q rfl (q_move (by conv => lhs; whnf) ?_)
  refine ev_q rfl (q_int rfl rfl ?_)
  intro n4 hn4
  replace hn4 := in64 hn4 (by omega) (by omega)
  refine ev_q rfl (q_fieldAddrP fO25_4 rfl rfl ?_)
  refine ev_q rfl (q_load tA2 rfl ?_)
  refine ev_q rfl (q_int rfl rfl ?_)
  intro n5 hn5
  replace hn5 := in64 hn5 (by omega) (by omega)
  refine ev_q rfl (q_callI rfl rfl (rfl) (D_impl_divRound _ _ (by omega) (by omega)) ?_)
  intro n6 hn6
  rw [hn5, hn4, hn3] at hn6
  refine ev_q rfl (q_assign (by conv => lhs; whnf) ?_)
  refine ev_nil (hK2 _ ?_); clear hK2
  refine good_ret ?_
  repeat (first | refine thenQ_ret ?_ | refine blockQ_ret ?_)
  refine ret_tmp (st := _) rfl (by conv => lhs; whnf) rfl ?_
  first | rfl | exact fI (by first | omega | grind) | (exfalso; first | omega | grind)

-- impl.MeanDifference
set_option maxRecDepth 20000 in
set_option maxHeartbeats 2000000 in
theorem D_impl_MeanDifference (s : ByteArray) (nd tr su re : Int) (pr ba : Int) (hs : s.size ≤ 140737488351232) : Den Tryz.prog 10 [.agg [.s (.string s), .s (.int .i64 nd), .s (.int .i64 tr), .s (.int .i64 su), .s (.int .i64 re)], .s (.int .i64 pr), .s (.int .i64 ba)] (.tup [.s (.int .i64 (if isName s = true ∧ (0 ≤ nd ∧ nd ≤ 15) ∧ (1 ≤ tr ∧ tr ≤ 100000) ∧ (0 ≤ su ∧ su ≤ 18000) ∧ (0 ≤ re ∧ re ≤ su - 1) then (if (0 ≤ pr ∧ pr ≤ 18000) ∧ (0 ≤ ba ∧ ba ≤ pr) then dr (pr - su + ba - re) 2 else 0) else 0)), .s (.int .i64 (if isName s = true ∧ (0 ≤ nd ∧ nd ≤ 15) ∧ (1 ≤ tr ∧ tr ≤ 100000) ∧ (0 ≤ su ∧ su ≤ 18000) ∧ (0 ≤ re ∧ re ≤ su - 1) then (if (0 ≤ pr ∧ pr ≤ 18000) ∧ (0 ≤ ba ∧ ba ≤ pr) then 0 else 2) else 1))]) := by
  refine den_of_good Tryz.func10 (by decide) rfl (Nat.le_of_ble_eq_true rfl) (Nat.le_of_ble_eq_true rfl) ?_
  refine good_seq fun K1 hK1 => ?_
  refine good_region rfl ?_
  refine ev_k rfl (k_box (by conv => lhs; whnf) rfl rfl rfl ?_)
  refine ev_q rfl (q_assign (by conv => lhs; whnf) ?_)
  refine ev_q rfl (q_assign (by conv => lhs; whnf) ?_)
  refine ev_nil (hK1 _ ?_); clear hK1
  refine good_seq fun K2 hK2 => ?_
  refine good_block ?_
  refine good_seq fun K3 hK3 => ?_
  refine good_region rfl ?_
  refine ev_q rfl (q_loadA tA25 rfl rfl rfl ?_)
  refine ev_q rfl (q_callB rfl rfl (rfl) (D_impl_ValidSubstation _ _ _ _ _ hs) ?_)
  intro b4 hb4; cases b4
  · first | replace hb4 := dF hb4 | skip
    refine ev_q rfl (q_not rfl rfl ?_)
    refine ev_q rfl (q_assign (by conv => lhs; whnf) ?_)
    refine ev_nil (hK3 _ ?_); clear hK3
    refine good_condT rfl ?_
    refine good_seq fun K5 hK5 => ?_
    refine good_region rfl ?_
    refine ev_q rfl (q_assign (by conv => lhs; whnf) ?_)
    refine ev_q rfl (q_assign (by conv => lhs; whnf) ?_)
    refine ev_nil (hK5 _ ?_); clear hK5
    refine good_ret ?_
    repeat (first | refine thenQ_ret ?_ | refine blockQ_ret ?_)
    refine ret_many rfl ?_
    refine res_tmp (by conv => lhs; whnf) rfl ?_
    refine res_tmp (by conv => lhs; whnf) rfl ?_
    refine res_nil ?_
    clear hK2
    exact fTup1 (by first | rfl | exact fI (by first | omega | grind) | (exfalso; first | omega | grind)) (fTup1 (by first | rfl | exact fI (by first | omega | grind) | (exfalso; first | omega | grind)) (rfl))
  · first | replace hb4 := dT hb4 | skip
    refine ev_q rfl (q_not rfl rfl ?_)
    refine ev_q rfl (q_assign (by conv => lhs; whnf) ?_)
    refine ev_nil (hK3 _ ?_); clear hK3
    refine good_condF rfl ?_
    refine good_seq fun K6 hK6 => ?_
    refine good_region rfl ?_
    refine ev_q rfl (q_move (by conv => lhs; whnf) ?_)
    refine ev_q rfl (q_callB rfl rfl (rfl) (D_impl_waterOk ..) ?_)
    intro b7 hb7; cases b7
    · first | replace hb7 := dF hb7 | skip
      refine ev_q rfl (q_not rfl rfl ?_)
      refine ev_q rfl (q_move (by conv => lhs; whnf) ?_)
      refine ev_skip rfl ?_
      refine ev_skip rfl ?_
      refine ev_skip rfl ?_
      refine ev_skip rfl ?_
      refine ev_q rfl (q_pickT rfl (by conv => lhs; whnf) ?_)
      refine ev_q rfl (q_assign (by conv => lhs; whnf) ?_)
      refine ev_nil (hK6 _ ?_); clear hK6
      refine good_condT rfl ?_
      refine good_seq fun K8 hK8 => ?_
      refine good_region rfl ?_
      refine ev_q rfl (q_assign (by conv => lhs; whnf) ?_)
      refine ev_q rfl (q_assign (by conv => lhs; whnf) ?_)
      refine ev_nil (hK8 _ ?_); clear hK8
      refine good_ret ?_
      repeat (first | refine thenQ_ret ?_ | refine blockQ_ret ?_)
      refine ret_many rfl ?_
      refine res_tmp (by conv => lhs; whnf) rfl ?_
      refine res_tmp (by conv => lhs; whnf) rfl ?_
      refine res_nil ?_
      clear hK2
      exact fTup1 (by first | rfl | exact fI (by first | omega | grind) | (exfalso; first | omega | grind)) (fTup1 (by first | rfl | exact fI (by first | omega | grind) | (exfalso; first | omega | grind)) (rfl))
    · first | replace hb7 := dT hb7 | skip
      refine ev_q rfl (q_not rfl rfl ?_)
      refine ev_q rfl (q_move (by conv => lhs; whnf) ?_)
      refine ev_q rfl (q_move (by conv => lhs; whnf) ?_)
      refine ev_q rfl (q_move (by conv => lhs; whnf) ?_)
      refine ev_q rfl (q_callB rfl rfl (rfl) (D_impl_within ..) ?_)
      intro b9 hb9; cases b9
      · first | replace hb9 := dF hb9 | skip
        refine ev_q rfl (q_not rfl rfl ?_)
        refine ev_q rfl (q_pickF rfl (by conv => lhs; whnf) ?_)
        refine ev_q rfl (q_assign (by conv => lhs; whnf) ?_)
        refine ev_nil (hK6 _ ?_); clear hK6
        refine good_condT rfl ?_
        refine good_seq fun K10 hK10 => ?_
        refine good_region rfl ?_
        refine ev_q rfl (q_assign (by conv => lhs; whnf) ?_)
        refine ev_q rfl (q_assign (by conv => lhs; whnf) ?_)
        refine ev_nil (hK10 _ ?_); clear hK10
        refine good_ret ?_
        repeat (first | refine thenQ_ret ?_ | refine blockQ_ret ?_)
        refine ret_many rfl ?_
        refine res_tmp (by conv => lhs; whnf) rfl ?_
        refine res_tmp (by conv => lhs; whnf) rfl ?_
        refine res_nil ?_
        clear hK2
        exact fTup1 (by first | rfl | exact fI (by first | omega | grind) | (exfalso; first | omega | grind)) (fTup1 (by first | rfl | exact fI (by first | omega | grind) | (exfalso; first | omega | grind)) (rfl))
      · first | replace hb9 := dT hb9 | skip
        refine ev_q rfl (q_not rfl rfl ?_)
        refine ev_q rfl (q_pickF rfl (by conv => lhs; whnf) ?_)
        refine ev_q rfl (q_assign (by conv => lhs; whnf) ?_)
        refine ev_nil (hK6 _ ?_); clear hK6
        refine good_condF rfl ?_
        refine good_skip (hK2 _ ?_); clear hK2
        refine good_seq fun K11 hK11 => ?_
        refine good_region rfl ?_
        refine ev_q rfl (q_loadA tA25 rfl rfl rfl ?_)
        refine ev_q rfl (q_move (by conv => lhs; whnf) ?_)
        refine ev_q rfl (q_move (by conv => lhs; whnf) ?_)
        refine ev_q rfl (q_callI rfl rfl (rfl) (D_impl_Substation_meanDifference _ _ _ _ _ _ _ (by omega) (by omega) (by omega) (by omega)) ?_)
        intro n12 hn12
        refine ev_q rfl (q_assign (by conv => lhs; whnf) ?_)
        refine ev_q rfl (q_assign (by conv => lhs; whnf) ?_)
        refine ev_nil (hK11 _ ?_); clear hK11
        refine good_ret ?_
        repeat (first | refine thenQ_ret ?_ | refine blockQ_ret ?_)
        refine ret_many rfl ?_
        refine res_tmp (by conv => lhs; whnf) rfl ?_
        refine res_tmp (by conv => lhs; whnf) rfl ?_
        refine res_nil ?_
        exact fTup1 (by first | rfl | exact fI (by first | omega | grind) | (exfalso; first | omega | grind)) (fTup1 (by first | rfl | exact fI (by first | omega | grind) | (exfalso; first | omega | grind)) (rfl))

-- impl.heatPower
set_option maxRecDepth 20000 in
set_option maxHeartbeats 2000000 in
theorem D_impl_heatPower (q pr b : Int) (hq : 0 ≤ q ∧ q ≤ 100000) (hp : 0 ≤ pr ∧ pr ≤ 18000) (hb : 0 ≤ b ∧ b ≤ 18001) : Den Tryz.prog 79 [.s (.int .i64 q), .s (.int .i64 pr), .s (.int .i64 b)] (.s (.int .i64 (gP q pr b))) := by
  have hg := gB hq hp hb
  refine den_of_good Tryz.func79 (by decide) rfl (Nat.le_of_ble_eq_true rfl) (Nat.le_of_ble_eq_true rfl) ?_
  refine good_seq fun K1 hK1 => ?_
  refine good_region rfl ?_
  refine ev_q rfl (q_assign (by conv => lhs; whnf) ?_)
  refine ev_nil (hK1 _ ?_); clear hK1
  refine good_seq fun K2 hK2 => ?_
  refine good_region rfl ?_
  refine ev_q rfl (q_move (by conv => lhs; whnf) ?_)
  refine ev_q rfl (q_int rfl rfl ?_)
  intro n3 hn3
  replace hn3 := in64 hn3 (by omega) (by omega)
  refine ev_q rfl (q_move (by conv => lhs; whnf) ?_)
  refine ev_q rfl (q_move (by conv => lhs; whnf) ?_)
  refine ev_q rfl (q_int rfl rfl ?_)
  intro n4 hn4
  replace hn4 := in64 hn4 (by omega) (by omega)
  refine ev_q rfl (q_int rfl rfl ?_)
  intro n5 hn5
  rw [hn3, hn4] at hn5
  replace hn5 := in64 hn5 (by omega) (by omega)
  refine ev_q rfl (q_callI rfl rfl (rfl) (D_impl_divRound _ _ (by omega) (by omega)) ?_)
  intro n6 hn6
  rw [hn5] at hn6
  refine ev_q rfl (q_assign (by conv => lhs; whnf) ?_)
  refine ev_nil (hK2 _ ?_); clear hK2
  refine good_ret ?_
  repeat (first | refine thenQ_ret ?_ | refine blockQ_ret ?_)
  refine ret_tmp (st := _) rfl (by conv => lhs; whnf) rfl ?_
  exact fI (by assumption)

-- (impl.Substation).bestBack$1
set_option maxRecDepth 20000 in
set_option maxHeartbeats 2000000 in
theorem D_impl_Substation_bestBack_1 (s : ByteArray) (nd tr su re : Int) (pr q b : Int) (hq : 0 ≤ q ∧ q ≤ 100000) (hp : 0 ≤ pr ∧ pr ≤ 18000) (hb : 0 ≤ b ∧ b ≤ 18001) (ht : 0 ≤ tr ∧ tr ≤ 100000) (hsu : 0 ≤ su ∧ su ≤ 18000) (hre : 0 ≤ re ∧ re ≤ 18000) : Den Tryz.prog 78 [.s (.int .i64 b), .rp [.s (.int .i64 q)], .rp [.s (.int .i64 pr)], .rp [.s (.string s), .s (.int .i64 nd), .s (.int .i64 tr), .s (.int .i64 su), .s (.int .i64 re)]] (.s (.int .i64 (lesP tr su re pr q b))) := by
  have hg := gB hq hp hb
  have hc := cB (tr := tr) (su := su) (re := re) ht hp hb hsu hre
  refine den_of_good Tryz.func78 (by decide) rfl (Nat.le_of_ble_eq_true rfl) (Nat.le_of_ble_eq_true rfl) ?_
  refine good_seq fun K1 hK1 => ?_
  refine good_region rfl ?_
  refine ev_q rfl (q_assign (by conv => lhs; whnf) ?_)
  refine ev_nil (hK1 _ ?_); clear hK1
  refine good_seq fun K2 hK2 => ?_
  refine good_draw 14 hmix (by kernel_rfl) rfl ?_
  refine qo_q rfl (q_load tA2 rfl ?_)
  refine qo_q rfl (q_load tA2 rfl ?_)
  refine qo_q rfl (q_move (by conv => lhs; whnf) ?_)
  refine qo_q rfl (q_callI rfl rfl (rfl) (D_impl_heatPower _ _ _ hq hp hb) ?_)
  intro n3 hn3
  refine qo_q rfl (q_fieldAddr fO25_2 rfl rfl ?_)
  refine qo_q rfl (q_load tA2 rfl ?_)
  refine qo_q rfl (q_loadA tA25 rfl rfl rfl ?_)
  refine qo_q rfl (q_load tA2 rfl ?_)
  refine qo_q rfl (q_move (by conv => lhs; whnf) ?_)
  refine qo_q rfl (q_callI rfl rfl (rfl) (D_impl_Substation_meanDifference _ _ _ _ _ _ _ (by omega) (by omega) (by omega) (by omega)) ?_)
  intro n4 hn4
  replace hn4 : n4 = mdP su re pr b := hn4
  refine qo_q rfl (q_int rfl rfl ?_)
  intro n5 hn5
  rw [hn4] at hn5
  replace hn5 := in64 hn5 (by omega) (by omega)
  refine qo_q rfl (q_callI rfl rfl (rfl) (D_impl_divRound _ _ (by omega) (by omega)) ?_)
  intro n6 hn6
  rw [hn5] at hn6
  replace hn6 : n6 = cP tr su re pr b := hn6
  refine qo_q rfl (q_min rfl rfl ?_)
  intro n7 hn7; simp only [mxI, mnI] at hn7
  refine qo_q rfl (q_assign (by conv => lhs; whnf) ?_)
  refine qo_nil ?_
  refine ev_nil (hK2 _ ?_); clear hK2
  refine good_ret ?_
  repeat (first | refine thenQ_ret ?_ | refine blockQ_ret ?_)
  refine ret_tmp (st := _) rfl (by conv => lhs; whnf) rfl ?_
  exact fI (by unfold lesP mi; grind)

-- (impl.Substation).bestBack
set_option maxRecDepth 20000 in
set_option maxHeartbeats 2000000 in
theorem D_impl_Substation_bestBack (s : ByteArray) (nd tr su re : Int) (pr q : Int) (hq : 0 ≤ q ∧ q ≤ 100000) (hp : 0 ≤ pr ∧ pr ≤ 18000) (ht : 0 ≤ tr ∧ tr ≤ 100000) (hsu : 0 ≤ su ∧ su ≤ 18000) (hre : 0 ≤ re ∧ re ≤ 18000) (h : re ≤ pr) : Den Tryz.prog 41 [.agg [.s (.string s), .s (.int .i64 nd), .s (.int .i64 tr), .s (.int .i64 su), .s (.int .i64 re)], .s (.int .i64 pr), .s (.int .i64 q)] (.tup [.s (.int .i64 (bB (lesP tr su re pr q) re pr)), .s (.int .i64 (lesP tr su re pr q (bB (lesP tr su re pr q) re pr)))]) := by
  refine den_of_good Tryz.func41 (by decide) rfl (Nat.le_of_ble_eq_true rfl) (Nat.le_of_ble_eq_true rfl) ?_
  refine good_seq fun K1 hK1 => ?_
  refine good_region rfl ?_
  refine ev_k rfl (k_box (by conv => lhs; whnf) rfl rfl rfl ?_)
  refine ev_k rfl (k_box (by conv => lhs; whnf) rfl rfl rfl ?_)
  refine ev_k rfl (k_box (by conv => lhs; whnf) rfl rfl rfl ?_)
  refine ev_q rfl (q_assign (by conv => lhs; whnf) ?_)
  refine ev_q rfl (q_assign (by conv => lhs; whnf) ?_)
  refine ev_nil (hK1 _ ?_); clear hK1
  refine good_seq fun K2 hK2 => ?_
  refine good_region rfl ?_
  refine ev_q rfl (q_clo rfl rfl ?_)
  refine ev_q rfl (q_assign (by conv => lhs; whnf) ?_)
  refine ev_nil (hK2 _ ?_); clear hK2
  refine good_seq fun K3 hK3 => ?_
  refine good_draw 8 hmix (by kernel_rfl) rfl ?_
  refine qo_q rfl (q_fieldAddrP fO25_4 rfl rfl ?_)
  refine qo_q rfl (q_load tA2 rfl ?_)
  refine qo_q rfl (q_move (by conv => lhs; whnf) ?_)
  refine qo_q rfl (q_fieldAddrP fO25_4 rfl rfl ?_)
  refine qo_q rfl (q_load tA2 rfl ?_)
  refine qo_q rfl (q_callI rfl rfl (rfl) (D_impl_Substation_bestBack_1 s nd tr su re pr q _ hq hp (by omega) ht hsu hre) ?_)
  intro n4 hn4
  refine qo_q rfl (q_assign (by conv => lhs; whnf) ?_)
  refine qo_q rfl (q_assign (by conv => lhs; whnf) ?_)
  refine qo_nil ?_
  refine ev_nil (hK3 _ ?_); clear hK3
  refine good_seq fun K5 hK5 => ?_
  refine good_seq fun K6 hK6 => ?_
  refine good_region rfl ?_
  refine ev_q rfl (q_fieldAddrP fO25_4 rfl rfl ?_)
  refine ev_q rfl (q_load tA2 rfl ?_)
  refine ev_q rfl (q_int rfl rfl ?_)
  intro n7 hn7
  replace hn7 := in64 hn7 (by omega) (by omega)
  refine ev_q rfl (q_assign (by conv => lhs; whnf) ?_)
  refine ev_nil (hK6 _ ?_); clear hK6
  refine good_block ?_
  refine good_loop (α := Nat) (fun n => { env := upd (upd (upd (upd (upd (upd (upd ((fun _ => .junk)) 3 (.ptr 3 0)) 4 (.ptr 4 0)) 5 (.ptr 5 0)) 8 (.clo 78 [5, 4, 3])) 9 (.s (.int .i64 (bst (lesP tr su re pr q) re n)))) 10 (.s (.int .i64 (lesP tr su re pr q (bst (lesP tr su re pr q) re n))))) 11 (.s (.int .i64 (re + 1 + n))), H := upd (upd (upd ((fun _ => none)) 5 (some (.box 2 [.s (.int .i64 q)]))) 4 (some (.box 2 [.s (.int .i64 pr)]))) 3 (some (.box 25 [.s (.string s), .s (.int .i64 nd), .s (.int .i64 tr), .s (.int .i64 su), .s (.int .i64 re)])) }) (fun n => re + n ≤ pr) (fun n => (pr - re).toNat - n) 0 ?_ ?_ ?_
  · show re + ((0 : Nat) : Int) ≤ pr; omega
  · refine sub_weak ?_ ?_
    · exact weakH_box (boxEq (rfl)) rfl (weakH_box (boxEq (rfl)) rfl (weakH_box (boxEq (rfl)) rfl (weakH_none _)))
    · refine weakE_upd ?e11 ?r11 (weakE_upd ?e10 ?r10 (weakE_upd ?e9 ?r9 (weakE_upd ?e8 ?r8 (weakE_upd ?e5 ?r5 (weakE_upd ?e4 ?r4 (weakE_upd ?e3 ?r3 (weakE_junk _ _)))))))
      case e3 => first | rfl | exact fI (by omega) | (simp_all)
      case r3 => intro h hh; simp [refs] at hh; subst hh; rfl
      case e4 => first | rfl | exact fI (by omega) | (simp_all)
      case r4 => intro h hh; simp [refs] at hh; subst hh; rfl
      case e5 => first | rfl | exact fI (by omega) | (simp_all)
      case r5 => intro h hh; simp [refs] at hh; subst hh; rfl
      case e8 => first | rfl | exact fI (by omega) | (simp_all)
      case r8 => intro h hh; simp [refs] at hh; rcases hh with rfl | rfl | rfl <;> rfl
      case e9 => first | rfl | exact fI (by omega) | (first | rfl | exact fI (by rw [hst]; first | done | omega))
      case r9 => intro h hh; cases hh
      case e10 => first | rfl | exact fI (by omega) | (first | rfl | exact fI (by first | exact Eq.symm (by assumption) | (rw [hst]; first | done | (rw [show re + (n : Int) + 1 = re + 1 + n by omega]; omega))))
      case r10 => intro h hh; cases hh
      case e11 => first | rfl | exact fI (by omega) | (simp_all)
      case r11 => intro h hh; cases hh
  · rintro n hI
    refine good_seq fun K8 hK8 => ?_
    refine good_seq fun K9 hK9 => ?_
    refine good_region rfl ?_
    refine ev_q rfl (q_move (by conv => lhs; whnf) ?_)
    refine ev_q rfl (q_load tA2 rfl ?_)
    refine ev_q rfl (q_int rfl rfl ?_)
    intro b10 hb10; cases b10
    · replace hb10 := dF hb10
      refine ev_nil (hK9 _ ?_); clear hK9
      refine good_condF rfl ?_
      refine good_exit ?_
      repeat (first | refine thenQ_exit ?_ | refine blockQ_pass rfl ?_)
      refine blockQ_exit (hK5 _ ?_); clear hK5
      refine good_seq fun K11 hK11 => ?_
      refine good_region rfl ?_
      refine ev_q rfl (q_move (by conv => lhs; whnf) ?_)
      refine ev_q rfl (q_move (by conv => lhs; whnf) ?_)
      refine ev_q rfl (q_assign (by conv => lhs; whnf) ?_)
      refine ev_q rfl (q_assign (by conv => lhs; whnf) ?_)
      refine ev_nil (hK11 _ ?_); clear hK11
      refine good_ret ?_
      repeat (first | refine thenQ_ret ?_ | refine blockQ_ret ?_)
      refine ret_many rfl ?_
      refine res_tmp (by conv => lhs; whnf) rfl ?_
      refine res_tmp (by conv => lhs; whnf) rfl ?_
      refine res_nil ?_
      clear hK8
      have e : bB (lesP tr su re pr q) re pr = bst (lesP tr su re pr q) re n := (by unfold bB; rw [show (pr - re).toNat = n by omega])
      exact fTup1 (fI (by rw [e])) (fTup1 (fI (by rw [e])) rfl)
    · replace hb10 := dT hb10
      have hbs := bst_spec (f := lesP tr su re pr q) (lo := re) n
      have hbb := hbs.1
      refine ev_nil (hK9 _ ?_); clear hK9
      refine good_condT rfl ?_
      refine good_skip (hK8 _ ?_); clear hK8
      refine good_seq fun K12 hK12 => ?_
      refine good_block ?_
      refine good_seq fun K13 hK13 => ?_
      refine good_region rfl ?_
      refine ev_q rfl (q_move (by conv => lhs; whnf) ?_)
      refine ev_q rfl (q_move (by conv => lhs; whnf) ?_)
      refine ev_q rfl (q_callI rfl rfl (rfl) (D_impl_Substation_bestBack_1 s nd tr su re pr q _ hq hp (by omega) ht hsu hre) ?_)
      intro n14 hn14
      refine ev_q rfl (q_assign (by conv => lhs; whnf) ?_)
      refine ev_nil (hK13 _ ?_); clear hK13
      refine good_seq fun K15 hK15 => ?_
      refine good_region rfl ?_
      refine ev_q rfl (q_move (by conv => lhs; whnf) ?_)
      refine ev_q rfl (q_move (by conv => lhs; whnf) ?_)
      refine ev_q rfl (q_int rfl rfl ?_)
      intro b16 hb16; cases b16
      · replace hb16 := dF hb16
        have hst := bst_F (f := lesP tr su re pr q) (lo := re) (n := n) (by rw [show re + (n : Int) + 1 = re + 1 + n by omega]; omega)
        refine ev_nil (hK15 _ ?_); clear hK15
        refine good_condF rfl ?_
        refine good_skip (hK12 _ ?_); clear hK12
        refine good_region rfl ?_
        refine ev_q rfl (q_move (by conv => lhs; whnf) ?_)
        refine ev_q rfl (q_int rfl rfl ?_)
        intro n17 hn17
        replace hn17 := in64 hn17 (by omega) (by omega)
        refine ev_q rfl (q_assign (by conv => lhs; whnf) ?_)
        refine ev_nil ?_
        clear hK5
        refine ⟨n + 1, ?_, ?_, ?_⟩
        · show re + ((n + 1 : Nat) : Int) ≤ pr; omega
        · first | omega | (simp only []; omega) | (dsimp only; omega)
        · refine sub_weak ?_ ?_
          · exact weakH_box (boxEq (rfl)) rfl (weakH_box (boxEq (rfl)) rfl (weakH_box (boxEq (rfl)) rfl (weakH_none _)))
          · refine weakE_upd ?e11 ?r11 (weakE_upd ?e10 ?r10 (weakE_upd ?e9 ?r9 (weakE_upd ?e8 ?r8 (weakE_upd ?e5 ?r5 (weakE_upd ?e4 ?r4 (weakE_upd ?e3 ?r3 (weakE_junk _ _)))))))
            case e3 => first | rfl | exact fI (by omega) | (simp_all)
            case r3 => intro h hh; simp [refs] at hh; subst hh; rfl
            case e4 => first | rfl | exact fI (by omega) | (simp_all)
            case r4 => intro h hh; simp [refs] at hh; subst hh; rfl
            case e5 => first | rfl | exact fI (by omega) | (simp_all)
            case r5 => intro h hh; simp [refs] at hh; subst hh; rfl
            case e8 => first | rfl | exact fI (by omega) | (simp_all)
            case r8 => intro h hh; simp [refs] at hh; rcases hh with rfl | rfl | rfl <;> rfl
            case e9 => first | rfl | exact fI (by omega) | (first | rfl | exact fI (by rw [hst]; first | done | omega))
            case r9 => intro h hh; cases hh
            case e10 => first | rfl | exact fI (by omega) | (first | rfl | exact fI (by first | exact Eq.symm (by assumption) | (rw [hst]; first | done | (rw [show re + (n : Int) + 1 = re + 1 + n by omega]; omega))))
            case r10 => intro h hh; cases hh
            case e11 => first | rfl | exact fI (by omega) | (simp_all)
            case r11 => intro h hh; cases hh
      · replace hb16 := dT hb16
        have hst := bst_T (f := lesP tr su re pr q) (lo := re) (n := n) (by rw [show re + (n : Int) + 1 = re + 1 + n by omega]; omega)
        refine ev_nil (hK15 _ ?_); clear hK15
        refine good_condT rfl ?_
        refine good_region rfl ?_
        refine ev_q rfl (q_move (by conv => lhs; whnf) ?_)
        refine ev_q rfl (q_move (by conv => lhs; whnf) ?_)
        refine ev_q rfl (q_assign (by conv => lhs; whnf) ?_)
        refine ev_q rfl (q_assign (by conv => lhs; whnf) ?_)
        refine ev_nil (hK12 _ ?_); clear hK12
        refine good_region rfl ?_
        refine ev_q rfl (q_move (by conv => lhs; whnf) ?_)
        refine ev_q rfl (q_int rfl rfl ?_)
        intro n18 hn18
        replace hn18 := in64 hn18 (by omega) (by omega)
        refine ev_q rfl (q_assign (by conv => lhs; whnf) ?_)
        refine ev_nil ?_
        clear hK5
        refine ⟨n + 1, ?_, ?_, ?_⟩
        · show re + ((n + 1 : Nat) : Int) ≤ pr; omega
        · first | omega | (simp only []; omega) | (dsimp only; omega)
        · refine sub_weak ?_ ?_
          · exact weakH_box (boxEq (rfl)) rfl (weakH_box (boxEq (rfl)) rfl (weakH_box (boxEq (rfl)) rfl (weakH_none _)))
          · refine weakE_upd ?e11 ?r11 (weakE_upd ?e10 ?r10 (weakE_upd ?e9 ?r9 (weakE_upd ?e8 ?r8 (weakE_upd ?e5 ?r5 (weakE_upd ?e4 ?r4 (weakE_upd ?e3 ?r3 (weakE_junk _ _)))))))
            case e3 => first | rfl | exact fI (by omega) | (simp_all)
            case r3 => intro h hh; simp [refs] at hh; subst hh; rfl
            case e4 => first | rfl | exact fI (by omega) | (simp_all)
            case r4 => intro h hh; simp [refs] at hh; subst hh; rfl
            case e5 => first | rfl | exact fI (by omega) | (simp_all)
            case r5 => intro h hh; simp [refs] at hh; subst hh; rfl
            case e8 => first | rfl | exact fI (by omega) | (simp_all)
            case r8 => intro h hh; simp [refs] at hh; rcases hh with rfl | rfl | rfl <;> rfl
            case e9 => first | rfl | exact fI (by omega) | (first | rfl | exact fI (by rw [hst]; first | done | omega))
            case r9 => intro h hh; cases hh
            case e10 => first | rfl | exact fI (by omega) | (first | rfl | exact fI (by first | exact Eq.symm (by assumption) | (rw [hst]; first | done | (rw [show re + (n : Int) + 1 = re + 1 + n by omega]; omega))))
            case r10 => intro h hh; cases hh
            case e11 => first | rfl | exact fI (by omega) | (simp_all)
            case r11 => intro h hh; cases hh

-- (impl.Substation).power
set_option maxRecDepth 20000 in
set_option maxHeartbeats 2000000 in
theorem D_impl_Substation_power (s : ByteArray) (nd tr su re : Int) (pr q : Int) (hq : 0 ≤ q ∧ q ≤ 100000) (hp : 0 ≤ pr ∧ pr ≤ 18000) (ht : 0 ≤ tr ∧ tr ≤ 100000) (hsu : 0 ≤ su ∧ su ≤ 18000) (hre : 0 ≤ re ∧ re ≤ 18000) : Den Tryz.prog 42 [.agg [.s (.string s), .s (.int .i64 nd), .s (.int .i64 tr), .s (.int .i64 su), .s (.int .i64 re)], .s (.int .i64 pr), .s (.int .i64 q)] (.s (.int .i64 (pwP tr su re pr q))) := by
  refine den_of_good Tryz.func42 (by decide) rfl (Nat.le_of_ble_eq_true rfl) (Nat.le_of_ble_eq_true rfl) ?_
  refine good_seq fun K1 hK1 => ?_
  refine good_region rfl ?_
  refine ev_k rfl (k_box (by conv => lhs; whnf) rfl rfl rfl ?_)
  refine ev_q rfl (q_assign (by conv => lhs; whnf) ?_)
  refine ev_nil (hK1 _ ?_); clear hK1
  refine good_seq fun K2 hK2 => ?_
  refine good_seq fun K3 hK3 => ?_
  refine good_region rfl ?_
  refine ev_q rfl (q_move (by conv => lhs; whnf) ?_)
  refine ev_q rfl (q_fieldAddrP fO25_4 rfl rfl ?_)
  refine ev_q rfl (q_load tA2 rfl ?_)
  refine ev_q rfl (q_int rfl rfl ?_)
  intro b4 hb4; cases b4
  · replace hb4 := dF hb4
    refine ev_nil (hK3 _ ?_); clear hK3
    refine good_condF rfl ?_
    refine good_skip (hK2 _ ?_); clear hK2
    refine good_seq fun K5 hK5 => ?_
    refine good_region rfl ?_
    refine ev_q rfl (q_loadA tA25 rfl rfl rfl ?_)
    refine ev_q rfl (q_move (by conv => lhs; whnf) ?_)
    refine ev_q rfl (q_move (by conv => lhs; whnf) ?_)
    refine ev_q rfl (q_call rfl rfl (rfl) (D_impl_Substation_bestBack s nd tr su re pr q hq hp ht hsu hre (by omega)) rfl ?_)
    refine ev_q rfl (q_move (by conv => lhs; whnf) ?_)
    refine ev_q rfl (q_extractI rfl rfl ?_)
    intro n6 hn6
    refine ev_q rfl (q_extractI rfl rfl ?_)
    intro n7 hn7
    refine ev_q rfl (q_assign (by conv => lhs; whnf) ?_)
    refine ev_q rfl (q_assign (by conv => lhs; whnf) ?_)
    refine ev_nil (hK5 _ ?_); clear hK5
    refine good_seq fun K8 hK8 => ?_
    refine good_region rfl ?_
    refine ev_q rfl (q_move (by conv => lhs; whnf) ?_)
    refine ev_q rfl (q_max rfl rfl ?_)
    intro n9 hn9; simp only [mxI, mnI] at hn9
    refine ev_q rfl (q_assign (by conv => lhs; whnf) ?_)
    refine ev_nil (hK8 _ ?_); clear hK8
    refine good_ret ?_
    repeat (first | refine thenQ_ret ?_ | refine blockQ_ret ?_)
    refine ret_tmp (st := _) rfl (by conv => lhs; whnf) rfl ?_
    first | exact fI (by unfold pwP; rw [if_pos (by omega)]) | exact fI (by unfold pwP mx0; rw [if_neg (by omega)]; grind)
  · replace hb4 := dT hb4
    refine ev_nil (hK3 _ ?_); clear hK3
    refine good_condT rfl ?_
    refine good_seq fun K10 hK10 => ?_
    refine good_region rfl ?_
    refine ev_q rfl (q_assign (by conv => lhs; whnf) ?_)
    refine ev_nil (hK10 _ ?_); clear hK10
    refine good_ret ?_
    repeat (first | refine thenQ_ret ?_ | refine blockQ_ret ?_)
    refine ret_tmp (st := _) rfl (by conv => lhs; whnf) rfl ?_
    clear hK2
    first | exact fI (by unfold pwP; rw [if_pos (by omega)]) | exact fI (by unfold pwP mx0; rw [if_neg (by omega)]; grind)

-- impl.PowerAt
set_option maxRecDepth 20000 in
set_option maxHeartbeats 2000000 in
theorem D_impl_PowerAt (s : ByteArray) (nd tr su re : Int) (pr q : Int) (hs : s.size ≤ 140737488351232) : Den Tryz.prog 8 [.agg [.s (.string s), .s (.int .i64 nd), .s (.int .i64 tr), .s (.int .i64 su), .s (.int .i64 re)], .s (.int .i64 pr), .s (.int .i64 q)] (.tup [.s (.int .i64 (if isName s = true ∧ (0 ≤ nd ∧ nd ≤ 15) ∧ (1 ≤ tr ∧ tr ≤ 100000) ∧ (0 ≤ su ∧ su ≤ 18000) ∧ (0 ≤ re ∧ re ≤ su - 1) then (if (0 ≤ pr ∧ pr ≤ 18000) ∧ (0 ≤ q ∧ q ≤ 100000) then pwP tr su re pr q else 0) else 0)), .s (.int .i64 (if isName s = true ∧ (0 ≤ nd ∧ nd ≤ 15) ∧ (1 ≤ tr ∧ tr ≤ 100000) ∧ (0 ≤ su ∧ su ≤ 18000) ∧ (0 ≤ re ∧ re ≤ su - 1) then (if (0 ≤ pr ∧ pr ≤ 18000) ∧ (0 ≤ q ∧ q ≤ 100000) then 0 else 2) else 1))]) := by
  refine den_of_good Tryz.func8 (by decide) rfl (Nat.le_of_ble_eq_true rfl) (Nat.le_of_ble_eq_true rfl) ?_
  refine good_seq fun K1 hK1 => ?_
  refine good_region rfl ?_
  refine ev_k rfl (k_box (by conv => lhs; whnf) rfl rfl rfl ?_)
  refine ev_q rfl (q_assign (by conv => lhs; whnf) ?_)
  refine ev_q rfl (q_assign (by conv => lhs; whnf) ?_)
  refine ev_nil (hK1 _ ?_); clear hK1
  refine good_seq fun K2 hK2 => ?_
  refine good_block ?_
  refine good_seq fun K3 hK3 => ?_
  refine good_region rfl ?_
  refine ev_q rfl (q_loadA tA25 rfl rfl rfl ?_)
  refine ev_q rfl (q_callB rfl rfl (rfl) (D_impl_ValidSubstation _ _ _ _ _ hs) ?_)
  intro b4 hb4; cases b4
  · first | replace hb4 := dF hb4 | skip
    refine ev_q rfl (q_not rfl rfl ?_)
    refine ev_q rfl (q_assign (by conv => lhs; whnf) ?_)
    refine ev_nil (hK3 _ ?_); clear hK3
    refine good_condT rfl ?_
    refine good_seq fun K5 hK5 => ?_
    refine good_region rfl ?_
    refine ev_q rfl (q_assign (by conv => lhs; whnf) ?_)
    refine ev_q rfl (q_assign (by conv => lhs; whnf) ?_)
    refine ev_nil (hK5 _ ?_); clear hK5
    refine good_ret ?_
    repeat (first | refine thenQ_ret ?_ | refine blockQ_ret ?_)
    refine ret_many rfl ?_
    refine res_tmp (by conv => lhs; whnf) rfl ?_
    refine res_tmp (by conv => lhs; whnf) rfl ?_
    refine res_nil ?_
    clear hK2
    exact fTup1 (by first | rfl | exact fI (by first | omega | grind) | (exfalso; first | omega | grind)) (fTup1 (by first | rfl | exact fI (by first | omega | grind) | (exfalso; first | omega | grind)) (rfl))
  · first | replace hb4 := dT hb4 | skip
    refine ev_q rfl (q_not rfl rfl ?_)
    refine ev_q rfl (q_assign (by conv => lhs; whnf) ?_)
    refine ev_nil (hK3 _ ?_); clear hK3
    refine good_condF rfl ?_
    refine good_seq fun K6 hK6 => ?_
    refine good_region rfl ?_
    refine ev_q rfl (q_move (by conv => lhs; whnf) ?_)
    refine ev_q rfl (q_callB rfl rfl (rfl) (D_impl_waterOk ..) ?_)
    intro b7 hb7; cases b7
    · first | replace hb7 := dF hb7 | skip
      refine ev_q rfl (q_not rfl rfl ?_)
      refine ev_q rfl (q_move (by conv => lhs; whnf) ?_)
      refine ev_skip rfl ?_
      refine ev_skip rfl ?_
      refine ev_skip rfl ?_
      refine ev_q rfl (q_pickT rfl (by conv => lhs; whnf) ?_)
      refine ev_q rfl (q_assign (by conv => lhs; whnf) ?_)
      refine ev_nil (hK6 _ ?_); clear hK6
      refine good_condT rfl ?_
      refine good_seq fun K8 hK8 => ?_
      refine good_region rfl ?_
      refine ev_q rfl (q_assign (by conv => lhs; whnf) ?_)
      refine ev_q rfl (q_assign (by conv => lhs; whnf) ?_)
      refine ev_nil (hK8 _ ?_); clear hK8
      refine good_ret ?_
      repeat (first | refine thenQ_ret ?_ | refine blockQ_ret ?_)
      refine ret_many rfl ?_
      refine res_tmp (by conv => lhs; whnf) rfl ?_
      refine res_tmp (by conv => lhs; whnf) rfl ?_
      refine res_nil ?_
      clear hK2
      exact fTup1 (by first | rfl | exact fI (by first | omega | grind) | (exfalso; first | omega | grind)) (fTup1 (by first | rfl | exact fI (by first | omega | grind) | (exfalso; first | omega | grind)) (rfl))
    · first | replace hb7 := dT hb7 | skip
      refine ev_q rfl (q_not rfl rfl ?_)
      refine ev_q rfl (q_move (by conv => lhs; whnf) ?_)
      refine ev_q rfl (q_move (by conv => lhs; whnf) ?_)
      refine ev_q rfl (q_callB rfl rfl (rfl) (D_impl_within ..) ?_)
      intro b9 hb9; cases b9
      · first | replace hb9 := dF hb9 | skip
        refine ev_q rfl (q_not rfl rfl ?_)
        refine ev_q rfl (q_pickF rfl (by conv => lhs; whnf) ?_)
        refine ev_q rfl (q_assign (by conv => lhs; whnf) ?_)
        refine ev_nil (hK6 _ ?_); clear hK6
        refine good_condT rfl ?_
        refine good_seq fun K10 hK10 => ?_
        refine good_region rfl ?_
        refine ev_q rfl (q_assign (by conv => lhs; whnf) ?_)
        refine ev_q rfl (q_assign (by conv => lhs; whnf) ?_)
        refine ev_nil (hK10 _ ?_); clear hK10
        refine good_ret ?_
        repeat (first | refine thenQ_ret ?_ | refine blockQ_ret ?_)
        refine ret_many rfl ?_
        refine res_tmp (by conv => lhs; whnf) rfl ?_
        refine res_tmp (by conv => lhs; whnf) rfl ?_
        refine res_nil ?_
        clear hK2
        exact fTup1 (by first | rfl | exact fI (by first | omega | grind) | (exfalso; first | omega | grind)) (fTup1 (by first | rfl | exact fI (by first | omega | grind) | (exfalso; first | omega | grind)) (rfl))
      · first | replace hb9 := dT hb9 | skip
        refine ev_q rfl (q_not rfl rfl ?_)
        refine ev_q rfl (q_pickF rfl (by conv => lhs; whnf) ?_)
        refine ev_q rfl (q_assign (by conv => lhs; whnf) ?_)
        refine ev_nil (hK6 _ ?_); clear hK6
        refine good_condF rfl ?_
        refine good_skip (hK2 _ ?_); clear hK2
        refine good_seq fun K11 hK11 => ?_
        refine good_region rfl ?_
        refine ev_q rfl (q_loadA tA25 rfl rfl rfl ?_)
        refine ev_q rfl (q_move (by conv => lhs; whnf) ?_)
        refine ev_q rfl (q_move (by conv => lhs; whnf) ?_)
        refine ev_q rfl (q_callI rfl rfl (rfl) (D_impl_Substation_power s nd tr su re pr q (by omega) (by omega) (by omega) (by omega) (by omega)) ?_)
        intro n12 hn12
        refine ev_q rfl (q_assign (by conv => lhs; whnf) ?_)
        refine ev_q rfl (q_assign (by conv => lhs; whnf) ?_)
        refine ev_nil (hK11 _ ?_); clear hK11
        refine good_ret ?_
        repeat (first | refine thenQ_ret ?_ | refine blockQ_ret ?_)
        refine ret_many rfl ?_
        refine res_tmp (by conv => lhs; whnf) rfl ?_
        refine res_tmp (by conv => lhs; whnf) rfl ?_
        refine res_nil ?_
        exact fTup1 (by first | rfl | exact fI (by first | omega | grind) | (exfalso; first | omega | grind)) (fTup1 (by first | rfl | exact fI (by first | omega | grind) | (exfalso; first | omega | grind)) (rfl))

-- impl.ReturnAt
set_option maxRecDepth 20000 in
set_option maxHeartbeats 2000000 in
theorem D_impl_ReturnAt (s : ByteArray) (nd tr su re : Int) (pr q : Int) (hs : s.size ≤ 140737488351232) : Den Tryz.prog 7 [.agg [.s (.string s), .s (.int .i64 nd), .s (.int .i64 tr), .s (.int .i64 su), .s (.int .i64 re)], .s (.int .i64 pr), .s (.int .i64 q)] (.tup [.s (.int .i64 (if isName s = true ∧ (0 ≤ nd ∧ nd ≤ 15) ∧ (1 ≤ tr ∧ tr ≤ 100000) ∧ (0 ≤ su ∧ su ≤ 18000) ∧ (0 ≤ re ∧ re ≤ su - 1) then (if (0 ≤ pr ∧ pr ≤ 18000) ∧ (0 ≤ q ∧ q ≤ 100000) then (if pr < re then 0 else bB (lesP tr su re pr q) re pr) else 0) else 0)), .s (.int .i64 (if isName s = true ∧ (0 ≤ nd ∧ nd ≤ 15) ∧ (1 ≤ tr ∧ tr ≤ 100000) ∧ (0 ≤ su ∧ su ≤ 18000) ∧ (0 ≤ re ∧ re ≤ su - 1) then (if (0 ≤ pr ∧ pr ≤ 18000) ∧ (0 ≤ q ∧ q ≤ 100000) then (if pr < re then 6 else 0) else 2) else 1))]) := by
  refine den_of_good Tryz.func7 (by decide) rfl (Nat.le_of_ble_eq_true rfl) (Nat.le_of_ble_eq_true rfl) ?_
  refine good_seq fun K1 hK1 => ?_
  refine good_region rfl ?_
  refine ev_k rfl (k_box (by conv => lhs; whnf) rfl rfl rfl ?_)
  refine ev_q rfl (q_assign (by conv => lhs; whnf) ?_)
  refine ev_q rfl (q_assign (by conv => lhs; whnf) ?_)
  refine ev_nil (hK1 _ ?_); clear hK1
  refine good_seq fun K2 hK2 => ?_
  refine good_block ?_
  refine good_seq fun K3 hK3 => ?_
  refine good_region rfl ?_
  refine ev_q rfl (q_loadA tA25 rfl rfl rfl ?_)
  refine ev_q rfl (q_callB rfl rfl (rfl) (D_impl_ValidSubstation _ _ _ _ _ hs) ?_)
  intro b4 hb4; cases b4
  · first | replace hb4 := dF hb4 | skip
    refine ev_q rfl (q_not rfl rfl ?_)
    refine ev_q rfl (q_assign (by conv => lhs; whnf) ?_)
    refine ev_nil (hK3 _ ?_); clear hK3
    refine good_condT rfl ?_
    refine good_seq fun K5 hK5 => ?_
    refine good_region rfl ?_
    refine ev_q rfl (q_assign (by conv => lhs; whnf) ?_)
    refine ev_q rfl (q_assign (by conv => lhs; whnf) ?_)
    refine ev_nil (hK5 _ ?_); clear hK5
    refine good_ret ?_
    repeat (first | refine thenQ_ret ?_ | refine blockQ_ret ?_)
    refine ret_many rfl ?_
    refine res_tmp (by conv => lhs; whnf) rfl ?_
    refine res_tmp (by conv => lhs; whnf) rfl ?_
    refine res_nil ?_
    clear hK2
    exact fTup1 (by first | rfl | exact fI (by first | omega | grind) | (exfalso; first | omega | grind)) (fTup1 (by first | rfl | exact fI (by first | omega | grind) | (exfalso; first | omega | grind)) (rfl))
  · first | replace hb4 := dT hb4 | skip
    refine ev_q rfl (q_not rfl rfl ?_)
    refine ev_q rfl (q_assign (by conv => lhs; whnf) ?_)
    refine ev_nil (hK3 _ ?_); clear hK3
    refine good_condF rfl ?_
    refine good_seq fun K6 hK6 => ?_
    refine good_region rfl ?_
    refine ev_q rfl (q_move (by conv => lhs; whnf) ?_)
    refine ev_q rfl (q_callB rfl rfl (rfl) (D_impl_waterOk ..) ?_)
    intro b7 hb7; cases b7
    · first | replace hb7 := dF hb7 | skip
      refine ev_q rfl (q_not rfl rfl ?_)
      refine ev_q rfl (q_move (by conv => lhs; whnf) ?_)
      refine ev_skip rfl ?_
      refine ev_skip rfl ?_
      refine ev_skip rfl ?_
      refine ev_q rfl (q_pickT rfl (by conv => lhs; whnf) ?_)
      refine ev_q rfl (q_assign (by conv => lhs; whnf) ?_)
      refine ev_nil (hK6 _ ?_); clear hK6
      refine good_condT rfl ?_
      refine good_seq fun K8 hK8 => ?_
      refine good_region rfl ?_
      refine ev_q rfl (q_assign (by conv => lhs; whnf) ?_)
      refine ev_q rfl (q_assign (by conv => lhs; whnf) ?_)
      refine ev_nil (hK8 _ ?_); clear hK8
      refine good_ret ?_
      repeat (first | refine thenQ_ret ?_ | refine blockQ_ret ?_)
      refine ret_many rfl ?_
      refine res_tmp (by conv => lhs; whnf) rfl ?_
      refine res_tmp (by conv => lhs; whnf) rfl ?_
      refine res_nil ?_
      clear hK2
      exact fTup1 (by first | rfl | exact fI (by first | omega | grind) | (exfalso; first | omega | grind)) (fTup1 (by first | rfl | exact fI (by first | omega | grind) | (exfalso; first | omega | grind)) (rfl))
    · first | replace hb7 := dT hb7 | skip
      refine ev_q rfl (q_not rfl rfl ?_)
      refine ev_q rfl (q_move (by conv => lhs; whnf) ?_)
      refine ev_q rfl (q_move (by conv => lhs; whnf) ?_)
      refine ev_q rfl (q_callB rfl rfl (rfl) (D_impl_within ..) ?_)
      intro b9 hb9; cases b9
      · first | replace hb9 := dF hb9 | skip
        refine ev_q rfl (q_not rfl rfl ?_)
        refine ev_q rfl (q_pickF rfl (by conv => lhs; whnf) ?_)
        refine ev_q rfl (q_assign (by conv => lhs; whnf) ?_)
        refine ev_nil (hK6 _ ?_); clear hK6
        refine good_condT rfl ?_
        refine good_seq fun K10 hK10 => ?_
        refine good_region rfl ?_
        refine ev_q rfl (q_assign (by conv => lhs; whnf) ?_)
        refine ev_q rfl (q_assign (by conv => lhs; whnf) ?_)
        refine ev_nil (hK10 _ ?_); clear hK10
        refine good_ret ?_
        repeat (first | refine thenQ_ret ?_ | refine blockQ_ret ?_)
        refine ret_many rfl ?_
        refine res_tmp (by conv => lhs; whnf) rfl ?_
        refine res_tmp (by conv => lhs; whnf) rfl ?_
        refine res_nil ?_
        clear hK2
        exact fTup1 (by first | rfl | exact fI (by first | omega | grind) | (exfalso; first | omega | grind)) (fTup1 (by first | rfl | exact fI (by first | omega | grind) | (exfalso; first | omega | grind)) (rfl))
      · first | replace hb9 := dT hb9 | skip
        refine ev_q rfl (q_not rfl rfl ?_)
        refine ev_q rfl (q_pickF rfl (by conv => lhs; whnf) ?_)
        refine ev_q rfl (q_assign (by conv => lhs; whnf) ?_)
        refine ev_nil (hK6 _ ?_); clear hK6
        refine good_condF rfl ?_
        refine good_seq fun K11 hK11 => ?_
        refine good_region rfl ?_
        refine ev_q rfl (q_move (by conv => lhs; whnf) ?_)
        refine ev_q rfl (q_fieldAddrP fO25_4 rfl rfl ?_)
        refine ev_q rfl (q_load tA2 rfl ?_)
        refine ev_q rfl (q_int rfl rfl ?_)
        intro b12 hb12; cases b12
        · replace hb12 := dF hb12
          refine ev_q rfl (q_assign (by conv => lhs; whnf) ?_)
          refine ev_nil (hK11 _ ?_); clear hK11
          refine good_condF rfl ?_
          refine good_skip (hK2 _ ?_); clear hK2
          refine good_seq fun K13 hK13 => ?_
          refine good_region rfl ?_
          refine ev_q rfl (q_loadA tA25 rfl rfl rfl ?_)
          refine ev_q rfl (q_move (by conv => lhs; whnf) ?_)
          refine ev_q rfl (q_move (by conv => lhs; whnf) ?_)
          refine ev_q rfl (q_call rfl rfl (rfl) (D_impl_Substation_bestBack s nd tr su re pr q (by omega) (by omega) (by omega) (by omega) (by omega) (by omega)) rfl ?_)
          refine ev_q rfl (q_move (by conv => lhs; whnf) ?_)
          refine ev_q rfl (q_extractI rfl rfl ?_)
          intro n14 hn14
          refine ev_q rfl (q_extractI rfl rfl ?_)
          intro n15 hn15
          refine ev_q rfl (q_assign (by conv => lhs; whnf) ?_)
          refine ev_q rfl (q_assign (by conv => lhs; whnf) ?_)
          refine ev_nil (hK13 _ ?_); clear hK13
          refine good_seq fun K16 hK16 => ?_
          refine good_region rfl ?_
          refine ev_q rfl (q_move (by conv => lhs; whnf) ?_)
          refine ev_q rfl (q_assign (by conv => lhs; whnf) ?_)
          refine ev_q rfl (q_assign (by conv => lhs; whnf) ?_)
          refine ev_nil (hK16 _ ?_); clear hK16
          refine good_ret ?_
          repeat (first | refine thenQ_ret ?_ | refine blockQ_ret ?_)
          refine ret_many rfl ?_
          refine res_tmp (by conv => lhs; whnf) rfl ?_
          refine res_tmp (by conv => lhs; whnf) rfl ?_
          refine res_nil ?_
          exact fTup1 (by first | rfl | exact fI (by first | omega | grind) | (exfalso; first | omega | grind)) (fTup1 (by first | rfl | exact fI (by first | omega | grind) | (exfalso; first | omega | grind)) (rfl))
        · replace hb12 := dT hb12
          refine ev_q rfl (q_assign (by conv => lhs; whnf) ?_)
          refine ev_nil (hK11 _ ?_); clear hK11
          refine good_condT rfl ?_
          refine good_seq fun K17 hK17 => ?_
          refine good_region rfl ?_
          refine ev_q rfl (q_assign (by conv => lhs; whnf) ?_)
          refine ev_q rfl (q_assign (by conv => lhs; whnf) ?_)
          refine ev_nil (hK17 _ ?_); clear hK17
          refine good_ret ?_
          repeat (first | refine thenQ_ret ?_ | refine blockQ_ret ?_)
          refine ret_many rfl ?_
          refine res_tmp (by conv => lhs; whnf) rfl ?_
          refine res_tmp (by conv => lhs; whnf) rfl ?_
          refine res_nil ?_
          clear hK2
          exact fTup1 (by first | rfl | exact fI (by first | omega | grind) | (exfalso; first | omega | grind)) (fTup1 (by first | rfl | exact fI (by first | omega | grind) | (exfalso; first | omega | grind)) (rfl))

-- impl.pressureOk
set_option maxRecDepth 20000 in
set_option maxHeartbeats 2000000 in
theorem D_impl_pressureOk (a : Int)  : Den Tryz.prog 54 [.s (.int .i64 a)] (.s (.bool (decide (0 ≤ a ∧ a ≤ 100000000)))) := by
  refine den_of_good Tryz.func54 (by decide) rfl (Nat.le_of_ble_eq_true rfl) (Nat.le_of_ble_eq_true rfl) ?_
  refine good_seq fun K1 hK1 => ?_
  refine good_region rfl ?_
  refine ev_q rfl (q_assign (by conv => lhs; whnf) ?_)
  refine ev_nil (hK1 _ ?_); clear hK1
  refine good_seq fun K2 hK2 => ?_
  refine good_region rfl ?_
  refine ev_q rfl (q_move (by conv => lhs; whnf) ?_)
  refine ev_q rfl (q_callB rfl rfl (rfl) (D_impl_within ..) ?_)
  intro b3 hb3; cases b3
  · first | replace hb3 := dF hb3 | skip
    refine ev_q rfl (q_assign (by conv => lhs; whnf) ?_)
    refine ev_nil (hK2 _ ?_); clear hK2
    refine good_ret ?_
    repeat (first | refine thenQ_ret ?_ | refine blockQ_ret ?_)
    refine ret_tmp (st := _) rfl (by conv => lhs; whnf) rfl ?_
    first | rfl | exact fT (by first | omega | grind) | exact fF (by first | omega | grind) | exact fT' (by first | omega | grind) | (exfalso; first | omega | grind)
  · first | replace hb3 := dT hb3 | skip
    refine ev_q rfl (q_assign (by conv => lhs; whnf) ?_)
    refine ev_nil (hK2 _ ?_); clear hK2
    refine good_ret ?_
    repeat (first | refine thenQ_ret ?_ | refine blockQ_ret ?_)
    refine ret_tmp (st := _) rfl (by conv => lhs; whnf) rfl ?_
    first | rfl | exact fT (by first | omega | grind) | exact fF (by first | omega | grind) | exact fT' (by first | omega | grind) | (exfalso; first | omega | grind)

-- impl.orState
set_option maxRecDepth 20000 in
set_option maxHeartbeats 2000000 in
theorem D_impl_orState_F (n : Int)  : Den Tryz.prog 55 [.s (.int .i64 n), .s (.bool false)] (.tup [.s (.int .i64 0), .s (.int .i64 6)]) := by
  refine den_of_good Tryz.func55 (by decide) rfl (Nat.le_of_ble_eq_true rfl) (Nat.le_of_ble_eq_true rfl) ?_
  refine good_seq fun K1 hK1 => ?_
  refine good_region rfl ?_
  refine ev_q rfl (q_assign (by conv => lhs; whnf) ?_)
  refine ev_q rfl (q_assign (by conv => lhs; whnf) ?_)
  refine ev_nil (hK1 _ ?_); clear hK1
  refine good_seq fun K2 hK2 => ?_
  refine good_seq fun K3 hK3 => ?_
  refine good_region rfl ?_
  refine ev_q rfl (q_move (by conv => lhs; whnf) ?_)
  refine ev_q rfl (q_not rfl rfl ?_)
  refine ev_nil (hK3 _ ?_); clear hK3
  refine good_condT rfl ?_
  refine good_seq fun K4 hK4 => ?_
  refine good_region rfl ?_
  refine ev_q rfl (q_assign (by conv => lhs; whnf) ?_)
  refine ev_q rfl (q_assign (by conv => lhs; whnf) ?_)
  refine ev_nil (hK4 _ ?_); clear hK4
  refine good_ret ?_
  repeat (first | refine thenQ_ret ?_ | refine blockQ_ret ?_)
  refine ret_many rfl ?_
  refine res_tmp (by conv => lhs; whnf) rfl ?_
  refine res_tmp (by conv => lhs; whnf) rfl ?_
  refine res_nil ?_
  clear hK2
  exact fTup1 (by first | rfl | exact fI (by first | omega | grind) | (exfalso; first | omega | grind)) (fTup1 (by first | rfl | exact fI (by first | omega | grind) | (exfalso; first | omega | grind)) (rfl))
set_option maxRecDepth 20000 in
set_option maxHeartbeats 2000000 in
theorem D_impl_orState_T (n : Int)  : Den Tryz.prog 55 [.s (.int .i64 n), .s (.bool true)] (.tup [.s (.int .i64 n), .s (.int .i64 0)]) := by
  refine den_of_good Tryz.func55 (by decide) rfl (Nat.le_of_ble_eq_true rfl) (Nat.le_of_ble_eq_true rfl) ?_
  refine good_seq fun K1 hK1 => ?_
  refine good_region rfl ?_
  refine ev_q rfl (q_assign (by conv => lhs; whnf) ?_)
  refine ev_q rfl (q_assign (by conv => lhs; whnf) ?_)
  refine ev_nil (hK1 _ ?_); clear hK1
  refine good_seq fun K2 hK2 => ?_
  refine good_seq fun K3 hK3 => ?_
  refine good_region rfl ?_
  refine ev_q rfl (q_move (by conv => lhs; whnf) ?_)
  refine ev_q rfl (q_not rfl rfl ?_)
  refine ev_nil (hK3 _ ?_); clear hK3
  refine good_condF rfl ?_
  refine good_skip (hK2 _ ?_); clear hK2
  refine good_seq fun K4 hK4 => ?_
  refine good_region rfl ?_
  refine ev_q rfl (q_move (by conv => lhs; whnf) ?_)
  refine ev_q rfl (q_assign (by conv => lhs; whnf) ?_)
  refine ev_q rfl (q_assign (by conv => lhs; whnf) ?_)
  refine ev_nil (hK4 _ ?_); clear hK4
  refine good_ret ?_
  repeat (first | refine thenQ_ret ?_ | refine blockQ_ret ?_)
  refine ret_many rfl ?_
  refine res_tmp (by conv => lhs; whnf) rfl ?_
  refine res_tmp (by conv => lhs; whnf) rfl ?_
  refine res_nil ?_
  exact fTup1 (by first | rfl | exact fI (by first | omega | grind) | (exfalso; first | omega | grind)) (fTup1 (by first | rfl | exact fI (by first | omega | grind) | (exfalso; first | omega | grind)) (rfl))

-- sort.Search
set_option maxRecDepth 20000 in
set_option maxHeartbeats 2000000 in
theorem D_sort_Search (f : Nat) (caps : List AV) (p : Int → Prop) [DecidablePred p] (n : Nat) (hn : n ≤ 4611686018427387903) (mono : ∀ i j : Nat, i ≤ j → j < n → p i → p j) (hf : ∀ i : Nat, i < n → Den Tryz.prog f (.s (.int .i64 i) :: caps) (.s (.bool (decide (p i))))) : Den Tryz.prog 108 [.s (.int .i64 n), .fn f caps] (.s (.int .i64 (srN p n))) := by
  refine den_of_good Tryz.func108 (by decide) rfl (Nat.le_of_ble_eq_true rfl) (Nat.le_of_ble_eq_true rfl) ?_
  refine good_seq fun K1 hK1 => ?_
  refine good_region rfl ?_
  refine ev_q rfl (q_assign (by conv => lhs; whnf) ?_)
  refine ev_nil (hK1 _ ?_); clear hK1
  refine good_seq fun K2 hK2 => ?_
  refine good_region rfl ?_
  refine ev_q rfl (q_move (by conv => lhs; whnf) ?_)
  refine ev_q rfl (q_assign (by conv => lhs; whnf) ?_)
  refine ev_q rfl (q_assign (by conv => lhs; whnf) ?_)
  refine ev_nil (hK2 _ ?_); clear hK2
  refine good_seq fun K3 hK3 => ?_
  refine good_block ?_
  refine good_loop (α := Nat × Nat) (fun (i, j) => { env := upd (upd (upd ((fun _ => .junk)) 1 (.fn f caps)) 5 (.s (.int .i64 i))) 6 (.s (.int .i64 j)), H := fun _ => none }) (fun (i, j) => i ≤ j ∧ j ≤ n ∧ (∀ k : Nat, k < i → ¬ p k) ∧ (∀ k : Nat, j ≤ k → k < n → p k)) (fun (i, j) => j - i) (0, n) ?_ ?_ ?_
  · exact ⟨Nat.zero_le _, Nat.le_refl _, fun k h => absurd h (Nat.not_lt_zero _), fun k h1 h2 => absurd h1 (Nat.not_le_of_lt h2)⟩
  · refine sub_weak ?_ ?_
    · exact weakH_none _
    · refine weakE_upd ?e6 ?r6 (weakE_upd ?e5 ?r5 (weakE_upd ?e1 ?r1 (weakE_junk _ _)))
      case e1 => first | rfl | exact fI (by omega) | (simp_all)
      case r1 => intro h hh; cases hh
      case e5 => first | rfl | exact fI (by omega) | (simp_all)
      case r5 => intro h hh; cases hh
      case e6 => first | rfl | exact fI (by omega) | (simp_all)
      case r6 => intro h hh; cases hh
  · rintro ⟨i, j⟩ ⟨hI1, hI2, hI3, hI4⟩
    refine good_seq fun K4 hK4 => ?_
    refine good_seq fun K5 hK5 => ?_
    refine good_region rfl ?_
    refine ev_q rfl (q_move (by conv => lhs; whnf) ?_)
    refine ev_q rfl (q_move (by conv => lhs; whnf) ?_)
    refine ev_q rfl (q_int rfl rfl ?_)
    intro b6 hb6; cases b6
    · replace hb6 := dF hb6
      refine ev_nil (hK5 _ ?_); clear hK5
      refine good_condF rfl ?_
      refine good_exit ?_
      repeat (first | refine thenQ_exit ?_ | refine blockQ_pass rfl ?_)
      refine blockQ_exit (hK3 _ ?_); clear hK3
      refine good_seq fun K7 hK7 => ?_
      refine good_region rfl ?_
      refine ev_q rfl (q_move (by conv => lhs; whnf) ?_)
      refine ev_q rfl (q_assign (by conv => lhs; whnf) ?_)
      refine ev_nil (hK7 _ ?_); clear hK7
      refine good_ret ?_
      repeat (first | refine thenQ_ret ?_ | refine blockQ_ret ?_)
      refine ret_tmp (st := _) rfl (by conv => lhs; whnf) rfl ?_
      clear hK4
      exact fI (by rw [srN_uniq (p := p) (n := n) (k := i) (by omega) hI3 (fun h => hI4 i (by omega) h)])
    · replace hb6 := dT hb6
      refine ev_nil (hK5 _ ?_); clear hK5
      refine good_condT rfl ?_
      refine good_skip (hK4 _ ?_); clear hK4
      refine good_block ?_
      refine good_seq fun K8 hK8 => ?_
      refine good_region rfl ?_
      refine ev_q rfl (q_move (by conv => lhs; whnf) ?_)
      refine ev_q rfl (q_move (by conv => lhs; whnf) ?_)
      refine ev_q rfl (q_int rfl rfl ?_)
      intro n9 hn9
      replace hn9 := in64 hn9 (by omega) (by omega)
      refine ev_q rfl (q_conv tK3 tK130 rfl ?_)
      intro n10 hn10
      replace hn10 := wrapU hn10 (by omega) (by omega)
      refine ev_q rfl (q_shr rfl rfl ⟨by omega, ?_⟩)
      intro n11 hn11
      replace hn11 := shr1 hn11 (by omega)
      refine ev_q rfl (q_conv tK130 tK3 rfl ?_)
      intro n12 hn12
      replace hn12 := in64 hn12 (by omega) (by omega)
      obtain ⟨k, hk⟩ : ∃ k : Nat, n12 = (k : Int) := ⟨n12.toNat, by omega⟩
      subst hk
      have hkj : i ≤ k ∧ k < j := by omega
      refine ev_q rfl (q_assign (by conv => lhs; whnf) ?_)
      refine ev_nil (hK8 _ ?_); clear hK8
      refine good_seq fun K13 hK13 => ?_
      refine good_region rfl ?_
      refine ev_q rfl (q_move (by conv => lhs; whnf) ?_)
      refine ev_q rfl (q_move (by conv => lhs; whnf) ?_)
      refine ev_q rfl (q_callB rfl rfl (rfl) (hf _ (by omega)) ?_)
      intro b14 hb14; cases b14
      · first | replace hb14 := dF hb14 | skip
        refine ev_q rfl (q_not rfl rfl ?_)
        refine ev_nil (hK13 _ ?_); clear hK13
        refine good_condT rfl ?_
        refine good_region rfl ?_
        refine ev_q rfl (q_move (by conv => lhs; whnf) ?_)
        refine ev_q rfl (q_int rfl rfl ?_)
        intro n15 hn15
        replace hn15 := in64 hn15 (by omega) (by omega)
        refine ev_q rfl (q_assign (by conv => lhs; whnf) ?_)
        refine ev_nil ?_
        clear hK3
        refine ⟨(k + 1, j), ?_, ?_, ?_⟩
        · exact ⟨(show k + 1 ≤ j by omega), hI2, fun q hq hp => absurd (mono q k (Nat.le_of_lt_succ hq) (by omega) hp) (by assumption), hI4⟩
        · first | (show j - (k + 1) < j - i; omega) | (show k - i < j - i; omega)
        · refine sub_weak ?_ ?_
          · exact weakH_none _
          · refine weakE_upd ?e6 ?r6 (weakE_upd ?e5 ?r5 (weakE_upd ?e1 ?r1 (weakE_junk _ _)))
            case e1 => first | rfl | exact fI (by omega) | (simp_all)
            case r1 => intro h hh; cases hh
            case e5 => first | rfl | exact fI (by omega) | (simp_all)
            case r5 => intro h hh; cases hh
            case e6 => first | rfl | exact fI (by omega) | (simp_all)
            case r6 => intro h hh; cases hh
      · first | replace hb14 := dT hb14 | skip
        refine ev_q rfl (q_not rfl rfl ?_)
        refine ev_nil (hK13 _ ?_); clear hK13
        refine good_condF rfl ?_
        refine good_region rfl ?_
        refine ev_q rfl (q_move (by conv => lhs; whnf) ?_)
        refine ev_q rfl (q_assign (by conv => lhs; whnf) ?_)
        refine ev_nil ?_
        clear hK3
        refine ⟨(i, k), ?_, ?_, ?_⟩
        · exact ⟨hkj.1, (show k ≤ n by omega), hI3, fun q hq hqn => mono k q hq hqn (by assumption)⟩
        · first | (show j - (k + 1) < j - i; omega) | (show k - i < j - i; omega)
        · refine sub_weak ?_ ?_
          · exact weakH_none _
          · refine weakE_upd ?e6 ?r6 (weakE_upd ?e5 ?r5 (weakE_upd ?e1 ?r1 (weakE_junk _ _)))
            case e1 => first | rfl | exact fI (by omega) | (simp_all)
            case r1 => intro h hh; cases hh
            case e5 => first | rfl | exact fI (by omega) | (simp_all)
            case r5 => intro h hh; cases hh
            case e6 => first | rfl | exact fI (by omega) | (simp_all)
            case r6 => intro h hh; cases hh

-- impl.firstIn$1
set_option maxRecDepth 20000 in
set_option maxHeartbeats 2000000 in
theorem D_impl_firstIn_1 (f : Nat) (caps : List AV) (p : Int → Prop) [DecidablePred p] (i lo : Int) (h1 : -4000000000000 ≤ i ∧ i ≤ 4000000000000) (h2 : -1000000000000 ≤ lo ∧ lo ≤ 1000000000000) (hf : Den Tryz.prog f (.s (.int .i64 (lo + i)) :: caps) (.s (.bool (decide (p (lo + i)))))) : Den Tryz.prog 109 [.s (.int .i64 i), .rp [.fn f caps], .rp [.s (.int .i64 lo)]] (.s (.bool (decide (p (lo + i))))) := by
  refine den_of_good Tryz.func109 (by decide) rfl (Nat.le_of_ble_eq_true rfl) (Nat.le_of_ble_eq_true rfl) ?_
  refine good_seq fun K1 hK1 => ?_
  refine good_region rfl ?_
  refine ev_q rfl (q_assign (by conv => lhs; whnf) ?_)
  refine ev_nil (hK1 _ ?_); clear hK1
  refine good_seq fun K2 hK2 => ?_
  refine good_region rfl ?_
  refine ev_q rfl (q_load tA65 rfl ?_)
  refine ev_q rfl (q_load tA2 rfl ?_)
  refine ev_q rfl (q_move (by conv => lhs; whnf) ?_)
  refine ev_q rfl (q_int rfl rfl ?_)
  intro n3 hn3
  replace hn3 := in64 hn3 (by omega) (by omega)
  subst hn3
  refine ev_q rfl (q_callB rfl rfl (rfl) hf ?_)
  intro b4 hb4; cases b4
  · first | replace hb4 := dF hb4 | skip
    refine ev_q rfl (q_assign (by conv => lhs; whnf) ?_)
    refine ev_nil (hK2 _ ?_); clear hK2
    refine good_ret ?_
    repeat (first | refine thenQ_ret ?_ | refine blockQ_ret ?_)
    refine ret_tmp (st := _) rfl (by conv => lhs; whnf) rfl ?_
    first | exact fT (by assumption) | exact fF (by assumption)
  · first | replace hb4 := dT hb4 | skip
    refine ev_q rfl (q_assign (by conv => lhs; whnf) ?_)
    refine ev_nil (hK2 _ ?_); clear hK2
    refine good_ret ?_
    repeat (first | refine thenQ_ret ?_ | refine blockQ_ret ?_)
    refine ret_tmp (st := _) rfl (by conv => lhs; whnf) rfl ?_
    first | exact fT (by assumption) | exact fF (by assumption)

-- impl.firstIn
set_option maxRecDepth 20000 in
set_option maxHeartbeats 2000000 in
theorem D_impl_firstIn (f : Nat) (caps : List AV) (p : Int → Prop) [DecidablePred p] (lo hi : Int) (h1 : -1000000000000 ≤ lo ∧ lo ≤ 1000000000000) (h2 : -1000000000000 ≤ hi ∧ hi ≤ 1000000000000) (h3 : lo ≤ hi + 1) (mono : ∀ a b : Int, lo ≤ a → a ≤ b → b ≤ hi → p a → p b) (hf : ∀ a : Int, lo ≤ a → a ≤ hi → Den Tryz.prog f (.s (.int .i64 a) :: caps) (.s (.bool (decide (p a))))) : Den Tryz.prog 87 [.s (.int .i64 lo), .s (.int .i64 hi), .fn f caps] (.tup [.s (.int .i64 (lst p lo hi)), .s (.bool (decide (lst p lo hi ≤ hi)))]) := by
  have hs := lst_spec p h3
  obtain ⟨m, hm⟩ : ∃ m : Nat, hi - lo + 1 = (m : Int) := ⟨(hi - lo + 1).toNat, by omega⟩
  have hm2 : (hi - lo + 1).toNat = m := by omega
  have hl : lst p lo hi = lo + srN (fun i => p (lo + i)) m := by unfold lst; rw [hm2]
  refine den_of_good Tryz.func87 (by decide) rfl (Nat.le_of_ble_eq_true rfl) (Nat.le_of_ble_eq_true rfl) ?_
  refine good_seq fun K1 hK1 => ?_
  refine good_region rfl ?_
  refine ev_k rfl (k_box (by conv => lhs; whnf) rfl rfl rfl ?_)
  refine ev_k rfl (k_box (by conv => lhs; whnf) rfl rfl rfl ?_)
  refine ev_q rfl (q_assign (by conv => lhs; whnf) ?_)
  refine ev_q rfl (q_assign (by conv => lhs; whnf) ?_)
  refine ev_nil (hK1 _ ?_); clear hK1
  refine good_seq fun K2 hK2 => ?_
  refine good_region rfl ?_
  refine ev_q rfl (q_move (by conv => lhs; whnf) ?_)
  refine ev_q rfl (q_load tA2 rfl ?_)
  refine ev_q rfl (q_int rfl rfl ?_)
  intro n3 hn3
  replace hn3 := in64 hn3 (by omega) (by omega)
  refine ev_q rfl (q_int rfl rfl ?_)
  intro n4 hn4
  replace hn4 := in64 hn4 (by omega) (by omega)
  rw [hn3, hm] at hn4
  subst hn4
  refine ev_q rfl (q_assign (by conv => lhs; whnf) ?_)
  refine ev_nil (hK2 _ ?_); clear hK2
  refine good_seq fun K5 hK5 => ?_
  refine good_region rfl ?_
  refine ev_q rfl (q_move (by conv => lhs; whnf) ?_)
  refine ev_q rfl (q_clo rfl rfl ?_)
  refine ev_q rfl (q_callI rfl rfl (rfl) (D_sort_Search _ _ (fun i => p (lo + i)) m (by omega) (fun i j h1 h2 h3 => mono _ _ (by omega) (by omega) (by omega) h3) (fun i h => D_impl_firstIn_1 f caps p i lo (by omega) (by omega) (hf _ (by omega) (by omega)))) ?_)
  intro n6 hn6
  refine ev_q rfl (q_assign (by conv => lhs; whnf) ?_)
  refine ev_nil (hK5 _ ?_); clear hK5
  refine good_seq fun K7 hK7 => ?_
  refine good_region rfl ?_
  refine ev_q rfl (q_load tA2 rfl ?_)
  refine ev_q rfl (q_move (by conv => lhs; whnf) ?_)
  refine ev_q rfl (q_int rfl rfl ?_)
  intro n8 hn8
  replace hn8 := in64 hn8 (by omega) (by omega)
  refine ev_q rfl (q_move (by conv => lhs; whnf) ?_)
  refine ev_q rfl (q_move (by conv => lhs; whnf) ?_)
  refine ev_q rfl (q_int rfl rfl ?_)
  intro b9 hb9; cases b9
  · replace hb9 := dF hb9
    refine ev_q rfl (q_assign (by conv => lhs; whnf) ?_)
    refine ev_q rfl (q_assign (by conv => lhs; whnf) ?_)
    refine ev_nil (hK7 _ ?_); clear hK7
    refine good_ret ?_
    repeat (first | refine thenQ_ret ?_ | refine blockQ_ret ?_)
    refine ret_many rfl ?_
    refine res_tmp (by conv => lhs; whnf) rfl ?_
    refine res_tmp (by conv => lhs; whnf) rfl ?_
    refine res_nil ?_
    exact fTup1 (by first | rfl | exact fI (by first | omega | grind) | (exfalso; first | omega | grind)) (fTup1 (by first | rfl | exact fT (by first | omega | grind) | exact fF (by first | omega | grind) | exact fT' (by first | omega | grind) | (exfalso; first | omega | grind)) (rfl))
  · replace hb9 := dT hb9
    refine ev_q rfl (q_assign (by conv => lhs; whnf) ?_)
    refine ev_q rfl (q_assign (by conv => lhs; whnf) ?_)
    refine ev_nil (hK7 _ ?_); clear hK7
    refine good_ret ?_
    repeat (first | refine thenQ_ret ?_ | refine blockQ_ret ?_)
    refine ret_many rfl ?_
    refine res_tmp (by conv => lhs; whnf) rfl ?_
    refine res_tmp (by conv => lhs; whnf) rfl ?_
    refine res_nil ?_
    exact fTup1 (by first | rfl | exact fI (by first | omega | grind) | (exfalso; first | omega | grind)) (fTup1 (by first | rfl | exact fT (by first | omega | grind) | exact fF (by first | omega | grind) | exact fT' (by first | omega | grind) | (exfalso; first | omega | grind)) (rfl))

-- (impl.Substation).primaryFlow$1
set_option maxRecDepth 20000 in
set_option maxHeartbeats 2000000 in
theorem D_impl_Substation_primaryFlow_1 (s : ByteArray) (nd tr su re : Int) (pr ld q : Int) (hq : 0 ≤ q ∧ q ≤ 100000) (hp : 0 ≤ pr ∧ pr ≤ 18000) (ht : 0 ≤ tr ∧ tr ≤ 100000) (hsu : 0 ≤ su ∧ su ≤ 18000) (hre : 0 ≤ re ∧ re ≤ 18000) : Den Tryz.prog 88 [.s (.int .i64 q), .rp [.s (.string s), .s (.int .i64 nd), .s (.int .i64 tr), .s (.int .i64 su), .s (.int .i64 re)], .rp [.s (.int .i64 pr)], .rp [.s (.int .i64 ld)]] (.s (.bool (decide (pwP tr su re pr q ≥ ld)))) := by
  refine den_of_good Tryz.func88 (by decide) rfl (Nat.le_of_ble_eq_true rfl) (Nat.le_of_ble_eq_true rfl) ?_
  refine good_seq fun K1 hK1 => ?_
  refine good_region rfl ?_
  refine ev_q rfl (q_assign (by conv => lhs; whnf) ?_)
  refine ev_nil (hK1 _ ?_); clear hK1
  refine good_seq fun K2 hK2 => ?_
  refine good_draw 7 hmix (by kernel_rfl) rfl ?_
  refine qo_q rfl (q_loadA tA25 rfl rfl rfl ?_)
  refine qo_q rfl (q_load tA2 rfl ?_)
  refine qo_q rfl (q_move (by conv => lhs; whnf) ?_)
  refine qo_q rfl (q_callI rfl rfl (rfl) (D_impl_Substation_power s nd tr su re pr q hq hp ht hsu hre) ?_)
  intro n3 hn3
  refine qo_q rfl (q_load tA2 rfl ?_)
  refine qo_q rfl (q_int rfl rfl ?_)
  intro b4 hb4; cases b4
  · replace hb4 := dF hb4
    refine qo_q rfl (q_assign (by conv => lhs; whnf) ?_)
    refine qo_nil ?_
    refine ev_nil (hK2 _ ?_); clear hK2
    refine good_ret ?_
    repeat (first | refine thenQ_ret ?_ | refine blockQ_ret ?_)
    refine ret_tmp (st := _) rfl (by conv => lhs; whnf) rfl ?_
    first | exact fT (by omega) | exact fF (by omega)
  · replace hb4 := dT hb4
    refine qo_q rfl (q_assign (by conv => lhs; whnf) ?_)
    refine qo_nil ?_
    refine ev_nil (hK2 _ ?_); clear hK2
    refine good_ret ?_
    repeat (first | refine thenQ_ret ?_ | refine blockQ_ret ?_)
    refine ret_tmp (st := _) rfl (by conv => lhs; whnf) rfl ?_
    first | exact fT (by omega) | exact fF (by omega)

-- (impl.Substation).primaryFlow
set_option maxRecDepth 20000 in
set_option maxHeartbeats 2000000 in
theorem D_impl_Substation_primaryFlow (s : ByteArray) (nd tr su re : Int) (pr ld : Int) (hp : 0 ≤ pr ∧ pr ≤ 18000) (ht : 0 ≤ tr ∧ tr ≤ 100000) (hsu : 0 ≤ su ∧ su ≤ 18000) (hre : 0 ≤ re ∧ re ≤ 18000) : Den Tryz.prog 52 [.agg [.s (.string s), .s (.int .i64 nd), .s (.int .i64 tr), .s (.int .i64 su), .s (.int .i64 re)], .s (.int .i64 pr), .s (.int .i64 ld)] (.tup [.s (.int .i64 (pfP tr su re pr ld)), .s (.bool (decide (pfP tr su re pr ld ≤ 100000)))]) := by
  refine den_of_good Tryz.func52 (by decide) rfl (Nat.le_of_ble_eq_true rfl) (Nat.le_of_ble_eq_true rfl) ?_
  refine good_seq fun K1 hK1 => ?_
  refine good_region rfl ?_
  refine ev_k rfl (k_box (by conv => lhs; whnf) rfl rfl rfl ?_)
  refine ev_k rfl (k_box (by conv => lhs; whnf) rfl rfl rfl ?_)
  refine ev_k rfl (k_box (by conv => lhs; whnf) rfl rfl rfl ?_)
  refine ev_q rfl (q_assign (by conv => lhs; whnf) ?_)
  refine ev_q rfl (q_assign (by conv => lhs; whnf) ?_)
  refine ev_nil (hK1 _ ?_); clear hK1
  refine good_seq fun K2 hK2 => ?_
  refine good_region rfl ?_
  refine ev_q rfl (q_clo rfl rfl ?_)
  refine ev_q rfl (q_call rfl rfl (rfl) (D_impl_firstIn _ _ (fun n => pwP tr su re pr n ≥ ld) 0 100000 (by omega) (by omega) (by omega) (fun a b h1 h2 h3 h4 => Int.le_trans h4 (pw_q h2)) (fun a h1 h2 => D_impl_Substation_primaryFlow_1 s nd tr su re pr ld a ⟨h1, h2⟩ hp ht hsu hre)) rfl ?_)
  refine ev_q rfl (q_extractI rfl rfl ?_)
  intro n3 hn3
  refine ev_q rfl (q_extractB rfl rfl ?_)
  intro b4 hb4; cases b4
  · first | replace hb4 := dF hb4 | skip
    refine ev_q rfl (q_assign (by conv => lhs; whnf) ?_)
    refine ev_q rfl (q_assign (by conv => lhs; whnf) ?_)
    refine ev_nil (hK2 _ ?_); clear hK2
    refine good_ret ?_
    repeat (first | refine thenQ_ret ?_ | refine blockQ_ret ?_)
    refine ret_many rfl ?_
    refine res_tmp (by conv => lhs; whnf) rfl ?_
    refine res_tmp (by conv => lhs; whnf) rfl ?_
    refine res_nil ?_
    first | exact fTup1 (fI (by assumption)) (fTup1 (fT (by assumption)) rfl) | exact fTup1 (fI (by assumption)) (fTup1 (fF (by assumption)) rfl)
  · first | replace hb4 := dT hb4 | skip
    refine ev_q rfl (q_assign (by conv => lhs; whnf) ?_)
    refine ev_q rfl (q_assign (by conv => lhs; whnf) ?_)
    refine ev_nil (hK2 _ ?_); clear hK2
    refine good_ret ?_
    repeat (first | refine thenQ_ret ?_ | refine blockQ_ret ?_)
    refine ret_many rfl ?_
    refine res_tmp (by conv => lhs; whnf) rfl ?_
    refine res_tmp (by conv => lhs; whnf) rfl ?_
    refine res_nil ?_
    first | exact fTup1 (fI (by assumption)) (fTup1 (fT (by assumption)) rfl) | exact fTup1 (fI (by assumption)) (fTup1 (fF (by assumption)) rfl)

-- impl.PrimaryFlow
set_option maxRecDepth 20000 in
set_option maxHeartbeats 2000000 in
theorem D_impl_PrimaryFlow (s : ByteArray) (nd tr su re : Int) (pr ld : Int) (hs : s.size ≤ 140737488351232) : Den Tryz.prog 17 [.agg [.s (.string s), .s (.int .i64 nd), .s (.int .i64 tr), .s (.int .i64 su), .s (.int .i64 re)], .s (.int .i64 pr), .s (.int .i64 ld)] (.tup [.s (.int .i64 (if isName s = true ∧ (0 ≤ nd ∧ nd ≤ 15) ∧ (1 ≤ tr ∧ tr ≤ 100000) ∧ (0 ≤ su ∧ su ≤ 18000) ∧ (0 ≤ re ∧ re ≤ su - 1) then (if (0 ≤ pr ∧ pr ≤ 18000) ∧ (0 ≤ ld ∧ ld ≤ 100000000) then (if pfP tr su re pr ld ≤ 100000 then pfP tr su re pr ld else 0) else 0) else 0)), .s (.int .i64 (if isName s = true ∧ (0 ≤ nd ∧ nd ≤ 15) ∧ (1 ≤ tr ∧ tr ≤ 100000) ∧ (0 ≤ su ∧ su ≤ 18000) ∧ (0 ≤ re ∧ re ≤ su - 1) then (if (0 ≤ pr ∧ pr ≤ 18000) ∧ (0 ≤ ld ∧ ld ≤ 100000000) then (if pfP tr su re pr ld ≤ 100000 then 0 else 6) else 2) else 1))]) := by
  refine den_of_good Tryz.func17 (by decide) rfl (Nat.le_of_ble_eq_true rfl) (Nat.le_of_ble_eq_true rfl) ?_
  refine good_seq fun K1 hK1 => ?_
  refine good_region rfl ?_
  refine ev_k rfl (k_box (by conv => lhs; whnf) rfl rfl rfl ?_)
  refine ev_q rfl (q_assign (by conv => lhs; whnf) ?_)
  refine ev_q rfl (q_assign (by conv => lhs; whnf) ?_)
  refine ev_nil (hK1 _ ?_); clear hK1
  refine good_seq fun K2 hK2 => ?_
  refine good_block ?_
  refine good_seq fun K3 hK3 => ?_
  refine good_region rfl ?_
  refine ev_q rfl (q_loadA tA25 rfl rfl rfl ?_)
  refine ev_q rfl (q_callB rfl rfl (rfl) (D_impl_ValidSubstation _ _ _ _ _ hs) ?_)
  intro b4 hb4; cases b4
  · first | replace hb4 := dF hb4 | skip
    refine ev_q rfl (q_not rfl rfl ?_)
    refine ev_q rfl (q_assign (by conv => lhs; whnf) ?_)
    refine ev_nil (hK3 _ ?_); clear hK3
    refine good_condT rfl ?_
    refine good_seq fun K5 hK5 => ?_
    refine good_region rfl ?_
    refine ev_q rfl (q_assign (by conv => lhs; whnf) ?_)
    refine ev_q rfl (q_assign (by conv => lhs; whnf) ?_)
    refine ev_nil (hK5 _ ?_); clear hK5
    refine good_ret ?_
    repeat (first | refine thenQ_ret ?_ | refine blockQ_ret ?_)
    refine ret_many rfl ?_
    refine res_tmp (by conv => lhs; whnf) rfl ?_
    refine res_tmp (by conv => lhs; whnf) rfl ?_
    refine res_nil ?_
    clear hK2
    exact fTup1 (by first | rfl | exact fI (by first | omega | grind) | (exfalso; first | omega | grind)) (fTup1 (by first | rfl | exact fI (by first | omega | grind) | (exfalso; first | omega | grind)) (rfl))
  · first | replace hb4 := dT hb4 | skip
    refine ev_q rfl (q_not rfl rfl ?_)
    refine ev_q rfl (q_assign (by conv => lhs; whnf) ?_)
    refine ev_nil (hK3 _ ?_); clear hK3
    refine good_condF rfl ?_
    refine good_seq fun K6 hK6 => ?_
    refine good_region rfl ?_
    refine ev_q rfl (q_move (by conv => lhs; whnf) ?_)
    refine ev_q rfl (q_callB rfl rfl (rfl) (D_impl_waterOk ..) ?_)
    intro b7 hb7; cases b7
    · first | replace hb7 := dF hb7 | skip
      refine ev_q rfl (q_not rfl rfl ?_)
      refine ev_q rfl (q_move (by conv => lhs; whnf) ?_)
      refine ev_skip rfl ?_
      refine ev_skip rfl ?_
      refine ev_skip rfl ?_
      refine ev_q rfl (q_pickT rfl (by conv => lhs; whnf) ?_)
      refine ev_q rfl (q_assign (by conv => lhs; whnf) ?_)
      refine ev_nil (hK6 _ ?_); clear hK6
      refine good_condT rfl ?_
      refine good_seq fun K8 hK8 => ?_
      refine good_region rfl ?_
      refine ev_q rfl (q_assign (by conv => lhs; whnf) ?_)
      refine ev_q rfl (q_assign (by conv => lhs; whnf) ?_)
      refine ev_nil (hK8 _ ?_); clear hK8
      refine good_ret ?_
      repeat (first | refine thenQ_ret ?_ | refine blockQ_ret ?_)
      refine ret_many rfl ?_
      refine res_tmp (by conv => lhs; whnf) rfl ?_
      refine res_tmp (by conv => lhs; whnf) rfl ?_
      refine res_nil ?_
      clear hK2
      exact fTup1 (by first | rfl | exact fI (by first | omega | grind) | (exfalso; first | omega | grind)) (fTup1 (by first | rfl | exact fI (by first | omega | grind) | (exfalso; first | omega | grind)) (rfl))
    · first | replace hb7 := dT hb7 | skip
      refine ev_q rfl (q_not rfl rfl ?_)
      refine ev_q rfl (q_move (by conv => lhs; whnf) ?_)
      refine ev_q rfl (q_move (by conv => lhs; whnf) ?_)
      refine ev_q rfl (q_callB rfl rfl (rfl) (D_impl_pressureOk ..) ?_)
      intro b9 hb9; cases b9
      · first | replace hb9 := dF hb9 | skip
        refine ev_q rfl (q_not rfl rfl ?_)
        refine ev_q rfl (q_pickF rfl (by conv => lhs; whnf) ?_)
        refine ev_q rfl (q_assign (by conv => lhs; whnf) ?_)
        refine ev_nil (hK6 _ ?_); clear hK6
        refine good_condT rfl ?_
        refine good_seq fun K10 hK10 => ?_
        refine good_region rfl ?_
        refine ev_q rfl (q_assign (by conv => lhs; whnf) ?_)
        refine ev_q rfl (q_assign (by conv => lhs; whnf) ?_)
        refine ev_nil (hK10 _ ?_); clear hK10
        refine good_ret ?_
        repeat (first | refine thenQ_ret ?_ | refine blockQ_ret ?_)
        refine ret_many rfl ?_
        refine res_tmp (by conv => lhs; whnf) rfl ?_
        refine res_tmp (by conv => lhs; whnf) rfl ?_
        refine res_nil ?_
        clear hK2
        exact fTup1 (by first | rfl | exact fI (by first | omega | grind) | (exfalso; first | omega | grind)) (fTup1 (by first | rfl | exact fI (by first | omega | grind) | (exfalso; first | omega | grind)) (rfl))
      · first | replace hb9 := dT hb9 | skip
        refine ev_q rfl (q_not rfl rfl ?_)
        refine ev_q rfl (q_pickF rfl (by conv => lhs; whnf) ?_)
        refine ev_q rfl (q_assign (by conv => lhs; whnf) ?_)
        refine ev_nil (hK6 _ ?_); clear hK6
        refine good_condF rfl ?_
        refine good_skip (hK2 _ ?_); clear hK2
        refine good_seq fun K11 hK11 => ?_
        refine good_region rfl ?_
        refine ev_q rfl (q_loadA tA25 rfl rfl rfl ?_)
        refine ev_q rfl (q_move (by conv => lhs; whnf) ?_)
        refine ev_q rfl (q_move (by conv => lhs; whnf) ?_)
        refine ev_q rfl (q_call rfl rfl (rfl) (D_impl_Substation_primaryFlow s nd tr su re pr ld (by omega) (by omega) (by omega) (by omega)) rfl ?_)
        refine ev_q rfl (q_extractI rfl rfl ?_)
        intro n12 hn12
        refine ev_q rfl (q_extractB rfl rfl ?_)
        intro b13 hb13; cases b13
        · first | replace hb13 := dF hb13 | skip
          refine ev_q rfl (q_call rfl rfl (rfl) (by first | exact (D_impl_orState_T _) | exact (D_impl_orState_F _)) rfl ?_)
          refine ev_q rfl (q_extractI rfl rfl ?_)
          intro n14 hn14
          refine ev_q rfl (q_extractI rfl rfl ?_)
          intro n15 hn15
          refine ev_q rfl (q_assign (by conv => lhs; whnf) ?_)
          refine ev_q rfl (q_assign (by conv => lhs; whnf) ?_)
          refine ev_nil (hK11 _ ?_); clear hK11
          refine good_ret ?_
          repeat (first | refine thenQ_ret ?_ | refine blockQ_ret ?_)
          refine ret_many rfl ?_
          refine res_tmp (by conv => lhs; whnf) rfl ?_
          refine res_tmp (by conv => lhs; whnf) rfl ?_
          refine res_nil ?_
          exact fTup1 (by first | rfl | exact fI (by first | omega | grind) | (exfalso; first | omega | grind)) (fTup1 (by first | rfl | exact fI (by first | omega | grind) | (exfalso; first | omega | grind)) (rfl))
        · first | replace hb13 := dT hb13 | skip
          refine ev_q rfl (q_call rfl rfl (rfl) (by first | exact (D_impl_orState_T _) | exact (D_impl_orState_F _)) rfl ?_)
          refine ev_q rfl (q_extractI rfl rfl ?_)
          intro n16 hn16
          refine ev_q rfl (q_extractI rfl rfl ?_)
          intro n17 hn17
          refine ev_q rfl (q_assign (by conv => lhs; whnf) ?_)
          refine ev_q rfl (q_assign (by conv => lhs; whnf) ?_)
          refine ev_nil (hK11 _ ?_); clear hK11
          refine good_ret ?_
          repeat (first | refine thenQ_ret ?_ | refine blockQ_ret ?_)
          refine ret_many rfl ?_
          refine res_tmp (by conv => lhs; whnf) rfl ?_
          refine res_tmp (by conv => lhs; whnf) rfl ?_
          refine res_nil ?_
          exact fTup1 (by first | rfl | exact fI (by first | omega | grind) | (exfalso; first | omega | grind)) (fTup1 (by first | rfl | exact fI (by first | omega | grind) | (exfalso; first | omega | grind)) (rfl))

end Go.Proofs.YtodghlkodiidaaaGreatDoor.DFnReturns
