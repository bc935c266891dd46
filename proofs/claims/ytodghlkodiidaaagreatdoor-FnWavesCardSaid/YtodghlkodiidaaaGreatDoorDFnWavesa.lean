/- Walks through the functions that FnWaves reaches: what each answers. -/
import Derived.Test.YtodghlkodiidaaaGreatDoorEvO
import Derived.Test.YtodghlkodiidaaaGreatDoorProg
import Derived.Test.YtodghlkodiidaaaGreatDoorEvZ
import Derived.Test.YtodghlkodiidaaaGreatDoorPlain
set_option linter.unusedVariables false
set_option linter.unusedSimpArgs false
namespace Go.Proofs.YtodghlkodiidaaaGreatDoor.DFnWaves
open Go Go.RowKit Go.Proofs Go.Proofs.YtodghlkodiidaaaGreatDoor Go.Proofs.YtodghlkodiidaaaGreatDoor.Ev
def small (u : UInt8) : Bool := decide (97 ≤ u.toNat ∧ u.toNat ≤ 122)
def digit (u : UInt8) : Bool := decide (48 ≤ u.toNat ∧ u.toNat ≤ 57)
def nbc (u : UInt8) : Bool := small u || digit u
def allNb (s : ByteArray) : Bool := s.data.all nbc
def head1 (s : ByteArray) : Bool := match s[0]? with
  | some u => small u
  | none => false
def isName (s : ByteArray) : Bool := decide (1 ≤ s.size) && decide (s.size ≤ 10) && head1 s && allNb s
theorem getB {s : ByteArray} {i : Nat} (h : i < s.size) : ∃ u, s[i]? = some u := ⟨s[i], by simp [h]⟩
theorem allNb_T {s : ByteArray} (h : ∀ j u, j < s.size → s[j]? = some u → nbc u = true) : allNb s = true := by
  unfold allNb
  rw [Array.all_eq_true]
  intro i hi
  exact h i _ hi (getElem?_pos s i hi)
theorem allNb_F {s : ByteArray} {j : Nat} {u : UInt8} (h : s[j]? = some u) (hn : nbc u = false) : allNb s = false := by
  have hj : j < s.size := by
    apply Classical.byContradiction; intro hc
    rw [getElem?_neg s j hc] at h; cases h
  unfold allNb
  rw [Array.all_eq_false]
  refine ⟨j, hj, ?_⟩
  rw [getElem?_pos s j hj] at h
  cases h
  intro hc
  have hc2 : nbc s[j] = true := hc
  rw [hn] at hc2; cases hc2
theorem isName_long {s : ByteArray} (h : ¬ s.size ≤ 10) : isName s = false := by simp [isName, h]
theorem isName_none {s : ByteArray} (h : s.size = 0) : isName s = false := by simp [isName, h]
theorem isName_head {s : ByteArray} {u : UInt8} (h : s[0]? = some u) (hn : small u = false) : isName s = false := by simp [isName, head1, h, hn]
theorem isName_eq {s : ByteArray} {u : UInt8} (h1 : 1 ≤ s.size) (h2 : s.size ≤ 10) (h : s[0]? = some u) (hn : small u = true) : isName s = allNb s := by simp [isName, head1, h, hn, h1, h2]
theorem fB {b c : Bool} (h : b = c) : AV.s (.bool b) = .s (.bool c) := by rw [h]
def ci (n : Int) : AV := .s (.int .i64 n)
def within (xs : List Int) (lo hi : Int) : Prop := ∀ (j : Nat) (q : Int), xs[j]? = some q → lo ≤ q ∧ q ≤ hi
noncomputable instance (xs : List Int) (lo hi : Int) : Decidable (within xs lo hi) := Classical.propDecidable _
theorem all_extI {α : Type} {xs : List α} {i : Nat} {Q : Nat → α → Prop} {p : α} (hJ : ∀ j q, j < i → xs[j]? = some q → Q j q) (hp : xs[i]? = some p) (h : Q i p) : ∀ j q, j < i + 1 → xs[j]? = some q → Q j q := by
  intro j q hj hq
  by_cases e : j = i
  · subst e; rw [hp] at hq; cases hq; exact h
  · exact hJ j q (by omega) hq
theorem all_finI {α : Type} {xs : List α} {i : Nat} {Q : Nat → α → Prop} (hJ : ∀ j q, j < i → xs[j]? = some q → Q j q) (hi : xs.length ≤ i) : ∀ j q, xs[j]? = some q → Q j q := by
  intro j q hq
  exact hJ j q (by have := (List.getElem?_eq_some_iff.1 hq).1; omega) hq
def stp (p : Int × Int) : AV := .agg [.s (.int .i64 p.1), .s (.int .i64 p.2)]
def zst : AV := .agg [.s (.int .i64 0), .s (.int .i64 0)]
def wv (xs : List (Int × Int)) : AV := .lst 2 (xs.map stp)
def okAt (xs : List (Int × Int)) (j : Nat) (p : Int × Int) : Prop := (0 ≤ p.1 ∧ p.1 ≤ 1000000) ∧ (-5000 ≤ p.2 ∧ p.2 ≤ 20000) ∧ (j = 0 → p.1 = 0) ∧ ∀ q, 0 < j → xs[j - 1]? = some q → q.1 < p.1
def waveOk (xs : List (Int × Int)) : Prop := (1 ≤ xs.length ∧ xs.length ≤ 24) ∧ ∀ j p, xs[j]? = some p → okAt xs j p
noncomputable instance (xs : List (Int × Int)) : Decidable (waveOk xs) := Classical.propDecidable _
theorem wave_no {xs : List (Int × Int)} {i : Nat} {p : Int × Int} (h : xs[i]? = some p) (hn : ¬ okAt xs i p) : ¬ waveOk xs := fun ⟨_, h2⟩ => hn (h2 i p h)
theorem wave_iff {xs : List (Int × Int)} (h : ∀ j p, xs[j]? = some p → okAt xs j p) : (1 ≤ (xs.length : Int) ∧ (xs.length : Int) ≤ 24) ↔ waveOk xs := ⟨fun h2 => ⟨by omega, h⟩, fun ⟨h2, _⟩ => by omega⟩
theorem all_ext {xs : List (Int × Int)} {i : Nat} {Q : Nat → Int × Int → Prop} {p : Int × Int} (hJ : ∀ j q, j < i → xs[j]? = some q → Q j q) (hp : xs[i]? = some p) (h : Q i p) : ∀ j q, j < i + 1 → xs[j]? = some q → Q j q := by
  intro j q hj hq
  by_cases e : j = i
  · subst e; rw [hp] at hq; cases hq; exact h
  · exact hJ j q (by omega) hq
theorem all_fin {xs : List (Int × Int)} {i : Nat} {Q : Nat → Int × Int → Prop} (hJ : ∀ j q, j < i → xs[j]? = some q → Q j q) (hi : xs.length ≤ i) : ∀ j q, xs[j]? = some q → Q j q := by
  intro j q hq
  exact hJ j q (by have := (List.getElem?_eq_some_iff.1 hq).1; omega) hq
def fiM {α : Type} (f : α → Bool) (xs : List α) : Int := match xs.findIdx? f with
  | some j => (j : Int)
  | none => -1
theorem fi_some {α : Type} {xs : List α} {p : α → Prop} [DecidablePred p] {i : Nat} {q : α} (hq : xs[i]? = some q) (hJ : ∀ (j : Nat) (q : α), j < i → xs[j]? = some q → ¬ p q) (h : p q) : xs.findIdx? (fun x => decide (p x)) = some i := by
  rw [List.findIdx?_eq_some_iff_getElem]
  obtain ⟨hl, he⟩ := List.getElem?_eq_some_iff.1 hq
  refine ⟨hl, by simpa [he] using h, fun j hj => ?_⟩
  simpa using hJ j _ hj (List.getElem?_eq_getElem (by omega))
theorem fi_none {α : Type} {xs : List α} {p : α → Prop} [DecidablePred p] (hJ : ∀ (j : Nat) (q : α), xs[j]? = some q → ¬ p q) : xs.findIdx? (fun x => decide (p x)) = none := by
  rw [List.findIdx?_eq_none_iff]
  intro x hx
  obtain ⟨j, hj⟩ := List.getElem?_of_mem hx
  simpa using hJ j x hj
theorem fi_any {α : Type} {xs : List α} {p : α → Prop} [DecidablePred p] : (0 : Int) ≤ fiM (fun x => decide (p x)) xs ↔ ∃ x ∈ xs, p x := by
  unfold fiM
  cases h : xs.findIdx? (fun x => decide (p x)) with
  | none =>
    rw [List.findIdx?_eq_none_iff] at h
    simp at h ⊢
    exact h
  | some j =>
    rw [List.findIdx?_eq_some_iff_getElem] at h
    obtain ⟨hl, h1, _⟩ := h
    simp only [Int.natCast_nonneg, true_iff]
    exact ⟨_, List.getElem_mem hl, by simpa using h1⟩
theorem within_any {xs : List Int} {lo hi : Int} : within xs lo hi ↔ ¬ ∃ x ∈ xs, ¬ (lo ≤ x ∧ x ≤ hi) := by
  constructor
  · intro h ⟨x, hx, hn⟩
    obtain ⟨j, hj⟩ := List.getElem?_of_mem hx
    exact hn (h j x hj)
  · intro h j q hq
    apply Classical.byContradiction
    intro hn
    exact h ⟨q, List.mem_of_getElem? hq, hn⟩
theorem sub_shrE {N : Nat} {st : St} (t k d : Nat) {ty sz n : Nat} {es es' : List AV} (ht : st.env t = .own k n) (hk : st.H k = some (.row ty sz es)) (hd : st.H d = none) (hdn : d < 1000000) (he : es.take n = es') :
    Sub N st { env := upd (fun i => killV k (st.env i)) t (.own d n), H := upd (dropH (st.kill k).H (some k)) d (some (.row ty sz es')) } := by subst he; exact sub_shr t k d ht hk hd hdn
theorem nilMap {α : Type} {f : α → AV} {xs : List α} (h : (xs.map f).length = 0) : xs = [] := by simpa using h
def dgA (xs : List (Int × Int)) (j : Nat) : Int := match xs[j]? with
  | some p => p.2
  | none => 0
theorem dgA_eq {xs : List (Int × Int)} {j : Nat} {p : Int × Int} (h : xs[j]? = some p) : dgA xs j = p.2 := by unfold dgA; rw [h]
def trP (xs : List (Int × Int)) (n : Nat) : Prop := n = 0 ∨ ¬ dgA xs n = dgA xs (n - 1)
instance (xs : List (Int × Int)) (n : Nat) : Decidable (trP xs n) := by unfold trP; infer_instance
theorem trP_T {xs : List (Int × Int)} {n : Nat} {p q : Int × Int} (hp : xs[n]? = some p) (hq : xs[n - 1]? = some q) (h : ¬ p.2 = q.2) : trP xs n := .inr (by rw [dgA_eq hp, dgA_eq hq]; exact h)
theorem trP_F {xs : List (Int × Int)} {n : Nat} {p q : Int × Int} (hp : xs[n]? = some p) (hq : xs[n - 1]? = some q) (h0 : ¬ n = 0) (h : p.2 = q.2) : ¬ trP xs n := fun h2 => h2.elim h0 (fun h3 => h3 (by rw [dgA_eq hp, dgA_eq hq]; exact h))
def trG (xs : List (Int × Int)) : Nat → List (Int × Int)
  | 0 => []
  | n + 1 => if trP xs n then trG xs n ++ (match xs[n]? with
    | some p => [p]
    | none => []) else trG xs n
theorem trG_T {xs : List (Int × Int)} {n : Nat} {p : Int × Int} (hp : xs[n]? = some p) (h : trP xs n) : trG xs (n + 1) = trG xs n ++ [p] := by rw [trG, if_pos h, hp]
theorem trG_F {xs : List (Int × Int)} {n : Nat} (h : ¬ trP xs n) : trG xs (n + 1) = trG xs n := by rw [trG, if_neg h]
theorem trG_len {xs : List (Int × Int)} : ∀ n : Nat, (trG xs n).length ≤ n
  | 0 => by simp [trG]
  | n + 1 => by
    have ih := trG_len (xs := xs) n
    by_cases h : trP xs n
    · rw [trG, if_pos h, List.length_append]
      split <;> simp <;> omega
    · rw [trG_F h]; omega
theorem trG_lt {xs : List (Int × Int)} {i : Nat} (h : ¬ trP xs i) : ∀ n : Nat, i < n → (trG xs n).length ≤ n - 1
  | 0, h0 => by omega
  | n + 1, hn => by
    by_cases e : i = n
    · subst e; rw [trG_F h]; have := trG_len (xs := xs) i; omega
    · have ih := trG_lt h n (by omega)
      by_cases h2 : trP xs n
      · rw [trG, if_pos h2, List.length_append]
        split <;> simp <;> omega
      · rw [trG_F h2]; omega
theorem trG_take {xs : List (Int × Int)} : ∀ n : Nat, n ≤ xs.length → (∀ j, 1 ≤ j → j < n → trP xs j) → trG xs n = xs.take n
  | 0, _, _ => by simp [trG]
  | n + 1, hn, h => by
    have hp : xs[n]? = some (xs[n]'(by omega)) := List.getElem?_eq_getElem (by omega)
    have ht : trP xs n := by
      by_cases e : n = 0
      · exact .inl e
      · exact h n (by omega) (by omega)
    rw [trG_T hp ht, trG_take n (by omega) (fun j h1 h2 => h j h1 (by omega)), List.take_add_one, hp]; rfl
theorem trG_self {xs : List (Int × Int)} (h : ∀ j, 1 ≤ j → j < xs.length → trP xs j) : trG xs xs.length = xs := by
  rw [trG_take xs.length (Nat.le_refl _) h, List.take_length]
theorem trP_ext {xs : List (Int × Int)} {i : Nat} (h : ∀ j, 1 ≤ j → j < i → trP xs j) (hi : trP xs i) : ∀ j, 1 ≤ j → j < i + 1 → trP xs j := fun j h1 h2 => by
  by_cases e : j = i
  · subst e; exact hi
  · exact h j h1 (by omega)
theorem trG_last {xs : List (Int × Int)} : ∀ n : Nat, 1 ≤ n → n ≤ xs.length → 1 ≤ (trG xs n).length ∧ ∀ q, (trG xs n)[(trG xs n).length - 1]? = some q → q.2 = dgA xs (n - 1)
  | 0, h, _ => by omega
  | n + 1, _, hn => by
    have hp : xs[n]? = some (xs[n]'(by omega)) := List.getElem?_eq_getElem (by omega)
    by_cases h : trP xs n
    · rw [trG_T hp h]
      refine ⟨by simp, fun q hq => ?_⟩
      rw [List.length_append] at hq
      simp at hq
      subst hq
      exact (dgA_eq hp).symm
    · have h0 : ¬ n = 0 := fun e => h (.inl e)
      have he : dgA xs n = dgA xs (n - 1) := by
        apply Classical.byContradiction; intro hc; exact h (.inr hc)
      obtain ⟨ih1, ih2⟩ := trG_last (xs := xs) n (by omega) (by omega)
      rw [trG_F h]
      exact ⟨ih1, fun q hq => by rw [ih2 q hq]; exact he.symm⟩
theorem trG_mem {xs : List (Int × Int)} : ∀ (n : Nat) (p : Int × Int), p ∈ trG xs n → p ∈ xs
  | 0, p, h => by simp [trG] at h
  | n + 1, p, h => by
    by_cases h2 : trP xs n
    · rw [trG, if_pos h2] at h
      rcases List.mem_append.1 h with h | h
      · exact trG_mem n p h
      · split at h
        · rename_i q hq; simp at h; subst h; exact List.mem_of_getElem? hq
        · simp at h
    · rw [trG_F h2] at h; exact trG_mem n p h
def cpC (xs : List (Int × Int)) : List AV := (trG xs xs.length).map stp ++ List.replicate (xs.length - (trG xs xs.length).length) zst
theorem cpC_len {xs : List (Int × Int)} : (cpC xs).length = xs.length := by have := trG_len (xs := xs) xs.length; simp [cpC]; omega
theorem cpC_same {xs : List (Int × Int)} (h : trG xs xs.length = xs) : cpC xs = xs.map stp := by unfold cpC; rw [h]; simp
theorem cpC_take {xs : List (Int × Int)} : (cpC xs).take (trG xs xs.length).length = (trG xs xs.length).map stp := by unfold cpC; rw [List.take_append_of_le_length (by simp), List.take_of_length_le (by simp)]
def cpR (xs : List (Int × Int)) (n : Nat) : List AV := (trG xs n).map stp ++ (xs.drop (trG xs n).length).map stp
theorem cpR_len {xs : List (Int × Int)} {n : Nat} (h : n ≤ xs.length) : (cpR xs n).length = xs.length := by have := trG_len (xs := xs) n; simp [cpR]; omega
theorem cpR_take {xs : List (Int × Int)} {n m : Nat} (h : trG xs n = xs.take m) (hm : m ≤ xs.length) : cpR xs n = xs.map stp := by
  unfold cpR
  rw [h, List.length_take, Nat.min_eq_left hm, ← List.map_append, List.take_append_drop]
theorem cpR_get {xs : List (Int × Int)} {n m : Nat} {p : Int × Int} (h : xs[m]? = some p) (hm : (trG xs n).length ≤ m) : (cpR xs n)[m]? = some (stp p) := by
  unfold cpR
  rw [List.getElem?_append_right (by simpa using hm), List.getElem?_map, List.length_map, List.getElem?_drop, show (trG xs n).length + (m - (trG xs n).length) = m by omega, h]; rfl
theorem cpR_set {xs : List (Int × Int)} {n : Nat} {p : Int × Int} {v : AV} (hp : xs[n]? = some p) (h : trP xs n) (hv : v = stp p) : (cpR xs n).set (trG xs n).length v = cpR xs (n + 1) := by
  subst hv
  have hl := trG_len (xs := xs) n
  have hn : n < xs.length := (List.getElem?_eq_some_iff.1 hp).1
  unfold cpR
  rw [trG_T hp h, List.set_append_right _ _ (by simp), List.length_map, Nat.sub_self, List.drop_eq_getElem_cons (by omega), List.map_cons, List.set_cons_zero, List.map_append, List.append_assoc, List.length_append]
  rfl
theorem cpR_F {xs : List (Int × Int)} {n : Nat} (h : ¬ trP xs n) : cpR xs n = cpR xs (n + 1) := by unfold cpR; rw [trG_F h]
theorem cpR_clr {xs : List (Int × Int)} {n w m : Nat} (hn : n = xs.length) (hw : w = (trG xs n).length) (hm : m = xs.length - w) : (cpR xs n).take w ++ List.replicate m zst ++ (cpR xs n).drop (w + m) = cpC xs := by
  subst hn hw hm
  have := trG_len (xs := xs) xs.length
  rw [List.drop_eq_nil_of_le (by rw [cpR_len (Nat.le_refl _)]; omega), List.append_nil]
  unfold cpR cpC
  rw [List.take_append_of_le_length (by simp), List.take_of_length_le (by simp)]
def tmB (xs : List (Int × Int)) : Prop := ∃ p ∈ trG xs xs.length, ¬ (0 ≤ p.1 ∧ p.1 ≤ 1000000)
noncomputable instance (xs : List (Int × Int)) : Decidable (tmB xs) := Classical.propDecidable _
noncomputable instance (xs : List (Int × Int)) : Decidable (∃ p ∈ xs, ¬ (0 ≤ p.1 ∧ p.1 ≤ 1000000)) := Classical.propDecidable _
noncomputable def tmC (xs : List (Int × Int)) : Int := if tmB xs then 6 else if (trG xs xs.length).length > 24 then 5 else 0
noncomputable def tmR (xs : List (Int × Int)) : List (Int × Int) := if tmC xs = 0 then trG xs xs.length else []
theorem tmR_ok {xs : List (Int × Int)} (h : tmC xs = 0) : tmR xs = trG xs xs.length := if_pos h
theorem tmR_no {xs : List (Int × Int)} (h : ¬ tmC xs = 0) : tmR xs = [] := if_neg h
theorem tmC_6 {xs : List (Int × Int)} (h : tmB xs) : tmC xs = 6 := if_pos h
theorem tmC_5 {xs : List (Int × Int)} (h : ¬ tmB xs) (h2 : (trG xs xs.length).length > 24) : tmC xs = 5 := by unfold tmC; rw [if_neg h, if_pos h2]
theorem tmC_0 {xs : List (Int × Int)} (h : ¬ tmB xs) (h2 : ¬ (trG xs xs.length).length > 24) : tmC xs = 0 := by unfold tmC; rw [if_neg h, if_neg h2]
theorem tmR_len {xs : List (Int × Int)} : (tmR xs).length ≤ 24 := by
  by_cases h : tmC xs = 0
  · rw [tmR_ok h]
    unfold tmC at h
    split at h
    · omega
    · split at h <;> omega
  · rw [tmR_no h]; simp
theorem tmB_all {xs : List (Int × Int)} {i : Nat} (hJ : ∀ (j : Nat) (q : Int × Int), j < i → (trG xs xs.length)[j]? = some q → 0 ≤ q.1 ∧ q.1 ≤ 1000000) (h : (trG xs xs.length).length ≤ i) : ¬ tmB xs := fun ⟨p, hp, hn⟩ => by
  obtain ⟨j, hj⟩ := List.getElem?_of_mem hp
  exact hn (hJ j p (by have := (List.getElem?_eq_some_iff.1 hj).1; omega) hj)
theorem tm_wave {xs : List (Int × Int)} (ok : waveOk xs) : tmC xs = 0 := by
  refine tmC_0 (fun ⟨p, hp, hn⟩ => ?_) ?_
  · obtain ⟨j, hj⟩ := List.getElem?_of_mem (trG_mem _ _ hp)
    exact hn (ok.2 j p hj).1
  · have := trG_len (xs := xs) xs.length
    have := ok.1.2
    omega
noncomputable def twR (xs : List (Int × Int)) : List (Int × Int) := if waveOk xs then trG xs xs.length else []
theorem twR_ok {xs : List (Int × Int)} (h : waveOk xs) : twR xs = trG xs xs.length := if_pos h
theorem twR_no {xs : List (Int × Int)} (h : ¬ waveOk xs) : twR xs = [] := if_neg h
theorem twR_len {xs : List (Int × Int)} : (twR xs).length ≤ 24 := by
  by_cases h : waveOk xs
  · rw [twR_ok h]; have := trG_len (xs := xs) xs.length; have := h.1.2; omega
  · rw [twR_no h]; simp
def lateF (d : Int) (p : Int × Int) : Int × Int := (p.1 + d, p.2)
def lateG (xs : List (Int × Int)) (d b : Int) (i : Nat) : List (Int × Int) := (if d > 0 then [(0, b)] else []) ++ (xs.take i).map (lateF d)
theorem lateG_s {xs : List (Int × Int)} {d b : Int} {i : Nat} {p : Int × Int} (h : xs[i]? = some p) : lateG xs d b (i + 1) = lateG xs d b i ++ [(p.1 + d, p.2)] := by
  unfold lateG; rw [List.take_add_one, h]; simp [lateF]
theorem lateG_len {xs : List (Int × Int)} {d b : Int} {i : Nat} : (lateG xs d b i).length ≤ i + 1 := by
  unfold lateG; split <;> simp <;> omega
def lateL (xs : List (Int × Int)) (d b : Int) : List (Int × Int) := lateG xs d b xs.length
theorem late0 {xs : List (Int × Int)} {b : Int} : lateL xs 0 b = xs := by
  unfold lateL lateG
  rw [List.take_length]
  have e : lateF 0 = id := by funext p; simp [lateF]
  rw [e]; simp
theorem appS {f : Int × Int → AV} {l l2 : List (Int × Int)} {p : Int × Int} {v : AV} (h : l2 = l ++ [p]) (e : v = f p) : l.map f ++ [v] = l2.map f := by subst h e; simp
noncomputable def dwC (xs : List (Int × Int)) (d b : Int) : Int := if waveOk xs then (if (0 ≤ d ∧ d ≤ 1000000) ∧ (-5000 ≤ b ∧ b ≤ 20000) then tmC (lateL xs d b) else 2) else 1
noncomputable def dwR (xs : List (Int × Int)) (d b : Int) : List (Int × Int) := if dwC xs d b = 0 then trG (lateL xs d b) (lateL xs d b).length else []
theorem dwR_ok {xs : List (Int × Int)} {d b : Int} (h : waveOk xs) (h2 : (0 ≤ d ∧ d ≤ 1000000) ∧ (-5000 ≤ b ∧ b ≤ 20000)) : dwC xs d b = tmC (lateL xs d b) ∧ dwR xs d b = tmR (lateL xs d b) := by
  have e : dwC xs d b = tmC (lateL xs d b) := by unfold dwC; rw [if_pos h, if_pos h2]
  refine ⟨e, ?_⟩
  unfold dwR tmR; rw [e]
theorem dwR_2 {xs : List (Int × Int)} {d b : Int} (h : waveOk xs) (h2 : ¬ ((0 ≤ d ∧ d ≤ 1000000) ∧ (-5000 ≤ b ∧ b ≤ 20000))) : dwC xs d b = 2 ∧ dwR xs d b = [] := by
  have e : dwC xs d b = 2 := by unfold dwC; rw [if_pos h, if_neg h2]
  exact ⟨e, by unfold dwR; rw [if_neg (by omega)]⟩
theorem dwR_1 {xs : List (Int × Int)} {d b : Int} (h : ¬ waveOk xs) : dwC xs d b = 1 ∧ dwR xs d b = [] := by
  have e : dwC xs d b = 1 := by unfold dwC; rw [if_neg h]
  exact ⟨e, by unfold dwR; rw [if_neg (by omega)]⟩
theorem dwR_len {xs : List (Int × Int)} {d b : Int} : (dwR xs d b).length ≤ 24 := by
  by_cases h : waveOk xs
  · by_cases h2 : (0 ≤ d ∧ d ≤ 1000000) ∧ (-5000 ≤ b ∧ b ≤ 20000)
    · rw [(dwR_ok h h2).2]; exact tmR_len
    · rw [(dwR_2 h h2).2]; simp
  · rw [(dwR_1 h).2]; simp
theorem setGet {es : List AV} {i : Nat} {e : AV} (h : i < es.length) : (es.set i e)[i]? = some e := by simp [h]
noncomputable def mkWi (k : Int) (j : Nat) : AV := .agg [.s (.int .i64 (k + 2 * j)), .s (.int .i64 (k + 2 * j + 1))]
noncomputable def mkW (k : Int) (xs : List (Int × Int)) (i : Nat) : List AV := ((List.range i).map (mkWi k)) ++ (xs.drop i).map stp
theorem mkW0 {k : Int} {xs : List (Int × Int)} : mkW k xs 0 = xs.map stp := by simp [mkW]
theorem mkW_len {k : Int} {xs : List (Int × Int)} {i : Nat} (h : i ≤ xs.length) : (mkW k xs i).length = xs.length := by simp [mkW]; omega
theorem mkW_get {k : Int} {xs : List (Int × Int)} {i : Nat} {p : (Int × Int)} (h : xs[i]? = some p) : (mkW k xs i)[i]? = some (stp p) := by
  unfold mkW
  rw [List.getElem?_append_right (by simp)]
  simp [h]
theorem mkW_at {k : Int} {xs : List (Int × Int)} {i : Nat} (h : i < xs.length) : (mkW k xs xs.length)[i]? = some (mkWi k i) := by
  unfold mkW
  rw [List.getElem?_append_left (by simpa using h)]
  simp [h]
theorem mkW_set {k : Int} {xs : List (Int × Int)} {i : Nat} (h : i < xs.length) : (mkW k xs i).set i (mkWi k i) = mkW k xs (i + 1) := by
  unfold mkW
  rw [List.set_append_right _ _ (by simp)]
  simp only [List.length_map, List.length_range, Nat.sub_self]
  rw [List.drop_eq_getElem_cons h, List.map_cons, List.set_cons_zero, List.range_succ, List.map_append]
  simp
theorem mkW_step {k a : Int} {xs : List (Int × Int)} {i : Nat} {e1 : AV} (h : i < xs.length) (ha : a = k + 2 * i + 1) :
    ((mkW k xs i).set i e1).set i (.agg [.s (.int .i64 (k + 2 * i)), .s (.int .i64 a)]) = mkW k xs (i + 1) := by
  subst ha
  simp only [List.set_set]
  exact mkW_set h
theorem mkW_take {k : Int} {xs : List (Int × Int)} : (mkW k xs xs.length).take xs.length = mkW k xs xs.length := takeLen (by rw [mkW_len (Nat.le_refl _)]; exact Nat.le_refl _)
theorem mkW_pure {xs : List (Int × Int)} : (flats (xs.map stp)).all noMem = true := by
  induction xs with
  | nil => rfl
  | cons x xs ih => simp only [List.map_cons, flats, List.flatMap_cons, List.all_append, Bool.and_eq_true]; exact ⟨rfl, ih⟩
theorem lateG_0 {xs : List (Int × Int)} {d b : Int} (h : d > 0) : lateG xs d b 0 = [(0, b)] := by unfold lateG; rw [if_pos h]; simp
theorem lateG_n {xs : List (Int × Int)} {d b : Int} (h : ¬ d > 0) : lateG xs d b 0 = [] := by unfold lateG; rw [if_neg h]; simp
theorem lateL_len {xs : List (Int × Int)} {d b : Int} : (lateL xs d b).length ≤ xs.length + 1 := lateG_len
theorem stpE {a b : Int} {p : Int × Int} (h : a = p.1) (h2 : b = p.2) : AV.agg [.s (.int .i64 a), .s (.int .i64 b)] = stp p := by subst h h2; rfl
def atF (t : Int) (d : Int) (p : Int × Int) : Int := if p.1 ≤ t then p.2 else d
def atG (xs : List (Int × Int)) (t : Int) (i : Nat) : Int := (xs.take i).foldl (atF t) 0
theorem atG_step {xs : List (Int × Int)} {t : Int} {i : Nat} {p : Int × Int} (h : xs[i]? = some p) : atG xs t (i + 1) = if p.1 ≤ t then p.2 else atG xs t i := by
  unfold atG
  rw [List.take_add_one, h]; simp [atF]
def waveAt (xs : List (Int × Int)) (t : Int) : Int := atG xs t xs.length
theorem atG_end {xs : List (Int × Int)} {t : Int} {i : Nat} (h : xs.length ≤ i) : atG xs t i = waveAt xs t := by
  unfold waveAt atG; rw [List.take_of_length_le h, List.take_of_length_le (Nat.le_refl _)]
def loF (m : Int) (p : Int × Int) : Int := if p.2 < m then p.2 else m
def hiF (m : Int) (p : Int × Int) : Int := if p.2 > m then p.2 else m
def loG (xs : List (Int × Int)) (m : Int) (i : Nat) : Int := (xs.take i).foldl loF m
def hiG (xs : List (Int × Int)) (m : Int) (i : Nat) : Int := (xs.take i).foldl hiF m
theorem foldG {α β : Type} {f : β → α → β} {xs : List α} {m : β} {i : Nat} {p : α} (h : xs[i]? = some p) : (xs.take (i + 1)).foldl f m = f ((xs.take i).foldl f m) p := by
  rw [List.take_add_one, h]; simp
theorem take_all {α : Type} {xs : List α} {i : Nat} (h : xs.length ≤ i) : xs.take i = xs.take xs.length := by
  rw [List.take_of_length_le h, List.take_of_length_le (Nat.le_refl _)]
def hd2 (xs : List (Int × Int)) : Int := match xs with
  | [] => 0
  | p :: _ => p.2
theorem hd2_eq {xs : List (Int × Int)} {p : Int × Int} (h : xs[0]? = some p) : hd2 xs = p.2 := by
  cases xs with
  | nil => simp at h
  | cons a l => simp at h; subst h; rfl
theorem lo1 {xs : List (Int × Int)} {p : Int × Int} (h : xs[0]? = some p) : loG xs p.2 1 = p.2 := by
  unfold loG; rw [foldG h]; simp [loF]
theorem hi1 {xs : List (Int × Int)} {p : Int × Int} (h : xs[0]? = some p) : hiG xs p.2 1 = p.2 := by
  unfold hiG; rw [foldG h]; simp [hiF]
def moE (xs : List (Int × Int)) (u : Int) (i : Nat) : Int := match xs[i + 1]? with
  | some q => if u < q.1 then u else q.1
  | none => u
def moK (xs : List (Int × Int)) (f u : Int) (i : Nat) (p : Int × Int) : Int := let a := if f > p.1 then f else p.1; if moE xs u i - a < 0 then 0 else moE xs u i - a
def moG (xs : List (Int × Int)) (f u : Int) : Nat → Int
  | 0 => 0
  | i + 1 => moG xs f u i + (match xs[i]? with
    | some p => p.2 * moK xs f u i p
    | none => 0)
theorem moG_step {xs : List (Int × Int)} {f u : Int} {i : Nat} {p : Int × Int} (h : xs[i]? = some p) : moG xs f u (i + 1) = moG xs f u i + p.2 * moK xs f u i p := by rw [moG, h]
theorem moE_some {xs : List (Int × Int)} {u : Int} {i : Nat} {q : Int × Int} (h : xs[i + 1]? = some q) : moE xs u i = if u < q.1 then u else q.1 := by unfold moE; rw [h]
theorem moE_none {xs : List (Int × Int)} {u : Int} {i : Nat} (h : xs.length ≤ i + 1) : moE xs u i = u := by unfold moE; rw [List.getElem?_eq_none h]
theorem moE_bd {xs : List (Int × Int)} {u : Int} (ok : waveOk xs) (hu : 0 ≤ u ∧ u ≤ 1000000) (i : Nat) : 0 ≤ moE xs u i ∧ moE xs u i ≤ 1000000 := by
  unfold moE
  cases h : xs[i + 1]? with
  | none => exact hu
  | some q => have := (ok.2 _ _ h).1; simp only; split <;> omega
theorem moK_bd {xs : List (Int × Int)} {f u : Int} (ok : waveOk xs) (hf : 0 ≤ f) (hu : 0 ≤ u ∧ u ≤ 1000000) {i : Nat} {p : Int × Int} (hp : xs[i]? = some p) : (0 ≤ moK xs f u i p ∧ moK xs f u i p ≤ 1000000) ∧ (-20000000000 ≤ p.2 * moK xs f u i p ∧ p.2 * moK xs f u i p ≤ 20000000000) := by
  have h1 := moE_bd ok hu i
  have h2 := ok.2 _ _ hp
  have h3 : 0 ≤ moK xs f u i p ∧ moK xs f u i p ≤ 1000000 := by
    have h5 := h2.1
    unfold moK; simp only; omega
  have h4 := mulS (a := p.2) (b := moK xs f u i p) (A := 20000) (B := 1000000) (by have := h2.2.1; omega) (by have := h2.2.1; omega) (by omega) (by omega)
  exact ⟨h3, by omega⟩
theorem moG_bd {xs : List (Int × Int)} {f u : Int} (ok : waveOk xs) (hf : 0 ≤ f) (hu : 0 ≤ u ∧ u ≤ 1000000) : ∀ i : Nat, i ≤ xs.length → -(i * 20000000000) ≤ moG xs f u i ∧ moG xs f u i ≤ i * 20000000000
  | 0, _ => by simp [moG]
  | i + 1, h => by
    have ih := moG_bd ok hf hu i (by omega)
    have hp : xs[i]? = some (xs[i]'(by omega)) := List.getElem?_eq_getElem (by omega)
    have := (moK_bd ok hf hu hp).2
    rw [moG_step hp]
    omega
def fw (xs : List (Int × Int)) (d : Int) : Option (Int × Int) := xs.find? (fun p => decide (d ≤ p.2))
def fwT (xs : List (Int × Int)) (d : Int) : Int := match fw xs d with
  | some p => p.1
  | none => 0
def fwC (xs : List (Int × Int)) (d : Int) : Int := match fw xs d with
  | some _ => 0
  | none => 3
theorem fw_some {xs : List (Int × Int)} {d : Int} {i : Nat} {p : Int × Int} (hp : xs[i]? = some p) (hJ : ∀ (j : Nat) (q : Int × Int), j < i → xs[j]? = some q → q.2 < d) (h : d ≤ p.2) : fw xs d = some p := by
  unfold fw
  rw [List.find?_eq_some_iff_getElem]
  obtain ⟨hl, he⟩ := List.getElem?_eq_some_iff.1 hp
  refine ⟨by simpa using h, i, hl, he, fun j hj => ?_⟩
  have := hJ j _ hj (List.getElem?_eq_getElem (by omega))
  simp; omega
theorem fw_none {xs : List (Int × Int)} {d : Int} (hJ : ∀ (j : Nat) (q : Int × Int), xs[j]? = some q → q.2 < d) : fw xs d = none := by
  unfold fw
  rw [List.find?_eq_none]
  intro x hx
  obtain ⟨j, hj⟩ := List.getElem?_of_mem hx
  have := hJ j x hj
  simp; omega
def dAV (n : Int) : AV := .s (.string (dec n))
def u8A (n : Int) : AV := .s (.int .u8 n)
theorem fS {a b : ByteArray} (h : a = b) : AV.s (.string a) = .s (.string b) := by rw [h]
theorem dec_0 : (⟨#[48]⟩ : ByteArray) = dec 0 := by simp [dec, tx, Lib.itoa, Lib.decDigits]
theorem sz_app {a b c : ByteArray} (h : a = b ++ c) : a.size = b.size + c.size := by rw [h, ByteArray.size_append]
theorem takeS {α : Type} {xs : List α} {i : Nat} {q : α} (h : xs[i]? = some q) : xs.take (i + 1) = xs.take i ++ [q] := by rw [List.take_add_one, h]; rfl
theorem appG {α : Type} {f : α → AV} {l l2 : List α} {p : α} {v : AV} (h : l2 = l ++ [p]) (e : v = f p) : l.map f ++ [v] = l2.map f := by subst h e; simp
theorem ltx_s1 {xs : List Int} {i : Nat} {q : Int} {s : ByteArray} (hq : xs[i]? = some q) (h : ¬ (i : Int) > 0) (h2 : s = tx (ltx (xs.take i)) ++ dec q) : s = tx (ltx (xs.take (i + 1))) := by
  have h0 : i = 0 := by omega
  subst h0
  rw [h2, ltx_take hq, if_pos rfl]
  show tx [] ++ dec q = dec q
  unfold dec; rw [tx_app]; rfl
theorem ltx_s2 {xs : List Int} {i : Nat} {q : Int} {s u : ByteArray} (hq : xs[i]? = some q) (h : (i : Int) > 0) (h1 : u = tx (ltx (xs.take i)) ++ ⟨#[44]⟩) (h2 : s = u ++ dec q) : s = tx (ltx (xs.take (i + 1))) := by
  rw [h2, h1, ltx_take hq, if_neg (by omega)]
  show tx (ltx (xs.take i)) ++ tx [44] ++ dec q = _
  unfold dec; rw [tx_app, tx_app]
theorem u8w {n m : Int} (h : n = IntKind.u8.wrap m) (h0 : 0 ≤ m) (h1 : m ≤ 255) : n = m := by
  have e : IntKind.u8.wrap m = m % 256 := by simp [IntKind.wrap, IntKind.bits, IntKind.signed]
  rw [e] at h; omega
theorem absT {m a b : Int} (h : a = Int.tmod m 10) (hb : (0 ≤ a ∧ b = a) ∨ (a < 0 ∧ b = -a)) : b = ((m.natAbs % 10 : Nat) : Int) := by
  by_cases h0 : 0 ≤ m
  · rw [tmod_pos h0] at h; omega
  · rw [tmod_neg (by omega)] at h; omega
theorem tmodB {m a : Int} (h : a = Int.tmod m 10) : -9 ≤ a ∧ a ≤ 9 := by
  by_cases h0 : 0 ≤ m
  · rw [tmod_pos h0] at h; omega
  · rw [tmod_neg (by omega)] at h; omega
theorem tdivA {m a : Int} (h : a = Int.tdiv m 10) (hm : m ≠ 0) : a.natAbs < m.natAbs := by
  by_cases h0 : 0 ≤ m
  · rw [tdiv_pos h0] at h; omega
  · rw [tdiv_neg (by omega)] at h; omega
theorem quo10 {n m : Int} (h : n = IntKind.i64.wrap (Int.tdiv m 10)) (h0 : -9223372036854775808 ≤ m) (h1 : m ≤ 9223372036854775807) : n = Int.tdiv m 10 := by
  by_cases h2 : 0 ≤ m
  · rw [tdiv_pos h2] at h ⊢; exact in64 h (by omega) (by omega)
  · rw [tdiv_neg (by omega)] at h ⊢; exact in64 h (by omega) (by omega)
def decL (n : Int) (L : List Int) : List Int := if n < 0 then L ++ [45] else L
theorem dec_end {n : Int} {L : List Int} (h : decI n 0 L) : (decL n L).reverse = itD n := by
  have e := decI_end h
  unfold decL
  by_cases hn : n < 0
  · rw [if_pos hn, itD_neg hn, e]; simp
  · rw [if_neg hn, itD_pos (by omega), e]
def revT (L : List Int) (i : Nat) : List Int := (L.drop i).reverse
theorem revT_0 {L : List Int} : revT L L.length = [] := by simp [revT]
theorem revT_s {L : List Int} {i : Nat} {q : Int} (h : L[i]? = some q) : revT L i = revT L (i + 1) ++ [q] := by
  have hl := (List.getElem?_eq_some_iff.1 h).1
  unfold revT
  rw [List.drop_eq_getElem_cons hl, List.reverse_cons]
  rw [List.getElem?_eq_getElem hl] at h
  rw [Option.some.inj h]
theorem revT_e {L : List Int} : revT L 0 = L.reverse := by simp [revT]
theorem revT_len {L : List Int} {i : Nat} : (revT L i).length = L.length - i := by simp [revT]
theorem u8s_u8A : ∀ xs : List Int, u8s (xs.map u8A) = some xs
  | [] => rfl
  | x :: xs => by simp only [List.map_cons, u8s, u8A]; rw [show u8s (xs.map u8A) = some xs from u8s_u8A xs]
theorem u8s_take {xs : List Int} {n : Nat} (h : n = xs.length) : u8s ((xs.map u8A).take n) = some xs := by subst h; rw [takeMap]; exact u8s_u8A xs
theorem decL_len {n : Int} {L : List Int} : (decL n L).length ≤ L.length + 1 := by unfold decL; split <;> simp
theorem lt_size {xs : List Int} : (lt xs).size ≤ 1400 := by
  by_cases h : fitsL xs
  · by_cases h0 : xs = []
    · subst h0; rw [lt_0, tx_size]; simp
    · rw [lt_ok h h0, tx_size]
      have := ltx_len (L := xs) (fun x hx => by have := h.2 x hx; exact ⟨by omega, by omega⟩) (i := xs.length) (Nat.le_refl _)
      rw [List.take_length] at this
      have := h.1; omega
  · rw [lt_no h, tx_size]; simp
theorem nm_size {s : ByteArray} (h : isName s = true) : 1 ≤ s.size ∧ s.size ≤ 10 := by simp [isName] at h; omega
theorem l1_size {c : UInt8} : (⟨#[c]⟩ : ByteArray).size = 1 := rfl
noncomputable def sbT (s : ByteArray) (nd tr su re : Int) : ByteArray := if isName s = true ∧ (0 ≤ nd ∧ nd ≤ 15) ∧ (1 ≤ tr ∧ tr ≤ 100000) ∧ (0 ≤ su ∧ su ≤ 18000) ∧ (0 ≤ re ∧ re ≤ su - 1) then s ++ ⟨#[32]⟩ ++ tx (ltx [nd, tr, su, re]) else tx []
theorem sbT_no {s : ByteArray} {nd tr su re : Int} (h : ¬ (isName s = true ∧ (0 ≤ nd ∧ nd ≤ 15) ∧ (1 ≤ tr ∧ tr ≤ 100000) ∧ (0 ≤ su ∧ su ≤ 18000) ∧ (0 ≤ re ∧ re ≤ su - 1))) : sbT s nd tr su re = tx [] := if_neg h
theorem sbT_ok {s : ByteArray} {nd tr su re : Int} (h : isName s = true ∧ (0 ≤ nd ∧ nd ≤ 15) ∧ (1 ≤ tr ∧ tr ≤ 100000) ∧ (0 ≤ su ∧ su ≤ 18000) ∧ (0 ≤ re ∧ re ≤ su - 1)) : sbT s nd tr su re = s ++ ⟨#[32]⟩ ++ tx (ltx [nd, tr, su, re]) := if_pos h
theorem sb_in {s : ByteArray} {nd tr su re : Int} (h : isName s = true ∧ (0 ≤ nd ∧ nd ≤ 15) ∧ (1 ≤ tr ∧ tr ≤ 100000) ∧ (0 ≤ su ∧ su ≤ 18000) ∧ (0 ≤ re ∧ re ≤ su - 1)) : ∀ x ∈ [nd, tr, su, re], -1000000000000 ≤ x ∧ x ≤ 1000000000000 := fun x hx => by
  simp only [List.mem_cons, List.not_mem_nil, or_false] at hx
  rcases hx with rfl | rfl | rfl | rfl <;> omega
theorem jx_s1 {α : Type} {f : α → List UInt8} {sep : List UInt8} {xs : List α} {i : Nat} {q : α} {s u : ByteArray} (hq : xs[i]? = some q) (h : ¬ (i : Int) > 0) (h2 : s = tx (Lib.join ((xs.take i).map f) sep) ++ u) (hu : u = tx (f q)) : s = tx (Lib.join ((xs.take (i + 1)).map f) sep) := by
  have h0 : i = 0 := by omega
  subst h0
  rw [h2, hu, join_take f sep hq, if_pos rfl]
  show tx [] ++ tx (f q) = _
  rw [tx_app]; rfl
theorem jx_s2 {α : Type} {f : α → List UInt8} {sep : List UInt8} {xs : List α} {i : Nat} {q : α} {s t u : ByteArray} (hq : xs[i]? = some q) (h : (i : Int) > 0) (h1 : t = tx (Lib.join ((xs.take i).map f) sep) ++ tx sep) (h2 : s = t ++ u) (hu : u = tx (f q)) : s = tx (Lib.join ((xs.take (i + 1)).map f) sep) := by
  rw [h2, h1, hu, join_take f sep hq, if_neg (by omega), tx_app, tx_app]
def stT (p : Int × Int) : List UInt8 := Lib.itoa p.1 ++ [58] ++ Lib.itoa p.2
def wAV (p : Int × Int) : AV := .s (.string (tx (stT p)))
theorem stT_eq {p : Int × Int} {a b : ByteArray} (h1 : a = dec p.1 ++ ⟨#[58]⟩) (h2 : b = a ++ dec p.2) : b = tx (stT p) := by
  rw [h2, h1]
  show tx _ ++ tx [58] ++ tx _ = _
  rw [tx_app, tx_app]; rfl
def wtx (xs : List (Int × Int)) : List UInt8 := Lib.join (xs.map stT) [32]
theorem wv_in {xs : List (Int × Int)} (ok : waveOk xs) {i : Nat} {p : Int × Int} (h : xs[i]? = some p) : inI p.1 ∧ inI p.2 := by
  have hp := ok.2 i p h
  unfold okAt at hp
  exact ⟨⟨by omega, by omega⟩, ⟨by omega, by omega⟩⟩
theorem stT_len {p : Int × Int} (h : inI p.1 ∧ inI p.2) : (stT p).length ≤ 41 := by
  have h1 := itoa_len h.1.1 h.1.2
  have h2 := itoa_len h.2.1 h.2.2
  unfold stT; simp only [List.length_append, List.length_cons, List.length_nil]; omega
theorem wtx_len {xs : List (Int × Int)} (ok : waveOk xs) {i : Nat} (hi : i ≤ xs.length) : (Lib.join ((xs.take i).map stT) [32]).length ≤ 42 * i :=
  join_len stT [32] (fun x hx => by
    obtain ⟨j, hj⟩ := List.getElem?_of_mem hx
    have := stT_len (wv_in ok hj)
    simp only [List.length_cons, List.length_nil]; omega) i hi
noncomputable def wvT (xs : List (Int × Int)) : ByteArray := if waveOk xs then tx (wtx xs) else tx []
theorem wvT_no {xs : List (Int × Int)} (h : ¬ waveOk xs) : wvT xs = tx [] := if_neg h
theorem wvT_ok {xs : List (Int × Int)} (h : waveOk xs) : wvT xs = tx (wtx xs) := if_pos h
def cutA (c : UInt8) (s : ByteArray) : ByteArray := tx (Lib.cut s.data.toList [c]).1
def cutB (c : UInt8) (s : ByteArray) : ByteArray := tx (Lib.cut s.data.toList [c]).2.1
def cutF (c : UInt8) (s : ByteArray) : Bool := (Lib.cut s.data.toList [c]).2.2
theorem cut_no {c : UInt8} {s : ByteArray} (h : ∀ x ∈ s.data.toList, x ≠ c) : cutA c s = s ∧ cutB c s = tx [] := by
  rcases index_one (c := c) s.data.toList with ⟨h1, h2⟩ | ⟨p, r, h1, h2, h3⟩
  · unfold cutA cutB Lib.cut
    rw [h1, if_neg (by decide)]
    exact ⟨tx_self s, rfl⟩
  · exact absurd rfl (h c (by rw [h1]; simp))
theorem cut_yes {c : UInt8} {s : ByteArray} {p r : List UInt8} (h : s.data.toList = p ++ c :: r) (hp : ∀ x ∈ p, x ≠ c) : cutA c s = tx p ∧ cutB c s = tx r := by
  rcases index_one (c := c) s.data.toList with ⟨h1, h2⟩ | ⟨q, t, h1, h2, h3⟩
  · exact absurd rfl (h2 c (by rw [h]; simp))
  · have e := pcs_hit (r := r) hp
    have e2 := pcs_hit (r := t) h3
    rw [← h, h1, e2] at e
    have hq : q = p := (List.cons.inj e).1
    subst hq
    have ht : t = r := by
      have := h1.symm.trans h
      exact (List.cons.inj (List.append_cancel_left this)).2
    subst ht
    unfold cutA cutB Lib.cut
    rw [h2, if_pos (by omega), h1]
    simp
theorem cutB_sz {c : UInt8} {s : ByteArray} : (cutB c s).size ≤ s.size ∧ (cutA c s).size ≤ s.size := by
  have hl : s.data.toList.length = s.size := ba_len
  unfold cutA cutB Lib.cut
  split
  · simp only [tx_size, List.length_drop, List.length_take]; omega
  · simp only [tx_size, List.length_nil]; omega
/-- What a first cut says of the pieces. -/
theorem pcs_cut {c : UInt8} {s : ByteArray} : (pieces c s = [s] ∧ cutA c s = s ∧ cutB c s = tx []) ∨ (∃ ps, pieces c s = cutA c s :: ps ∧ ps ≠ [] ∧ (ps.length = 1 → ps = [cutB c s]) ∧ s = cutA c s ++ tx [c] ++ cutB c s ∧ ps = pieces c (cutB c s)) := by
  rcases index_one (c := c) s.data.toList with ⟨h1, h2⟩ | ⟨p, r, h1, h2, h3⟩
  · left
    obtain ⟨a, b⟩ := cut_no h2
    refine ⟨?_, a, b⟩
    unfold pieces
    rw [pcs_no h2]
    simp [tx_self]
  · right
    obtain ⟨a, b⟩ := cut_yes h1 h3
    refine ⟨(pcs c r).map tx, ?_, ?_, ?_, ?_, ?_⟩
    · unfold pieces; rw [h1, pcs_hit h3, a]; rfl
    · intro e; exact pcs_ne c r (List.map_eq_nil_iff.1 e)
    · intro hl
      rw [List.length_map] at hl
      match hq : pcs c r, hl with
      | [x], _ =>
        have := join_pcs (c := c) r
        rw [hq, Lib.join_one] at this
        rw [b, this]; rfl
    · rw [a, b, tx_app, tx_app]
      refine tx_eq ?_
      rw [h1]; simp
    · rw [b]; unfold pieces; rw [tx_data]
theorem itoa_chars (n : Int) : ∀ x ∈ Lib.itoa n, dig x ∨ x = 45 := fun x hx => by
  unfold Lib.itoa at hx
  split at hx
  · rcases List.mem_cons.1 hx with e | e
    · exact .inr e
    · exact .inl (dec_dig _ x e)
  · exact .inl (dec_dig _ x hx)
theorem join_chars {P : UInt8 → Prop} {sep : List UInt8} (hs : ∀ x ∈ sep, P x) : ∀ L : List (List UInt8), (∀ l ∈ L, ∀ x ∈ l, P x) → ∀ x ∈ Lib.join L sep, P x
  | [], _, x, hx => by rw [Lib.join_nil] at hx; cases hx
  | y :: r, h, x, hx => by
    rw [Lib.join_cons] at hx
    rcases List.mem_append.1 hx with e | e
    · exact h y (by simp) x e
    · unfold Lib.joinTail at e
      obtain ⟨l, hl, hxl⟩ := List.mem_flatten.1 e
      obtain ⟨z, hz, rfl⟩ := List.mem_map.1 hl
      rcases List.mem_append.1 hxl with e2 | e2
      · exact hs x e2
      · exact h z (by simp [hz]) x e2
theorem ltx_chars (L : List Int) : ∀ x ∈ ltx L, dig x ∨ x = 45 ∨ x = 44 :=
  join_chars (P := fun x => dig x ∨ x = 45 ∨ x = 44) (fun x hx => by simp at hx; exact .inr (.inr hx)) _ (fun l hl x hx => by
    obtain ⟨n, _, rfl⟩ := List.mem_map.1 hl
    rcases itoa_chars n x hx with h | h
    · exact .inl h
    · exact .inr (.inl h))
theorem splitK_mem {c : UInt8} : ∀ (k : Nat) (l : List UInt8), ∀ p ∈ Lib.splitK [c] 0 k l, p.length ≤ l.length
  | 0, l, p, h => by simp [Lib.splitK] at h; subst h; exact Nat.le_refl _
  | k + 1, l, p, h => by
    rw [Lib.splitK] at h
    split at h
    · simp at h; subst h; exact Nat.le_refl _
    · rcases List.mem_cons.1 h with e | e
      · subst e; rw [List.length_take]; omega
      · have := splitK_mem k _ p e
        rw [List.length_drop] at this; omega
theorem splN_sz {c : UInt8} {k : Nat} {s q : ByteArray} (h : q ∈ splN c k s) : q.size ≤ s.size := by
  have hd := Lib.splitB_data (tx [c]) 0 (min k (s.size + 1) - 1) s
  rw [tx_data] at hd
  have := splitK_mem (c := c) (min k (s.size + 1) - 1) s.data.toList q.data.toList (by rw [← hd]; exact List.mem_map_of_mem (f := fun b : ByteArray => b.data.toList) h)
  rw [ba_len, ba_len] at this; exact this
theorem pcs_mem {c : UInt8} : ∀ (l : List UInt8), ∀ p ∈ pcs c l, p.length ≤ l.length
  | [], p, h => by simp [pcs] at h; subst h; simp
  | b :: l, p, h => by
    have ih := pcs_mem (c := c) l
    rw [pcs] at h
    split at h
    · rcases List.mem_cons.1 h with e | e
      · subst e; simp
      · have := ih p e; simp; omega
    · split at h
      · rename_i x xs e
        rw [e] at ih
        rcases List.mem_cons.1 h with e2 | e2
        · subst e2; have := ih x (by simp); simp; omega
        · have := ih p (by simp [e2]); simp; omega
      · simp at h; subst h; simp
theorem pc_sz {c : UInt8} {s q : ByteArray} (h : q ∈ pieces c s) : q.size ≤ s.size := by
  obtain ⟨p, hp, rfl⟩ := List.mem_map.1 h
  have := pcs_mem _ p hp
  rw [ba_len] at this
  rw [tx_size]; exact this
theorem rlP_no1 {s q : ByteArray} (hq : q ∈ splN 44 65 s) (h : ¬ rdB q) : ¬ rlP s := fun hp => h (hp.2 q (by rw [← splN_mem hp]; exact hq)).1
theorem rl_y2 {s : ByteArray} (h : ¬ s = tx [45]) (h2 : rlP s) : rlB s ∧ rlL s = (splN 44 65 s).map rdN := by
  have e := rl_y h h2
  rw [splN_mem h2]; exact e
def pAV (p : List UInt8) : AV := .s (.string (tx p))
theorem pAV_map {o : List (List UInt8)} : o.map pAV = (o.map tx).map stA := by rw [List.map_map]; rfl
theorem ext0 {s : ByteArray} {f i : Nat} {l : ByteArray} (h : l = s.extract f i) : AV.s (.string l) = pAV (s.extract f i).data.toList := by subst h; unfold pAV; rw [tx_self]
theorem u8eq {a b : UInt8} (h : (a.toNat : Int) = b.toNat) : a = b := by
  have : a.toNat = b.toNat := by omega
  exact UInt8.toNat_inj.1 this
theorem numV_lt2 {s : ByteArray} {a i : Nat} (hd : ∀ j u, a ≤ j → j < i → s[j]? = some u → dig u) (hi : i < s.size) (h18 : (s.size : Int) - a ≤ 18) : 0 ≤ numV s a i ∧ numV s a i < 100000000000000000 := by
  have hl : ((s.data.toList.drop a).take (i - a)).length ≤ 17 := by rw [List.length_take]; omega
  have h := valD_lt _ ((s.data.toList.drop a).take (i - a)) rfl (fun c hc => by
    obtain ⟨j, hj⟩ := List.getElem?_of_mem hc
    have hjl : j < i - a := by have := (List.getElem?_eq_some_iff.1 hj).1; rw [List.length_take] at this; omega
    rw [List.getElem?_take_of_lt hjl, List.getElem?_drop] at hj
    exact hd (a + j) c (by omega) (by omega) (by rw [ba_get]; exact hj))
  have h2 : 10 ^ ((s.data.toList.drop a).take (i - a)).length ≤ 10 ^ 17 := Nat.pow_le_pow_right (by omega) hl
  unfold numV
  omega
theorem digit_T {u : UInt8} (h : true = digit u) : dig u := by simpa [digit, dig] using h.symm
theorem digit_F {u : UInt8} (h : false = digit u) : ¬ dig u := fun hd => by
  have : digit u = true := by simpa [digit, dig] using hd
  rw [this] at h; cases h
theorem dig_ext {s : ByteArray} {a i : Nat} {u : UInt8} (hJ : ∀ j v, a ≤ j → j < i → s[j]? = some v → dig v) (hu : s[i]? = some u) (hd : dig u) : ∀ j v, a ≤ j → j < i + 1 → s[j]? = some v → dig v := fun j v h1 h2 hv => by
  by_cases e : j = i
  · subst e; rw [hu] at hv; cases hv; exact hd
  · exact hJ j v h1 (by omega) hv
theorem ne_ext {s : ByteArray} {a i : Nat} {u c : UInt8} (hJ : ∀ j v, a ≤ j → j < i → s[j]? = some v → v ≠ c) (hu : s[i]? = some u) (hd : u ≠ c) : ∀ j v, a ≤ j → j < i + 1 → s[j]? = some v → v ≠ c := fun j v h1 h2 hv => by
  by_cases e : j = i
  · subst e; rw [hu] at hv; cases hv; exact hd
  · exact hJ j v h1 (by omega) hv
theorem sp_end {s : ByteArray} {c : UInt8} {o : List (List UInt8)} {f : Nat} {l : ByteArray} (hI : pcs c s.data.toList = o ++ pcs c (s.data.toList.drop f)) (hl : l = s.extract f s.size) (hJ : ∀ j b, f ≤ j → j < s.size → s[j]? = some b → b ≠ c) : o.map pAV ++ [AV.s (.string l)] = (pieces c s).map stA := by
  subst hl
  rw [← pc_end hI hJ, List.map_append, pAV_map]; rfl
theorem stpE2 {a b : Int} {p : Int × Int} (h : a = p.1) (h2 : b = p.2) : AV.agg [.s (.int .i64 a), .s (.int .i64 b)] = stp p := by subst h h2; rfl
def prB (q : ByteArray) : Prop := rdB (cutA 58 q) ∧ rdB (cutB 58 q)
noncomputable def prV (q : ByteArray) : Int × Int := (rdN (cutA 58 q), rdN (cutB 58 q))
theorem rd_ne {s : ByteArray} (h : rdB s) : s ≠ tx [] := fun e => by
  subst e
  obtain ⟨n, e1, -⟩ := h
  have e2 := tx_inj e1
  unfold Lib.itoa at e2
  split at e2
  · cases e2
  · exact dec_ne _ e2.symm
theorem rd_chars {s : ByteArray} (h : rdB s) : ∀ x ∈ s.data.toList, dig x ∨ x = 45 := fun x hx => by
  obtain ⟨n, rfl, -⟩ := h
  unfold dec at hx
  rw [tx_data] at hx
  exact itoa_chars n x hx
theorem rd_one {s : ByteArray} {c : UInt8} (h : rdB s) (hc : ¬ dig c) (hc2 : c ≠ 45) : pieces c s = [s] := by
  unfold pieces
  rw [pcs_no, List.map_cons, List.map_nil, tx_self]
  intro x hx e
  subst e
  rcases rd_chars h x hx with h1 | h1
  · exact hc h1
  · exact hc2 h1
theorem pr_two {q : ByteArray} (h : prB q) : pieces 58 q = [cutA 58 q, cutB 58 q] ∧ q = tx (stT (prV q)) := by
  have hb := rd_one h.2 (c := 58) (by unfold dig; simp) (by decide)
  rcases pcs_cut (c := 58) (s := q) with ⟨_, _, h3⟩ | ⟨ps, h1, _, _, h4, h5⟩
  · exact absurd h3 (rd_ne h.2)
  · refine ⟨by rw [h1, h5, hb], ?_⟩
    have ea := (rdN_of h.1).1
    have eb := (rdN_of h.2).1
    have e3 : cutA 58 q ++ tx [58] ++ cutB 58 q = tx (stT (prV q)) := by
      unfold prV stT
      rw [← tx_app, ← tx_app]
      show _ = dec (rdN (cutA 58 q)) ++ tx [58] ++ dec (rdN (cutB 58 q))
      rw [← ea, ← eb]
    exact h4.trans e3
theorem pr_len {q : ByteArray} (h : ((pieces 58 q).length : Int) = 2) : pieces 58 q = [cutA 58 q, cutB 58 q] := by
  rcases pcs_cut (c := 58) (s := q) with ⟨h1, _, _⟩ | ⟨ps, h1, _, h3, _, _⟩
  · rw [h1] at h; simp at h
  · rw [h1] at h ⊢
    rw [List.length_cons] at h
    rw [h3 (by omega)]
theorem pr_no {q : ByteArray} (h : ¬ ((pieces 58 q).length : Int) = 2) : ¬ prB q := fun hp => h (by rw [(pr_two hp).1]; rfl)
def rwP (s : ByteArray) : Prop := (∀ q ∈ pieces 32 s, prB q) ∧ waveOk ((pieces 32 s).map prV)
noncomputable instance (s : ByteArray) : Decidable (rwP s) := Classical.propDecidable _
noncomputable def rwL (s : ByteArray) : List (Int × Int) := if rwP s then (pieces 32 s).map prV else []
theorem rw_y {s : ByteArray} (h : rwP s) : rwP s ∧ rwL s = (pieces 32 s).map prV := ⟨h, if_pos h⟩
theorem rw_n {s : ByteArray} (h : ¬ rwP s) : ¬ rwP s ∧ rwL s = [] := ⟨h, if_neg h⟩
theorem rwL_len {s : ByteArray} : (rwL s).length ≤ 24 := by
  by_cases h : rwP s
  · rw [(rw_y h).2]; exact h.2.1.2
  · rw [(rw_n h).2]; simp
theorem rw_spl {s : ByteArray} (h : rwP s) : splN 32 25 s = pieces 32 s := splN_eq (by have := h.2.1.2; rw [List.length_map] at this; omega) (by omega)
theorem rw_no1 {s q : ByteArray} (hq : q ∈ splN 32 25 s) (h : ¬ prB q) : ¬ rwP s := fun hp => h (hp.1 q (by rw [← rw_spl hp]; exact hq))
theorem rw_y2 {s : ByteArray} (h : rwP s) : rwP s ∧ rwL s = (splN 32 25 s).map prV := by rw [rw_spl h]; exact rw_y h
theorem rw_iff {s : ByteArray} (h : ∀ q ∈ splN 32 25 s, prB q) : rwP s ↔ wvT ((splN 32 25 s).map prV) = s := by
  constructor
  · intro hp
    rw [rw_spl hp, wvT_ok hp.2]
    refine (tx_eq ?_).symm
    have e := join_pcs (c := 32) s.data.toList
    have hm : pcs 32 s.data.toList = ((pieces 32 s).map prV).map stT := by
      have h1 : (pieces 32 s).map (fun b : ByteArray => b.data.toList) = pcs 32 s.data.toList := by
        unfold pieces
        rw [List.map_map]
        conv => rhs; rw [← List.map_id (pcs 32 s.data.toList)]
        exact List.map_congr_left fun p _ => by simp [tx_data]
      rw [← h1, List.map_map]
      refine List.map_congr_left fun q hq => ?_
      have := (pr_two (hp.1 q hq)).2
      show q.data.toList = stT (prV q)
      rw [this, tx_data, ← this]
    rw [hm] at e
    exact e.symm
  · intro he
    have hw : waveOk ((splN 32 25 s).map prV) := by
      apply Classical.byContradiction
      intro hn
      rw [wvT_no hn] at he
      have hp : pieces 32 s = [tx []] := by unfold pieces; rw [← he, tx_data]; rfl
      have hq : splN 32 25 s = [tx []] := by rw [splN_eq (by rw [hp]; simp) (by omega), hp]
      have := h (tx []) (by rw [hq]; simp)
      have hb := cutB_sz (c := 58) (s := tx [])
      rw [tx_size, List.length_nil] at hb
      have e0 : cutB 58 (tx []) = tx [] := tx_eq (List.eq_nil_of_length_eq_zero (by rw [ba_len]; omega))
      rw [prB, e0] at this
      exact rd_ne this.2 rfl
    have hl : (pieces 32 s).length ≤ 25 := by
      apply Classical.byContradiction
      intro hn
      have := splN_len hn (by omega)
      have h2 := hw.1.2
      rw [List.length_map] at h2; omega
    have e := splN_eq hl (by omega)
    rw [e] at h hw
    exact ⟨h, hw⟩
def bl (x0 y0 x1 y1 x : Int) : Int := if x ≤ x0 ∨ x1 ≤ x0 then y0 else if x ≥ x1 then y1 else y0 + dr ((y1 - y0) * (x - x0)) (x1 - x0)
theorem srN_ex (p : Int → Prop) : ∀ n : Nat, ∃ k : Nat, k ≤ n ∧ (∀ j : Nat, j < k → ¬ p j) ∧ (k < n → p k)
  | 0 => ⟨0, Nat.le_refl _, fun j h => absurd h (Nat.not_lt_zero _), fun h => absurd h (Nat.not_lt_zero _)⟩
  | n + 1 => by
    obtain ⟨k, h1, h2, h3⟩ := srN_ex p n
    by_cases e : k = n
    · subst e
      by_cases hp : p k
      · exact ⟨k, by omega, h2, fun _ => hp⟩
      · refine ⟨k + 1, Nat.le_refl _, fun j hj => ?_, fun h => by omega⟩
        by_cases ej : j = k
        · subst ej; exact hp
        · exact h2 j (by omega)
    · exact ⟨k, by omega, h2, fun _ => h3 (by omega)⟩
noncomputable def srN (p : Int → Prop) [DecidablePred p] (n : Nat) : Nat := Classical.choose (srN_ex p n)
theorem srN_spec (p : Int → Prop) [DecidablePred p] (n : Nat) : srN p n ≤ n ∧ (∀ j : Nat, j < srN p n → ¬ p j) ∧ (srN p n < n → p (srN p n)) := Classical.choose_spec (srN_ex p n)
theorem srN_uniq {p : Int → Prop} [DecidablePred p] {n k : Nat} (h1 : k ≤ n) (h2 : ∀ j : Nat, j < k → ¬ p j) (h3 : k < n → p k) : srN p n = k := by
  obtain ⟨g1, g2, g3⟩ := srN_spec p n
  rcases Nat.lt_trichotomy (srN p n) k with h | h | h
  · exact absurd (g3 (by omega)) (h2 _ h)
  · exact h
  · exact absurd (h3 (by omega)) (g2 _ h)
theorem shr1 {x n : Int} (h : n = x.fdiv (2 ^ (min (1 : Int).toNat IntKind.u64.bits))) (h0 : 0 ≤ x) : n = x / 2 := by
  rw [h, Int.fdiv_eq_ediv_of_nonneg _ (by decide)]; rfl
theorem wrapU {m n : Int} (h : n = IntKind.u64.wrap m) (h0 : 0 ≤ m) (h1 : m ≤ 9223372036854775807) : n = m := by
  have e : IntKind.u64.wrap m = m % 18446744073709551616 := by simp [IntKind.wrap, IntKind.bits, IntKind.signed]
  rw [e] at h; omega
noncomputable def lst (p : Int → Prop) [DecidablePred p] (lo hi : Int) : Int := lo + srN (fun i => p (lo + i)) (hi - lo + 1).toNat
theorem lst_spec (p : Int → Prop) [DecidablePred p] {lo hi : Int} (h : lo ≤ hi + 1) : lo ≤ lst p lo hi ∧ lst p lo hi ≤ hi + 1 ∧ (∀ a, lo ≤ a → a < lst p lo hi → ¬ p a) ∧ (lst p lo hi ≤ hi → p (lst p lo hi)) := by
  obtain ⟨h1, h2, h3⟩ := srN_spec (fun i => p (lo + i)) (hi - lo + 1).toNat
  refine ⟨by unfold lst; omega, by unfold lst; omega, fun a ha hl => ?_, fun hl => h3 (by unfold lst at hl; omega)⟩
  have := h2 (a - lo).toNat (by unfold lst at hl; omega)
  rwa [show lo + ((a - lo).toNat : Int) = a by omega] at this
theorem lst_uniq {p : Int → Prop} [DecidablePred p] {lo hi k : Int} (h0 : lo ≤ k) (h1 : k ≤ hi + 1) (h2 : ∀ a, lo ≤ a → a < k → ¬ p a) (h3 : k ≤ hi → p k) : lst p lo hi = k := by
  obtain ⟨g0, g1, g2, g3⟩ := lst_spec p (lo := lo) (hi := hi) (by omega)
  by_cases e : lst p lo hi < k
  · exact absurd (g3 (by omega)) (h2 _ g0 e)
  · by_cases e2 : k < lst p lo hi
    · exact absurd (h3 (by omega)) (g2 _ h0 e2)
    · omega
def cb (n : Int) : AV := .s (.int .u8 n)
def src (cs : List Int) (a s : Int) : List AV := [.lst 1 (cs.map cb), .s (.int .i64 a), .s (.int .u64 s)]
theorem repC {n : Nat} : List.replicate n (zelem [AV.s (.int .i64 0)]) = (List.replicate n (0 : Int)).map ci := by rw [List.map_replicate]; rfl
def byteL (cs : List Int) : Prop := ∀ x ∈ cs, 0 ≤ x ∧ x ≤ 255
theorem and255 {x n : Int} (h : n = bitsI .and .u64 x 255) : 0 ≤ n ∧ n ≤ 255 := by
  subst h
  simp only [bitsI]
  have h1 : ((BitVec.ofInt IntKind.u64.bits x) &&& (BitVec.ofInt IntKind.u64.bits 255)).toNat ≤ 255 := by
    rw [BitVec.toNat_and]
    exact Nat.le_trans Nat.and_le_right (by decide)
  generalize ((BitVec.ofInt IntKind.u64.bits x) &&& (BitVec.ofInt IntKind.u64.bits 255)).toNat = m at h1
  have e : IntKind.u64.wrap (m : Int) = (m : Int) % 18446744073709551616 := by simp [IntKind.wrap, IntKind.bits, IntKind.signed]
  rw [e]; omega
def gd (xs : List Int) (i : Nat) : Int := xs.getD i 0
theorem gd_eq {xs : List Int} {i : Nat} {p : Int} (h : xs[i]? = some p) : gd xs i = p := by simp [gd, List.getD, h]
theorem dr_eqP {a b : Int} (hb : 0 < b) : dr a b = if a < 0 then -((b - 2 * a) / (2 * b)) else (2 * a + b) / (2 * b) := by unfold dr drP; rw [if_neg (by omega)]
theorem dr_mono' {a a' b : Int} (hb : 0 < b) (h : a ≤ a') : dr a b ≤ dr a' b := by
  rw [dr_eqP hb, dr_eqP hb]
  split
  · split
    · have := Int.ediv_le_ediv (a := b - 2 * a') (b := b - 2 * a) (c := 2 * b) (by omega) (by omega)
      omega
    · have h1 := Int.ediv_nonneg (a := b - 2 * a) (b := 2 * b) (by omega) (by omega)
      have h2 := Int.ediv_nonneg (a := 2 * a' + b) (b := 2 * b) (by omega) (by omega)
      omega
  · rw [if_neg (by omega)]
    exact Int.ediv_le_ediv (by omega) (by omega)
theorem dr_neg {a b : Int} (hb : 0 < b) : dr (-a) b = - dr a b := by
  rw [dr_eqP hb, dr_eqP hb]
  by_cases h : a < 0
  · rw [if_neg (by omega), if_pos h]
    rw [show 2 * -a + b = b - 2 * a by omega]; omega
  · by_cases h0 : a = 0
    · subst h0
      rw [if_neg (by omega), if_neg (by omega)]
      have : (2 * (0 : Int) + b) / (2 * b) = 0 := Int.ediv_eq_zero_of_lt (by omega) (by omega)
      rw [show 2 * -(0 : Int) + b = 2 * 0 + b by omega, this]; rfl
    · rw [if_pos (by omega), if_neg h]
      rw [show b - 2 * -a = 2 * a + b by omega]
theorem dr_mul {k b : Int} (hb : 0 < b) : dr (k * b) b = k := by
  have key : ∀ k : Int, 0 ≤ k → dr (k * b) b = k := fun k hk => by
    have h0 := Int.mul_nonneg hk (show 0 ≤ b by omega)
    rw [dr_eqP hb, if_neg (by omega)]
    have e : 2 * b * k = 2 * (k * b) := by rw [Int.mul_assoc, Int.mul_comm b k]
    exact div_uniq (by omega) (by omega) (by omega)
  by_cases h : 0 ≤ k
  · exact key k h
  · have := key (-k) (by omega)
    rw [Int.neg_mul, dr_neg hb] at this
    omega
theorem dr_spec {a b : Int} (hb : 0 < b) : 2 * a - b ≤ 2 * (b * dr a b) ∧ 2 * (b * dr a b) ≤ 2 * a + b := by
  have key : ∀ a : Int, 0 ≤ a → 2 * a - b ≤ 2 * (b * dr a b) ∧ 2 * (b * dr a b) ≤ 2 * a + b := fun a ha => by
    rw [dr_eqP hb, if_neg (by omega)]
    have h1 := Int.mul_ediv_add_emod (2 * a + b) (2 * b)
    have h2 := Int.emod_nonneg (2 * a + b) (show 2 * b ≠ 0 by omega)
    have h3 := Int.emod_lt_of_pos (2 * a + b) (show 0 < 2 * b by omega)
    rw [Int.mul_assoc] at h1
    omega
  by_cases h : 0 ≤ a
  · exact key a h
  · have := key (-a) (by omega)
    rw [dr_neg hb] at this; simp only [Int.mul_neg] at this
    omega
def dnT : List Int := [99984, 99820, 99220, 98320, 97180, 95835, 94310, 92610, 90745, 88700]
def dA (k : Int) : Int := dnT.getD k.toNat 0
def dK (t : Int) : Int := if t / 2000 < 8 then t / 2000 else 8
def dnC : List AV := dnT.map ci
def dens (t : Int) : Int := bl (2000 * dK t) (dA (dK t)) (2000 * (dK t + 1)) (dA (dK t + 1)) t
theorem dnT_get {k : Int} (h0 : 0 ≤ k) (h : k ≤ 9) : dnT[k.toNat]? = some (dA k) := by
  have hl : k.toNat < dnT.length := by show k.toNat < 10; omega
  rw [List.getElem?_eq_getElem hl]
  simp [dA, List.getD, List.getElem?_eq_getElem hl]
theorem dn_get {k o : Nat} {q : Int} (h : dnT[k]? = some q) (ho : o = k) : dnC[o]? = some (.s (.int .i64 q)) := by subst ho; simp [dnC, h]; rfl
theorem dA_dec {k : Int} (h0 : 0 ≤ k) (h : k ≤ 8) : dA (k + 1) ≤ dA k ∧ 88700 ≤ dA (k + 1) ∧ dA k ≤ 99984 := by
  rcases (by omega : k = 0 ∨ k = 1 ∨ k = 2 ∨ k = 3 ∨ k = 4 ∨ k = 5 ∨ k = 6 ∨ k = 7 ∨ k = 8) with rfl | rfl | rfl | rfl | rfl | rfl | rfl | rfl | rfl <;> decide
theorem dA_anti {k : Int} (h0 : 0 ≤ k) : ∀ n : Nat, k + n ≤ 9 → dA (k + n) ≤ dA k
  | 0, _ => by simp
  | n + 1, h => by
    have ih := dA_anti h0 n (by omega)
    have := (dA_dec (k := k + n) (by omega) (by omega)).1
    rw [show k + ((n + 1 : Nat) : Int) = k + n + 1 by omega]; omega
theorem bl_dn {x0 y0 x1 y1 : Int} (x : Int) (hx : x0 < x1) (hy : y1 ≤ y0) : y1 ≤ bl x0 y0 x1 y1 x ∧ bl x0 y0 x1 y1 x ≤ y0 := by
  unfold bl
  split
  · omega
  · split
    · omega
    · have hb : 0 < x1 - x0 := by omega
      have h1 : (y1 - y0) * (x - x0) ≤ 0 := Int.mul_nonpos_of_nonpos_of_nonneg (by omega) (by omega)
      have h2 : (y1 - y0) * (x1 - x0) ≤ (y1 - y0) * (x - x0) := Int.mul_le_mul_of_nonpos_left (by omega) (by omega)
      have h3 := dr_mono' hb h1
      have h4 := dr_mono' hb h2
      rw [dr_mul hb] at h4
      have h5 : dr 0 (x1 - x0) = 0 := by have := dr_mul (k := 0) hb; rwa [Int.zero_mul] at this
      omega
theorem bl_mono {x0 y0 x1 y1 a b : Int} (hx : x0 < x1) (hy : y1 ≤ y0) (h : a ≤ b) : bl x0 y0 x1 y1 b ≤ bl x0 y0 x1 y1 a := by
  have ha := bl_dn a hx hy
  have hb := bl_dn b hx hy
  by_cases h1 : a ≤ x0
  · have e : bl x0 y0 x1 y1 a = y0 := by unfold bl; rw [if_pos (by omega)]
    omega
  · by_cases h2 : b ≥ x1
    · have e : bl x0 y0 x1 y1 b = y1 := by unfold bl; rw [if_neg (by omega), if_pos h2]
      omega
    · have e1 : bl x0 y0 x1 y1 a = y0 + dr ((y1 - y0) * (a - x0)) (x1 - x0) := by unfold bl; rw [if_neg (by omega), if_neg (by omega)]
      have e2 : bl x0 y0 x1 y1 b = y0 + dr ((y1 - y0) * (b - x0)) (x1 - x0) := by unfold bl; rw [if_neg (by omega), if_neg (by omega)]
      have h3 : (y1 - y0) * (b - x0) ≤ (y1 - y0) * (a - x0) := Int.mul_le_mul_of_nonpos_left (by omega) (by omega)
      have := dr_mono' (show 0 < x1 - x0 by omega) h3
      omega
theorem dK_bd {t : Int} (h0 : 0 ≤ t) : 0 ≤ dK t ∧ dK t ≤ 8 := by unfold dK; split <;> omega
theorem dens_bd {t : Int} (h0 : 0 ≤ t) : 88700 ≤ dens t ∧ dens t ≤ 99984 := by
  obtain ⟨k0, k1⟩ := dK_bd h0
  have h := dA_dec k0 k1
  have := bl_dn (x0 := 2000 * dK t) (y0 := dA (dK t)) (x1 := 2000 * (dK t + 1)) (y1 := dA (dK t + 1)) t (by omega) h.1
  unfold dens; omega
theorem dens_anti {t u : Int} (h0 : 0 ≤ t) (h : t ≤ u) : dens u ≤ dens t := by
  obtain ⟨k0, k1⟩ := dK_bd h0
  obtain ⟨j0, j1⟩ := dK_bd (show 0 ≤ u by omega)
  have hk := dA_dec k0 k1
  have hj := dA_dec j0 j1
  by_cases e : dK t = dK u
  · unfold dens; rw [← e]; exact bl_mono (by omega) hk.1 h
  · have hlt : dK t + 1 ≤ dK u := by unfold dK at e ⊢; split at e <;> split at e <;> (repeat (first | rw [if_pos (by omega)] | rw [if_neg (by omega)])) <;> omega
    have a1 := bl_dn (x0 := 2000 * dK t) (y0 := dA (dK t)) (x1 := 2000 * (dK t + 1)) (y1 := dA (dK t + 1)) t (by omega) hk.1
    have a2 := bl_dn (x0 := 2000 * dK u) (y0 := dA (dK u)) (x1 := 2000 * (dK u + 1)) (y1 := dA (dK u + 1)) u (by omega) hj.1
    have a3 := dA_anti (k := dK t + 1) (by omega) (dK u - (dK t + 1)).toNat (by omega)
    rw [show dK t + 1 + ((dK u - (dK t + 1)).toNat : Int) = dK u by omega] at a3
    unfold dens; omega
def evO (l f t : Int) : Prop := (0 ≤ l ∧ l ≤ 1000000000) ∧ (0 ≤ f ∧ f ≤ 18000) ∧ (0 ≤ t ∧ t ≤ 18000)
instance (l f t : Int) : Decidable (evO l f t) := by unfold evO; infer_instance
theorem mulL {l d : Int} (h : 0 ≤ l ∧ l ≤ 1000000000) (h2 : 88700 ≤ d ∧ d ≤ 99984) : 0 ≤ l * d ∧ l * d ≤ 1000000000 * 99984 := mulB (by omega) (by omega) (by omega) (by omega)
theorem ev_law {l f t v two s three : Int} (hv : v = if evO l f t then dr (l * dens f) (dens t) else 0) (h2 : two = if evO l f t then 0 else 2) (hs : s = if evO l f f then dr (l * dens f) (dens f) else 0) (h3 : three = if evO l f f then 0 else 2) :
    ¬ two = 0 ∨ (three = 0 ∧ s = l ∧ (t < f ∨ l ≤ v) ∧ (f < t ∨ v ≤ l)) := by
  by_cases h : evO l f t
  · right
    have h' : evO l f f := ⟨h.1, h.2.1, h.2.1⟩
    rw [if_pos h] at hv; rw [if_pos h'] at hs h3
    have df := dens_bd h.2.1.1
    have dt := dens_bd h.2.2.1
    have hl := h.1
    refine ⟨h3, by rw [hs, dr_mul (by omega)], ?_, ?_⟩
    · by_cases hft : f ≤ t
      · right
        have := dens_anti h.2.1.1 hft
        have h4 := dr_mono' (b := dens t) (by omega) (Int.mul_le_mul_of_nonneg_left this hl.1)
        rw [dr_mul (by omega)] at h4
        omega
      · left; omega
    · by_cases hft : t ≤ f
      · right
        have := dens_anti h.2.2.1 hft
        have h4 := dr_mono' (b := dens t) (by omega) (Int.mul_le_mul_of_nonneg_left this hl.1)
        rw [dr_mul (by omega)] at h4
        omega
      · left; omega
  · left; rw [if_neg h] at h2; omega
def hpO (h t : Int) : Prop := (-200000 ≤ h ∧ h ≤ 200000) ∧ (0 ≤ t ∧ t ≤ 18000)
instance (h t : Int) : Decidable (hpO h t) := by unfold hpO; infer_instance
theorem mulH {h d : Int} (hh : -200000 ≤ h ∧ h ≤ 200000) (h2 : 88700 ≤ d ∧ d ≤ 99984) : -(99984 * 200000) ≤ d * h ∧ d * h ≤ 99984 * 200000 := mulS (by omega) (by omega) (by omega) (by omega)
theorem hp_law {h t p four n five : Int} (hp : p = if hpO h t then dr (dens t * h * 981) 1000000 else 0) (h4 : four = if hpO h t then 0 else 2) (hn : n = if hpO (-h) t then dr (dens t * -h * 981) 1000000 else 0) (h5 : five = if hpO (-h) t then 0 else 2) :
    four = five ∧ p = -n ∧ -20000000000000 ≤ n ∧ n ≤ 20000000000000 := by
  by_cases h0 : hpO h t
  · have h1 : hpO (-h) t := ⟨by have := h0.1; omega, h0.2⟩
    rw [if_pos h0] at hp h4; rw [if_pos h1] at hn h5
    have hm := mulH h1.1 (dens_bd h0.2.1)
    have hb := dr_bound (a := dens t * -h * 981) (b := 1000000) (by omega)
    have e : dens t * h * 981 = -(dens t * -h * 981) := by rw [Int.mul_neg, Int.neg_mul]; omega
    rw [e, dr_neg (by omega)] at hp
    refine ⟨by omega, by omega, by omega, by omega⟩
  · have h1 : ¬ hpO (-h) t := fun h2 => h0 ⟨by have := h2.1; omega, h2.2⟩
    rw [if_neg h0] at hp h4; rw [if_neg h1] at hn h5
    omega
def enO (p m : Int) : Prop := (0 ≤ p ∧ p ≤ 100000000) ∧ (0 ≤ m ∧ m ≤ 1000000)
instance (p m : Int) : Decidable (enO p m) := by unfold enO; infer_instance
theorem mulE2 {p m : Int} (h : enO p m) : 0 ≤ p * m ∧ p * m ≤ 100000000 * 1000000 := mulB h.1.1 h.1.2 h.2.1 h.2.2
def enV (p m : Int) : Int := if enO p m then dr (p * m) 60 else 0
def enC (p m : Int) : Int := if enO p m then 0 else 2
theorem enV_bd {p m : Int} : 0 ≤ enV p m + 1 ∧ enV p m ≤ 100000000000001 := by
  unfold enV; split
  · rename_i h
    have h1 := mulE2 h
    have h2 := dr_spec (a := p * m) (b := 60) (by omega)
    omega
  · omega
theorem en_law {p m k a b c six seven eight : Int} (ha : a = enV p m) (h6 : six = enC p m) (hb : b = enV p k) (h7 : seven = enC p k) (hc : c = enV p (m - k)) (h8 : eight = enC p (m - k)) (hk : 0 ≤ m → 0 ≤ k ∧ k ≤ m) :
    (¬ six = 0 ∧ a = 0) ∨ (six = 0 ∧ seven = 0 ∧ eight = 0 ∧ -1 ≤ a - b - c ∧ a - b - c ≤ 1) := by
  unfold enV at ha hb hc; unfold enC at h6 h7 h8
  by_cases h : enO p m
  · right
    have hk2 := hk h.2.1
    have hm := h.2
    have h1 : enO p k := ⟨h.1, by omega⟩
    have h2 : enO p (m - k) := ⟨h.1, by omega⟩
    rw [if_pos h] at ha h6; rw [if_pos h1] at hb h7; rw [if_pos h2] at hc h8
    have e : p * m = p * k + p * (m - k) := by rw [← Int.mul_add]; congr 1; omega
    have a1 := dr_spec (a := p * m) (b := 60) (by omega)
    have a2 := dr_spec (a := p * k) (b := 60) (by omega)
    have a3 := dr_spec (a := p * (m - k)) (b := 60) (by omega)
    rw [← ha] at a1; rw [← hb] at a2; rw [← hc] at a3
    generalize p * m = x at *
    generalize p * k = y at *
    generalize p * (m - k) = z at *
    refine ⟨h6, h7, h8, by omega, by omega⟩
  · left
    rw [if_neg h] at ha h6
    omega
def smI (xs : List Int) : Nat → Int
  | 0 => 0
  | n + 1 => smI xs n + gd xs n
theorem smI_s {xs : List Int} {n : Nat} {u : Int} (h : xs[n]? = some u) : smI xs (n + 1) = smI xs n + u := by rw [smI, gd_eq h]
theorem smI_bd {xs : List Int} (hw : within xs 0 100000) : ∀ i : Nat, i ≤ xs.length → 0 ≤ smI xs i ∧ smI xs i ≤ i * 100000
  | 0, _ => by simp [smI]
  | i + 1, h => by
    have ih := smI_bd hw i (by omega)
    have hp : xs[i]? = some (xs[i]'(by omega)) := List.getElem?_eq_getElem (by omega)
    have := hw i _ hp
    rw [smI_s hp]; omega
def mwS (fs ts : List Int) : Nat → Int
  | 0 => 0
  | n + 1 => mwS fs ts n + gd fs n * gd ts n
theorem mwS_s {fs ts : List Int} {n : Nat} {u v : Int} (h : fs[n]? = some u) (h2 : ts[n]? = some v) : mwS fs ts (n + 1) = mwS fs ts n + u * v := by rw [mwS, gd_eq h, gd_eq h2]
theorem mul_ft {u v : Int} (h : 0 ≤ u ∧ u ≤ 100000) (h2 : 0 ≤ v ∧ v ≤ 18000) : 0 ≤ u * v ∧ u * v ≤ 100000 * 18000 := mulB h.1 h.2 h2.1 h2.2
theorem mwS_bd {fs ts : List Int} (hw : within fs 0 100000) (hw2 : within ts 0 18000) (hl : ts.length = fs.length) : ∀ i : Nat, i ≤ fs.length → 0 ≤ mwS fs ts i ∧ mwS fs ts i ≤ i * 1800000000
  | 0, _ => by simp [mwS]
  | i + 1, h => by
    have ih := mwS_bd hw hw2 hl i (by omega)
    have hp : fs[i]? = some (fs[i]'(by omega)) := List.getElem?_eq_getElem (by omega)
    have hq : ts[i]? = some (ts[i]'(by omega)) := List.getElem?_eq_getElem (by omega)
    have := mul_ft (hw i _ hp) (hw2 i _ hq)
    rw [mwS_s hp hq]; omega
theorem mwS_mid {fs ts : List Int} {lo hi : Int} (hw : within fs 0 100000) (hl : ts.length = fs.length) (hb : ∀ (j : Nat) (q : Int), ts[j]? = some q → lo ≤ q ∧ q ≤ hi) : ∀ i : Nat, i ≤ fs.length → lo * smI fs i ≤ mwS fs ts i ∧ mwS fs ts i ≤ hi * smI fs i
  | 0, _ => by simp [mwS, smI]
  | i + 1, h => by
    have ih := mwS_mid hw hl hb i (by omega)
    have hp : fs[i]? = some (fs[i]'(by omega)) := List.getElem?_eq_getElem (by omega)
    have hq : ts[i]? = some (ts[i]'(by omega)) := List.getElem?_eq_getElem (by omega)
    have h1 := hw i _ hp
    have h2 := hb i _ hq
    rw [mwS_s hp hq, smI_s hp]
    generalize fs[i]'(by omega) = u at h1
    generalize ts[i]'(by omega) = v at h2
    have a1 := Int.mul_le_mul_of_nonneg_right h2.1 h1.1
    have a2 := Int.mul_le_mul_of_nonneg_right h2.2 h1.1
    rw [Int.mul_comm v u] at a1 a2
    rw [Int.mul_add, Int.mul_add]
    omega
def mwO (fs ts : List Int) : Prop := (1 ≤ fs.length ∧ fs.length ≤ 64) ∧ ts.length = fs.length ∧ within fs 0 100000 ∧ within ts 0 18000
noncomputable instance (fs ts : List Int) : Decidable (mwO fs ts) := Classical.propDecidable _
noncomputable def mwC (fs ts : List Int) : Int := if mwO fs ts then (if smI fs fs.length = 0 then 6 else 0) else 2
noncomputable def mwV (fs ts : List Int) : Int := if mwC fs ts = 0 then dr (mwS fs ts fs.length) (smI fs fs.length) else 0
theorem mw_ok {fs ts : List Int} (h : mwC fs ts = 0) : mwO fs ts ∧ ¬ smI fs fs.length = 0 := by
  unfold mwC at h
  split at h
  · split at h
    · omega
    · exact ⟨by assumption, by assumption⟩
  · omega
theorem mw_law {fs ts : List Int} {lo hi : Int} (h : mwC fs ts = 0) (hb : ∀ (j : Nat) (q : Int), ts[j]? = some q → lo ≤ q ∧ q ≤ hi) : lo ≤ mwV fs ts ∧ mwV fs ts ≤ hi := by
  obtain ⟨⟨h1, h2, h3, h4⟩, h5⟩ := mw_ok h
  have hs := smI_bd h3 fs.length (Nat.le_refl _)
  have hm := mwS_mid h3 h2 hb fs.length (Nat.le_refl _)
  have hpos : 0 < smI fs fs.length := by omega
  have a1 := dr_mono' hpos hm.1
  have a2 := dr_mono' hpos hm.2
  rw [dr_mul hpos] at a1 a2
  unfold mwV; rw [if_pos h]
  exact ⟨a1, a2⟩
theorem tdiv2 {m : Int} : (0 ≤ m ∧ 0 ≤ m.tdiv 2 ∧ m.tdiv 2 ≤ m) ∨ (m < 0 ∧ m ≤ m.tdiv 2 ∧ m.tdiv 2 ≤ 0) := by
  by_cases h : 0 ≤ m
  · left; rw [Int.tdiv_eq_ediv_of_nonneg h]; omega
  · right
    have e : m.tdiv 2 = -((-m).tdiv 2) := by rw [Int.neg_tdiv]; omega
    rw [e, Int.tdiv_eq_ediv_of_nonneg (by omega)]; omega
theorem mmJ {T : List Int} {lo hi lo' hi' p : Int} {i : Nat} (hJ : ∀ (j : Nat) (q : Int), j < i → T[j]? = some q → lo ≤ q ∧ q ≤ hi) (hp : T[i]? = some p) (h1 : lo' ≤ lo ∧ lo' ≤ p) (h2 : hi ≤ hi' ∧ p ≤ hi') : ∀ (j : Nat) (q : Int), j < i + 1 → T[j]? = some q → lo' ≤ q ∧ q ≤ hi' := by
  intro j q hj hq
  by_cases e : j = i
  · subst e; rw [hp] at hq; cases hq; omega
  · have := hJ j q (by omega) hq; omega
theorem mmF {T : List Int} {lo hi : Int} {i : Nat} (hJ : ∀ (j : Nat) (q : Int), j < i → T[j]? = some q → lo ≤ q ∧ q ≤ hi) (hl : T.length ≤ i) : ∀ (j : Nat) (q : Int), T[j]? = some q → lo ≤ q ∧ q ≤ hi := fun j q hq => hJ j q (by have := (List.getElem?_eq_some_iff.1 hq).1; omega) hq
def rtp (a : Int) (r : Int) : Prop := (r + 1) * (r + 1) > a
instance (a : Int) : DecidablePred (rtp a) := fun r => by unfold rtp; infer_instance
noncomputable def rtF (a : Int) : Int := if a < 0 then 0 else srN (rtp a) 3037000499
theorem sq_mono {i j : Int} (h0 : 0 ≤ i) (h : i ≤ j) : i * i ≤ j * j := Int.mul_le_mul h h h0 (by omega)
theorem rtp_mono {a : Int} {i j : Nat} (h : i ≤ j) (hp : rtp a i) : rtp a j := by
  unfold rtp at *
  have := sq_mono (i := (i : Int) + 1) (j := (j : Int) + 1) (by omega) (by omega)
  omega
theorem sq_bd {r : Int} (h0 : 0 ≤ r) (h : r ≤ 3037000499) : 0 ≤ r * r ∧ r * r ≤ 9223372030926249001 := by
  have := sq_mono h0 h
  exact ⟨Int.mul_nonneg h0 h0, by omega⟩
theorem rt_spec {a : Int} (h : 0 ≤ a) (h2 : a ≤ 3600000000) : 0 ≤ rtF a ∧ rtF a ≤ 60000 ∧ rtF a * rtF a ≤ a ∧ (rtF a + 1) * (rtF a + 1) > a := by
  obtain ⟨h3, h4, h5⟩ := srN_spec (rtp a) 3037000499
  have e : rtF a = (srN (rtp a) 3037000499 : Int) := if_neg (by omega)
  have hb : srN (rtp a) 3037000499 ≤ 60000 := by
    apply Classical.byContradiction
    intro hc
    have := h4 60000 (by omega)
    unfold rtp at this
    omega
  have hp := h5 (by omega)
  unfold rtp at hp
  refine ⟨by omega, by omega, ?_, by rw [e]; exact hp⟩
  rw [e]
  cases hk : srN (rtp a) 3037000499 with
  | zero => simp; exact h
  | succ k =>
    have := h4 k (by omega)
    unfold rtp at this
    have e2 : (((k + 1 : Nat) : Int)) = (k : Int) + 1 := by omega
    rw [e2]; omega
theorem dr_close {a b : Int} (hb : 0 < b) : -b ≤ 2 * (a - dr a b * b) ∧ 2 * (a - dr a b * b) ≤ b := by
  rw [dr_eqP hb]
  split
  · have h1 := Int.ediv_mul_le (b - 2 * a) (b := 2 * b) (by omega)
    have h2 := Int.lt_ediv_add_one_mul_self (b - 2 * a) (b := 2 * b) (by omega)
    generalize (b - 2 * a) / (2 * b) = m at *
    have e1 : m * (2 * b) = 2 * (m * b) := by rw [Int.mul_left_comm]
    have e2 : (m + 1) * (2 * b) = 2 * (m * b) + 2 * b := by rw [Int.add_mul, e1]; omega
    rw [e1] at h1; rw [e2] at h2
    rw [Int.neg_mul]
    generalize m * b = t at *
    omega
  · have h1 := Int.ediv_mul_le (2 * a + b) (b := 2 * b) (by omega)
    have h2 := Int.lt_ediv_add_one_mul_self (2 * a + b) (b := 2 * b) (by omega)
    generalize (2 * a + b) / (2 * b) = m at *
    have e1 : m * (2 * b) = 2 * (m * b) := by rw [Int.mul_left_comm]
    have e2 : (m + 1) * (2 * b) = 2 * (m * b) + 2 * b := by rw [Int.add_mul, e1]; omega
    rw [e1] at h1; rw [e2] at h2
    generalize m * b = t at *
    omega
theorem bl_up {y0 y1 : Int} (x : Int) (hy : y0 ≤ y1) : y0 ≤ bl 0 y0 1000 y1 x ∧ bl 0 y0 1000 y1 x ≤ y1 := by
  unfold bl
  split
  · omega
  · split
    · omega
    · have h0 : 0 ≤ (y1 - y0) * (x - 0) := Int.mul_nonneg (by omega) (by omega)
      have h1 : (y1 - y0) * (x - 0) ≤ (y1 - y0) * (1000 - 0) := Int.mul_le_mul_of_nonneg_left (by omega) (by omega)
      have a1 := dr_mono' (b := 1000 - 0) (by omega) h0
      have a2 := dr_mono' (b := 1000 - 0) (by omega) h1
      have e0 := dr_mul (k := 0) (b := 1000 - 0) (by omega)
      rw [Int.zero_mul] at e0
      rw [dr_mul (by omega)] at a2
      rw [e0] at a1
      omega
theorem bl_in {y z : Int} (x : Int) : (y ≤ z → y ≤ bl 0 y 1000 z x ∧ bl 0 y 1000 z x ≤ z) ∧ (z ≤ y → z ≤ bl 0 y 1000 z x ∧ bl 0 y 1000 z x ≤ y) := ⟨fun h => bl_up x h, fun h => bl_dn x (by omega) h⟩
theorem bl_l {y z : Int} : bl 0 y 1000 z 0 = y := if_pos (.inl (Int.le_refl 0))
theorem bl_r {y z : Int} : bl 0 y 1000 z 1000 = z := by unfold bl; rw [if_neg (by omega), if_pos (by omega)]
theorem pcs_join {c : UInt8} : ∀ (r : List (List UInt8)) (x : List UInt8), (∀ l ∈ x :: r, ∀ b ∈ l, b ≠ c) → pcs c (Lib.join (x :: r) [c]) = x :: r
  | [], x, h => by rw [Lib.join_one]; exact pcs_no (h x (by simp))
  | y :: r, x, h => by
    have ih := pcs_join r y (fun l hl => h l (by simp at hl ⊢; exact .inr hl))
    have e : Lib.join (x :: y :: r) [c] = x ++ c :: Lib.join (y :: r) [c] := by
      rw [Lib.join_cons, Lib.join_cons]
      simp [Lib.joinTail]
    rw [e, pcs_hit (h x (by simp)), ih]
theorem splN_dec {L : List Int} (h0 : L ≠ []) : pieces 44 (tx (ltx L)) = L.map dec := by
  obtain ⟨y, r, ey⟩ := List.exists_cons_of_ne_nil h0
  have e : pcs 44 (ltx L) = L.map Lib.itoa := by
    subst ey
    exact pcs_join (c := 44) (r.map Lib.itoa) (Lib.itoa y) (fun l hl b hb e => by
      subst e
      have hm : l ∈ (y :: r).map Lib.itoa := hl
      obtain ⟨n, _, rfl⟩ := List.mem_map.1 hm
      rcases itoa_chars n 44 hb with h | h
      · unfold dig at h; simp at h
      · cases h)
  unfold pieces
  rw [tx_data, e, List.map_map]; rfl
def r8a (cs : List Int) (k n : Int) : Int := if n ≤ 1 ∨ k ≥ cs.length then 0 else (cs.getD k.toNat 0) % n
def r8w (cs : List Int) (k n : Int) : Int := (256 * r8a cs k 256 + r8a cs (k + 1) 256) % n
theorem r8a_bd {cs : List Int} {k : Int} : 0 ≤ r8a cs k 256 ∧ r8a cs k 256 < 256 := by unfold r8a; split <;> omega
theorem r8w_bd {cs : List Int} {k n : Int} (hn : 0 < n) : 0 ≤ r8w cs k n ∧ r8w cs k n < n := ⟨Int.emod_nonneg _ (by omega), Int.emod_lt_of_pos _ hn⟩
theorem bas_in {a b x y z : Int} (ha : -100000 ≤ a ∧ a ≤ 3600000000) (hb : 1 ≤ b ∧ b ≤ 5000) (hx : 0 ≤ x ∧ x < 1000) (hy : -2500 ≤ y ∧ y < 2500) (hz : -2500 ≤ z ∧ z < 2500) : fitsL [a, b, x, y, z] := ⟨by simp, fun w hw => by
  simp only [List.mem_cons, List.not_mem_nil, or_false] at hw
  rcases hw with rfl | rfl | rfl | rfl | rfl <;> omega⟩
theorem lt_rl {L : List Int} (h : fitsL L) (h0 : L ≠ []) : rlB (lt L) ∧ rlL (lt L) = L := by
  have ht : lt L = tx (ltx L) := lt_ok h h0
  have hp : pieces 44 (lt L) = L.map dec := by
    have := splN_dec (L := L) h0
    rw [ht]; exact this
  have hd : ¬ lt L = tx [45] := fun e => by
    rw [e] at hp
    have : pieces 44 (tx [45]) = [tx [45]] := by unfold pieces; rw [tx_data]; rfl
    rw [this] at hp
    obtain ⟨y, r, ey⟩ := List.exists_cons_of_ne_nil h0
    rw [ey] at hp
    simp only [List.map_cons] at hp
    have := (List.cons.inj hp).1
    have h2 := tx_inj this
    unfold Lib.itoa at h2
    split at h2
    · exact dec_ne _ (List.cons.inj h2).2.symm
    · have := dec_dig y.toNat 45 (by rw [← h2]; simp)
      unfold dig at this; simp at this
  have hb : ∀ x ∈ L, x.natAbs < 1000000000000000000 := fun x hx => by have := h.2 x hx; omega
  have hr : rlP (lt L) := ⟨by rw [hp, List.length_map]; exact h.1, fun p hq => by
    rw [hp] at hq
    obtain ⟨n, hn, rfl⟩ := List.mem_map.1 hq
    have := rdN_eq (hb n hn)
    exact ⟨this.1, by rw [this.2]; exact h.2 n hn⟩⟩
  have e := rl_y hd hr
  refine ⟨e.1, ?_⟩
  rw [e.2, hp, List.map_map]
  conv => rhs; rw [← List.map_id L]
  exact List.map_congr_left fun n hn => (rdN_eq (hb n hn)).2
theorem pair_eq {p q : Int × Int} (h1 : p.1 = q.1) (h2 : p.2 = q.2) : (some q : Option (Int × Int)) = some p := by
  cases p; cases q; simp_all
theorem wave_ext {xs ys : List (Int × Int)} (hl : xs.length = ys.length) (h : ∀ (j : Nat) (p : Int × Int), xs[j]? = some p → ys[j]? = some p) : xs = ys := by
  apply List.ext_getElem? 
  intro j
  by_cases hj : j < xs.length
  · rw [List.getElem?_eq_getElem hj]; exact (h j _ (List.getElem?_eq_getElem hj)).symm
  · rw [List.getElem?_eq_none (by omega), List.getElem?_eq_none (by omega)]
theorem eq2T {a b c d : Int} (h : false = !((a == c) && ((b == d) && true))) : a = c ∧ b = d := by simpa using h
theorem eq2F {a b c d : Int} (h : true = !((a == c) && ((b == d) && true))) : ¬ (a = c ∧ b = d) := by
  intro ⟨h1, h2⟩; subst h1; subst h2; simp at h
theorem same_no {xs ys : List (Int × Int)} {i : Nat} {p q : Int × Int} (hp : xs[i]? = some p) (hq : ys[i]? = some q) (h : ¬ (p.1 = q.1 ∧ p.2 = q.2)) : ¬ xs = ys := by
  intro e; subst e; rw [hp] at hq; cases hq; exact h ⟨rfl, rfl⟩
/-! what a wave's law needs -/
theorem wv_get {xs : List (Int × Int)} (ok : waveOk xs) : ∃ z, xs[0]? = some z ∧ z.1 = 0 := by
  have hl := ok.1
  have hz : xs[0]? = some (xs[0]'(by omega)) := List.getElem?_eq_getElem (by omega)
  exact ⟨_, hz, (ok.2 0 _ hz).2.2.1 rfl⟩
theorem wv_lt {xs : List (Int × Int)} (ok : waveOk xs) {i : Nat} {p q : Int × Int} (hp : xs[i]? = some p) (hq : xs[i + 1]? = some q) : p.1 < q.1 :=
  (ok.2 (i + 1) q hq).2.2.2 p (by omega) hp
theorem at_mem {xs : List (Int × Int)} (ok : waveOk xs) {t : Int} (ht : 0 ≤ t) : ∀ i : Nat, 1 ≤ i → i ≤ xs.length → ∃ p ∈ xs, atG xs t i = p.2
  | 0, h, _ => by omega
  | i + 1, _, hi => by
    have hp : xs[i]? = some (xs[i]'(by omega)) := List.getElem?_eq_getElem (by omega)
    rw [atG_step hp]
    by_cases h : (xs[i]'(by omega)).1 ≤ t
    · rw [if_pos h]; exact ⟨_, List.getElem_mem _, rfl⟩
    · rw [if_neg h]
      by_cases h0 : i = 0
      · subst h0
        obtain ⟨z, hz, hz0⟩ := wv_get ok
        rw [hp] at hz
        have := Option.some.inj hz
        rw [this] at h; omega
      · exact at_mem ok ht i (by omega) (by omega)
theorem at_trim {xs : List (Int × Int)} (ok : waveOk xs) {t : Int} : ∀ n : Nat, n ≤ xs.length → (trG xs n).foldl (atF t) 0 = atG xs t n
  | 0, _ => rfl
  | n + 1, hn => by
    have ih := at_trim ok (t := t) n (by omega)
    have hp : xs[n]? = some (xs[n]'(by omega)) := List.getElem?_eq_getElem (by omega)
    rw [atG_step hp]
    by_cases h : trP xs n
    · rw [trG_T hp h, List.foldl_append, ih]; rfl
    · rw [trG_F h, ih]
      have h0 : ¬ n = 0 := fun e => h (.inl e)
      obtain ⟨m, rfl⟩ : ∃ m, n = m + 1 := ⟨n - 1, by omega⟩
      have hq : xs[m]? = some (xs[m]'(by omega)) := List.getElem?_eq_getElem (by omega)
      have hlt := wv_lt ok hq hp
      have he : dgA xs (m + 1) = dgA xs m := by
        apply Classical.byContradiction; intro hc; exact h (.inr hc)
      rw [dgA_eq hp, dgA_eq hq] at he
      by_cases h2 : (xs[m + 1]'(by omega)).1 ≤ t
      · rw [if_pos h2, atG_step hq, if_pos (by omega), he]
      · rw [if_neg h2]
theorem waveAt_trim {xs : List (Int × Int)} (ok : waveOk xs) {t : Int} : waveAt (trG xs xs.length) t = waveAt xs t := by
  have := at_trim ok (t := t) xs.length (Nat.le_refl _)
  unfold waveAt
  rw [← this]
  unfold atG
  rw [List.take_length]
theorem trG_sub {xs : List (Int × Int)} : ∀ n : Nat, n ≤ xs.length → (trG xs n).Sublist (xs.take n)
  | 0, _ => by simp [trG]
  | n + 1, hn => by
    have ih := trG_sub (xs := xs) n (by omega)
    have hp : xs[n]? = some (xs[n]'(by omega)) := List.getElem?_eq_getElem (by omega)
    have e : xs.take (n + 1) = xs.take n ++ [xs[n]'(by omega)] := by rw [List.take_add_one, hp]; rfl
    rw [e]
    by_cases h : trP xs n
    · rw [trG_T hp h]; exact ih.append (List.Sublist.refl _)
    · rw [trG_F h]; exact ih.trans (List.sublist_append_left _ _)
theorem wv_iff {xs : List (Int × Int)} : waveOk xs ↔ (1 ≤ xs.length ∧ xs.length ≤ 24) ∧ (∀ p ∈ xs, (0 ≤ p.1 ∧ p.1 ≤ 1000000) ∧ (-5000 ≤ p.2 ∧ p.2 ≤ 20000)) ∧ (∀ z, xs[0]? = some z → z.1 = 0) ∧ xs.Pairwise (fun a b => a.1 < b.1) := by
  constructor
  · intro ok
    refine ⟨ok.1, fun p hp => ?_, fun z hz => (ok.2 0 z hz).2.2.1 rfl, ?_⟩
    · obtain ⟨j, hj⟩ := List.getElem?_of_mem hp
      have := ok.2 j p hj
      exact ⟨this.1, this.2.1⟩
    · rw [List.pairwise_iff_getElem]
      intro i j hi hj hij
      have key : ∀ k : Nat, ∀ h : i + k + 1 < xs.length, (xs[i]).1 < (xs[i + k + 1]).1 := by
        intro k
        induction k with
        | zero => intro h; exact wv_lt ok (List.getElem?_eq_getElem hi) (List.getElem?_eq_getElem h)
        | succ k ih =>
          intro h
          have h1 := ih (by omega)
          have h2 := wv_lt ok (i := i + k + 1) (List.getElem?_eq_getElem (by omega)) (List.getElem?_eq_getElem (by omega : i + k + 1 + 1 < xs.length))
          have h3 : (xs[i + (k + 1) + 1]'h).1 = (xs[i + k + 1 + 1]'(by omega)).1 := by congr 1
          omega
      obtain ⟨k, rfl⟩ : ∃ k, j = i + k + 1 := ⟨j - i - 1, by omega⟩
      exact key k hj
  · rintro ⟨h1, h2, h3, h4⟩
    refine ⟨h1, fun j p hp => ?_⟩
    have hm := h2 p (List.mem_of_getElem? hp)
    refine ⟨hm.1, hm.2, fun h0 => by subst h0; exact h3 p hp, fun q hj hq => ?_⟩
    rw [List.pairwise_iff_getElem] at h4
    obtain ⟨a1, a2⟩ := List.getElem?_eq_some_iff.1 hp
    obtain ⟨b1, b2⟩ := List.getElem?_eq_some_iff.1 hq
    have := h4 (j - 1) j b1 a1 (by omega)
    rw [a2, b2] at this
    exact this
theorem trG_0 {xs : List (Int × Int)} {z : Int × Int} (hz : xs[0]? = some z) : ∀ n : Nat, 1 ≤ n → n ≤ xs.length → (trG xs n)[0]? = some z
  | 0, h, _ => by omega
  | n + 1, _, hn => by
    by_cases h0 : n = 0
    · subst h0; rw [trG_T hz (.inl rfl)]; rfl
    · have ih := trG_0 hz n (by omega) (by omega)
      have hp : xs[n]? = some (xs[n]'(by omega)) := List.getElem?_eq_getElem (by omega)
      by_cases h : trP xs n
      · rw [trG_T hp h, List.getElem?_append_left (List.getElem?_eq_some_iff.1 ih).1]; exact ih
      · rw [trG_F h]; exact ih
theorem wv_trim {xs : List (Int × Int)} (ok : waveOk xs) : waveOk (trG xs xs.length) := by
  have h := wv_iff.1 ok
  have hs := trG_sub (xs := xs) xs.length (Nat.le_refl _)
  rw [List.take_length] at hs
  obtain ⟨z, hz, hz0⟩ := wv_get ok
  have h0 := trG_0 hz xs.length (by have := ok.1; omega) (Nat.le_refl _)
  refine wv_iff.2 ⟨⟨by have := (List.getElem?_eq_some_iff.1 h0).1; omega, by have := hs.length_le; have := ok.1; omega⟩, fun p hp => h.2.1 p (hs.subset hp), fun y hy => ?_, h.2.2.2.sublist hs⟩
  rw [h0] at hy
  rw [← Option.some.inj hy]; exact hz0
/-- The law's waves: few steps, early ones. -/
def wv8 (xs : List (Int × Int)) : Prop := xs.length ≤ 6 ∧ ∀ p ∈ xs, p.1 ≤ 10000 ∧ (0 ≤ p.2 ∧ p.2 ≤ 9500)
theorem wv_late {xs : List (Int × Int)} {d b : Int} (ok : waveOk xs) (h8 : wv8 xs) (hd : 0 ≤ d ∧ d ≤ 2000) (hb : 0 ≤ b ∧ b ≤ 9000) : waveOk (lateL xs d b) := by
  by_cases h0 : d = 0
  · subst h0; rw [late0]; exact ok
  · have h := wv_iff.1 ok
    have e : lateL xs d b = (0, b) :: xs.map (lateF d) := by
      unfold lateL lateG
      rw [if_pos (by omega), List.take_length]; rfl
    rw [e]
    refine wv_iff.2 ⟨⟨by simp, by rw [List.length_cons, List.length_map]; have := h8.1; omega⟩, fun p hp => ?_, fun z hz => by cases hz; rfl, ?_⟩
    · rcases List.mem_cons.1 hp with e1 | e1
      · subst e1; exact ⟨by simp, by show -5000 ≤ b ∧ b ≤ 20000; omega⟩
      · obtain ⟨q, hq, rfl⟩ := List.mem_map.1 e1
        have h1 := h.2.1 q hq
        have h2 := h8.2 q hq
        unfold lateF
        exact ⟨by show 0 ≤ q.1 + d ∧ q.1 + d ≤ 1000000; omega, h1.2⟩
    · refine List.pairwise_cons.2 ⟨fun p hp => ?_, ?_⟩
      · obtain ⟨q, hq, rfl⟩ := List.mem_map.1 hp
        have h1 := h.2.1 q hq
        show 0 < q.1 + d
        omega
      · rw [List.pairwise_map]
        exact h.2.2.2.imp (fun {a b} hab => by show a.1 + d < b.1 + d; omega)
theorem fold_late {d t : Int} : ∀ (ys : List (Int × Int)) (v : Int), (ys.map (lateF d)).foldl (atF (t + d)) v = ys.foldl (atF t) v
  | [], v => rfl
  | y :: ys, v => by
    simp only [List.map_cons, List.foldl_cons]
    have e : atF (t + d) v (lateF d y) = atF t v y := by
      unfold atF lateF
      simp only
      by_cases h : y.1 ≤ t
      · rw [if_pos h, if_pos (by omega)]
      · rw [if_neg h, if_neg (by omega)]
    rw [e, fold_late ys]
theorem fold_init {xs : List (Int × Int)} (ok : waveOk xs) {t : Int} (ht : 0 ≤ t) (u v : Int) : xs.foldl (atF t) u = xs.foldl (atF t) v := by
  obtain ⟨z, hz, hz0⟩ := wv_get ok
  cases xs with
  | nil => simp at hz
  | cons y ys =>
    simp at hz; subst hz
    simp only [List.foldl_cons]
    have e : ∀ u, atF t u y = y.2 := fun u => by unfold atF; rw [if_pos (by omega)]
    rw [e u, e v]
theorem at_late {xs : List (Int × Int)} {d b t : Int} (ok : waveOk xs) (hd : 0 ≤ d) (ht : 0 ≤ t) : waveAt (lateL xs d b) (t + d) = waveAt xs t := by
  have w : ∀ ys : List (Int × Int), ∀ t, waveAt ys t = ys.foldl (atF t) 0 := fun ys t => by unfold waveAt atG; rw [List.take_length]
  by_cases h0 : d = 0
  · subst h0; rw [late0]; simp
  · have e : lateL xs d b = (0, b) :: xs.map (lateF d) := by
      unfold lateL lateG
      rw [if_pos (by omega), List.take_length]; rfl
    rw [w, w, e, List.foldl_cons, fold_late]
    exact fold_init ok ht _ _
theorem at_before {xs : List (Int × Int)} {d b : Int} (ok : waveOk xs) (hd : 0 < d) : waveAt (lateL xs d b) (d - 1) = b := by
  have e : lateL xs d b = (0, b) :: xs.map (lateF d) := by
    unfold lateL lateG
    rw [if_pos (by omega), List.take_length]; rfl
  have h := (wv_iff.1 ok).2.1
  have key : ∀ ys : List (Int × Int), (∀ p ∈ ys, 0 ≤ p.1) → (ys.map (lateF d)).foldl (atF (d - 1)) b = b := by
    intro ys
    induction ys with
    | nil => intro _; rfl
    | cons y ys ih =>
      intro hy
      simp only [List.map_cons, List.foldl_cons]
      have h1 := hy y (by simp)
      have e2 : atF (d - 1) b (lateF d y) = b := by unfold atF lateF; simp only; rw [if_neg (by omega)]
      rw [e2]; exact ih (fun p hp => hy p (by simp [hp]))
  unfold waveAt atG
  rw [List.take_length, e, List.foldl_cons]
  have e3 : atF (d - 1) 0 (0, b) = b := by unfold atF; simp only; rw [if_pos (by omega)]
  rw [e3]
  exact key xs (fun p hp => (h p hp).1.1)
theorem lo_le {m : Int} : ∀ (ys : List (Int × Int)) (m : Int), ys.foldl loF m ≤ m ∧ (∀ p ∈ ys, ys.foldl loF m ≤ p.2)
  | [], m => ⟨Int.le_refl _, fun p h => by cases h⟩
  | y :: ys, m => by
    obtain ⟨h1, h2⟩ := lo_le (m := m) ys (loF m y)
    simp only [List.foldl_cons]
    have e : loF m y ≤ m ∧ loF m y ≤ y.2 := by unfold loF; split <;> omega
    refine ⟨by omega, fun p hp => ?_⟩
    rcases List.mem_cons.1 hp with e2 | e2
    · subst e2; omega
    · exact h2 p e2
theorem hi_ge {m : Int} : ∀ (ys : List (Int × Int)) (m : Int), m ≤ ys.foldl hiF m ∧ (∀ p ∈ ys, p.2 ≤ ys.foldl hiF m) ∧ (ys.foldl hiF m = m ∨ ∃ p ∈ ys, ys.foldl hiF m = p.2)
  | [], m => ⟨Int.le_refl _, fun p h => (by cases h), .inl rfl⟩
  | y :: ys, m => by
    obtain ⟨h1, h2, h3⟩ := hi_ge (m := m) ys (hiF m y)
    simp only [List.foldl_cons]
    have e : m ≤ hiF m y ∧ y.2 ≤ hiF m y ∧ (hiF m y = m ∨ hiF m y = y.2) := by unfold hiF; split <;> omega
    refine ⟨by omega, fun p hp => ?_, ?_⟩
    · rcases List.mem_cons.1 hp with e2 | e2
      · subst e2; omega
      · exact h2 p e2
    · rcases h3 with h3 | ⟨p, hp, h3⟩
      · rcases e.2.2 with e4 | e4
        · left; rw [h3]; exact e4
        · right; exact ⟨y, by simp, by rw [h3]; exact e4⟩
      · right; exact ⟨p, by simp [hp], h3⟩
def loW (xs : List (Int × Int)) : Int := loG xs (hd2 xs) xs.length
def hiW (xs : List (Int × Int)) : Int := hiG xs (hd2 xs) xs.length
theorem rg_in {xs : List (Int × Int)} {p : Int × Int} (hp : p ∈ xs) : loW xs ≤ p.2 ∧ p.2 ≤ hiW xs := by
  unfold loW hiW loG hiG
  rw [List.take_length]
  exact ⟨(lo_le (m := 0) xs _).2 p hp, (hi_ge (m := 0) xs _).2.1 p hp⟩
theorem hi_mem {xs : List (Int × Int)} (ok : waveOk xs) : ∃ p ∈ xs, hiW xs = p.2 := by
  obtain ⟨z, hz, _⟩ := wv_get ok
  unfold hiW hiG
  rw [List.take_length]
  rcases (hi_ge (m := 0) xs (hd2 xs)).2.2 with h | h
  · exact ⟨z, List.mem_of_getElem? hz, by rw [h, hd2_eq hz]⟩
  · exact h
theorem at_rg {xs : List (Int × Int)} (ok : waveOk xs) {t : Int} (ht : 0 ≤ t) : loW xs ≤ waveAt xs t ∧ waveAt xs t ≤ hiW xs := by
  obtain ⟨p, hp, e⟩ := at_mem ok ht xs.length (by have := ok.1; omega) (Nat.le_refl _)
  have := rg_in hp
  unfold waveAt; rw [e]; exact this
/-- The mean of one minute. -/
theorem mo_one {xs : List (Int × Int)} (ok : waveOk xs) {t : Int} (ht : 0 ≤ t) : ∀ i : Nat, i ≤ xs.length → moG xs t (t + 1) i = match xs[i]? with
    | some q => if q.1 ≤ t then 0 else atG xs t i
    | none => atG xs t i
  | 0, _ => by
    obtain ⟨z, hz, hz0⟩ := wv_get ok
    rw [hz]; simp only; rw [if_pos (by omega)]; rfl
  | i + 1, hi => by
    have ih := mo_one ok ht i (by omega)
    have hp : xs[i]? = some (xs[i]'(by omega)) := List.getElem?_eq_getElem (by omega)
    generalize xs[i]'(by omega) = p at hp
    rw [hp] at ih
    simp only at ih
    rw [moG_step hp, ih, atG_step hp]
    cases hq : xs[i + 1]? with
    | none =>
      simp only
      have hE : moE xs (t + 1) i = t + 1 := by unfold moE; rw [hq]
      by_cases h : p.1 ≤ t
      · rw [if_pos h]
        have hK : moK xs t (t + 1) i p = 1 := by unfold moK; simp only; rw [hE]; split <;> split <;> omega
        rw [hK, if_pos h]; omega
      · rw [if_neg h]
        have hK : moK xs t (t + 1) i p = 0 := by unfold moK; simp only; rw [hE]; split <;> split <;> omega
        rw [hK, if_neg h]; omega
    | some q =>
      simp only
      have hlt := wv_lt ok hp hq
      have hE : moE xs (t + 1) i = if t + 1 < q.1 then t + 1 else q.1 := moE_some hq
      by_cases h : p.1 ≤ t
      · rw [if_pos h]
        by_cases h2 : q.1 ≤ t
        · have hK : moK xs t (t + 1) i p = 0 := by unfold moK; simp only; rw [hE]; split <;> split <;> split <;> omega
          rw [hK, if_pos h2]; omega
        · have hK : moK xs t (t + 1) i p = 1 := by unfold moK; simp only; rw [hE]; split <;> split <;> split <;> omega
          rw [hK, if_neg h2, if_pos h]; omega
      · rw [if_neg h]
        have hK : moK xs t (t + 1) i p = 0 := by unfold moK; simp only; rw [hE]; split <;> split <;> split <;> omega
        rw [hK, if_neg (by omega : ¬ q.1 ≤ t), if_neg h]; omega
theorem mean_one {xs : List (Int × Int)} (ok : waveOk xs) {t : Int} (ht : 0 ≤ t) : dr (moG xs t (t + 1) xs.length) (t + 1 - t) = waveAt xs t := by
  have h := mo_one ok ht xs.length (Nat.le_refl _)
  rw [List.getElem?_eq_none (Nat.le_refl _)] at h
  simp only at h
  rw [h, show t + 1 - t = 1 by omega]
  have e := dr_mul (k := atG xs t xs.length) (b := 1) (by omega)
  rw [Int.mul_one] at e
  exact e
/-- The mean of the whole. -/
def kS (xs : List (Int × Int)) (u : Int) (i : Nat) : Int := match xs[i]? with
  | some q => if u < q.1 then u else q.1
  | none => u
theorem mo_all {xs : List (Int × Int)} (ok : waveOk xs) {u : Int} (hu : 0 < u) : ∀ i : Nat, i ≤ xs.length → loW xs * kS xs u i ≤ moG xs 0 u i ∧ moG xs 0 u i ≤ hiW xs * kS xs u i
  | 0, _ => by
    obtain ⟨z, hz, hz0⟩ := wv_get ok
    unfold kS
    rw [hz]; simp only; rw [if_neg (by omega), hz0]; simp [moG]
  | i + 1, hi => by
    have ih := mo_all ok hu i (by omega)
    have hp : xs[i]? = some (xs[i]'(by omega)) := List.getElem?_eq_getElem (by omega)
    generalize xs[i]'(by omega) = p at hp
    have hr := rg_in (List.mem_of_getElem? hp)
    have h0 := (ok.2 i p hp).1
    rw [moG_step hp]
    have hk : kS xs u (i + 1) = kS xs u i + moK xs 0 u i p ∧ 0 ≤ moK xs 0 u i p := by
      have e1 : kS xs u i = if u < p.1 then u else p.1 := by unfold kS; rw [hp]
      rw [e1]
      cases hq : xs[i + 1]? with
      | none =>
        have hE : moE xs u i = u := by unfold moE; rw [hq]
        have e2 : kS xs u (i + 1) = u := by unfold kS; rw [hq]
        rw [e2]
        unfold moK; simp only; rw [hE]
        refine ⟨?_, ?_⟩ <;> (split <;> (try split) <;> (try split) <;> omega)
      | some q =>
        have hlt := wv_lt ok hp hq
        have hE : moE xs u i = if u < q.1 then u else q.1 := moE_some hq
        have e2 : kS xs u (i + 1) = if u < q.1 then u else q.1 := by unfold kS; rw [hq]
        rw [e2]
        unfold moK; simp only; rw [hE]
        refine ⟨?_, ?_⟩ <;> (split <;> (try split) <;> (try split) <;> (try split) <;> omega)
    rw [hk.1]
    generalize moK xs 0 u i p = k at *
    have m1 : loW xs * k ≤ p.2 * k := Int.mul_le_mul_of_nonneg_right hr.1 hk.2
    have m2 : p.2 * k ≤ hiW xs * k := Int.mul_le_mul_of_nonneg_right hr.2 hk.2
    rw [Int.mul_add, Int.mul_add]
    omega
theorem mean_all {xs : List (Int × Int)} (ok : waveOk xs) {u : Int} (hu : 0 < u) : loW xs ≤ dr (moG xs 0 u xs.length) (u - 0) ∧ dr (moG xs 0 u xs.length) (u - 0) ≤ hiW xs := by
  have h := mo_all ok hu xs.length (Nat.le_refl _)
  have e : kS xs u xs.length = u := by unfold kS; rw [List.getElem?_eq_none (Nat.le_refl _)]
  rw [e] at h
  rw [show u - 0 = u by omega]
  have a1 := dr_mono' hu h.1
  have a2 := dr_mono' hu h.2
  rw [dr_mul hu] at a1 a2
  exact ⟨a1, a2⟩
/-- The first time with the greatest temperature. -/
theorem warm_hi {xs : List (Int × Int)} (ok : waveOk xs) : fwC xs (hiW xs) = 0 ∧ (0 ≤ fwT xs (hiW xs) ∧ fwT xs (hiW xs) ≤ 1000000) ∧ waveAt xs (fwT xs (hiW xs)) = hiW xs := by
  obtain ⟨p, hp, he⟩ := hi_mem ok
  cases hf : fw xs (hiW xs) with
  | none =>
    unfold fw at hf
    rw [List.find?_eq_none] at hf
    have := hf p hp
    simp at this; omega
  | some q =>
    have hq1 : hiW xs ≤ q.2 := by
      unfold fw at hf
      have := List.find?_some hf
      simpa using this
    have hqm : q ∈ xs := by unfold fw at hf; exact List.mem_of_find?_eq_some hf
    have hq2 := (rg_in hqm).2
    obtain ⟨j, hj⟩ := List.getElem?_of_mem hqm
    have hw := wv_iff.1 ok
    have hb := (hw.2.1 q hqm).1
    have eT : fwT xs (hiW xs) = q.1 := by unfold fwT; rw [hf]
    have eC : fwC xs (hiW xs) = 0 := by unfold fwC; rw [hf]
    refine ⟨eC, by rw [eT]; exact hb, ?_⟩
    rw [eT]
    have key : ∀ n : Nat, j < n → n ≤ xs.length → atG xs q.1 n = q.2 := by
      intro n
      induction n with
      | zero => intro h; omega
      | succ n ih =>
        intro h1 h2
        have hp : xs[n]? = some (xs[n]'(by omega)) := List.getElem?_eq_getElem (by omega)
        rw [atG_step hp]
        by_cases e : j = n
        · subst e
          rw [hj] at hp
          rw [← Option.some.inj hp, if_pos (Int.le_refl _)]
        · have h3 := ih (by omega) (by omega)
          have h4 := hw.2.2.2
          rw [List.pairwise_iff_getElem] at h4
          obtain ⟨a1, a2⟩ := List.getElem?_eq_some_iff.1 hj
          have := h4 j n a1 (by omega) (by omega)
          rw [a2] at this
          rw [if_neg (by omega)]; exact h3
    have := key xs.length (List.getElem?_eq_some_iff.1 hj).1 (Nat.le_refl _)
    unfold waveAt
    rw [this]; omega
theorem warm_no {xs : List (Int × Int)} (ok : waveOk xs) : fwC xs (hiW xs + 1) = 3 := by
  have : fw xs (hiW xs + 1) = none := by
    unfold fw
    rw [List.find?_eq_none]
    intro p hp
    have := (rg_in hp).2
    simp; omega
  unfold fwC; rw [this]
/-- The text of a wave is read back. -/
theorem stT_cut {p : Int × Int} (h : p.1.natAbs < 1000000000000000000 ∧ p.2.natAbs < 1000000000000000000) : prB (tx (stT p)) ∧ prV (tx (stT p)) = p := by
  have hc := cut_yes (c := 58) (s := tx (stT p)) (p := Lib.itoa p.1) (r := Lib.itoa p.2) (by rw [tx_data]; simp [stT]) (fun x hx e => by
    subst e
    rcases itoa_chars _ _ hx with h | h
    · unfold dig at h; simp at h
    · cases h)
  have h1 := rdN_eq h.1
  have h2 := rdN_eq h.2
  unfold dec at h1 h2
  unfold prB prV
  rw [hc.1, hc.2]
  exact ⟨⟨h1.1, h2.1⟩, by rw [h1.2, h2.2]⟩
theorem stT_chars {p : Int × Int} : ∀ x ∈ stT p, x ≠ 32 := fun x hx e => by
  subst e
  unfold stT at hx
  rcases List.mem_append.1 hx with h | h
  · rcases List.mem_append.1 h with h | h
    · rcases itoa_chars _ _ h with h | h
      · unfold dig at h; simp at h
      · cases h
    · simp at h
  · rcases itoa_chars _ _ h with h | h
    · unfold dig at h; simp at h
    · cases h
theorem wv_read {xs : List (Int × Int)} (ok : waveOk xs) : rwP (wvT xs) ∧ rwL (wvT xs) = xs := by
  have h := wv_iff.1 ok
  obtain ⟨y, r, ey⟩ := List.exists_cons_of_ne_nil (show xs ≠ [] from fun e => by subst e; have := ok.1; simp at this)
  have hp : pieces 32 (wvT xs) = xs.map fun p => tx (stT p) := by
    rw [wvT_ok ok]
    unfold pieces wtx
    rw [tx_data]
    have e : pcs 32 (Lib.join (xs.map stT) [32]) = xs.map stT := by
      rw [ey]
      exact pcs_join (c := 32) (r.map stT) (stT y) (fun l hl b hb e => by
        have hm : l ∈ (y :: r).map stT := hl
        obtain ⟨n, _, rfl⟩ := List.mem_map.1 hm
        exact stT_chars b hb e)
    rw [e, List.map_map]; rfl
  have hb : ∀ p ∈ xs, prB (tx (stT p)) ∧ prV (tx (stT p)) = p := fun p hm => by
    have := h.2.1 p hm
    exact stT_cut ⟨by omega, by omega⟩
  have hm : (pieces 32 (wvT xs)).map prV = xs := by
    rw [hp, List.map_map]
    conv => rhs; rw [← List.map_id xs]
    exact List.map_congr_left fun p hm => (hb p hm).2
  have hr : rwP (wvT xs) := ⟨fun q hq => by
    rw [hp] at hq
    obtain ⟨p, hpm, rfl⟩ := List.mem_map.1 hq
    exact (hb p hpm).1, by rw [hm]; exact ok⟩
  exact ⟨hr, by rw [(rw_y hr).2, hm]⟩
/-- The drawn wave: steps that come later and later. -/
def wvD (u : List (Int × Int)) : Prop := 1 ≤ u.length ∧ (∀ p ∈ u, (0 ≤ p.1 ∧ p.1 ≤ 1200 * ((u.length : Int) - 1)) ∧ (0 ≤ p.2 ∧ p.2 ≤ 9500)) ∧ (∀ z, u[0]? = some z → z.1 = 0) ∧ u.Pairwise (fun a b => a.1 < b.1) ∧ ∀ l, u[u.length - 1]? = some l → ∀ p ∈ u, p.1 ≤ l.1
theorem wvD_0 {d : Int} (h : 0 ≤ d ∧ d ≤ 9500) : wvD [(0, d)] := by
  refine ⟨by simp, fun p hp => ?_, fun z hz => ?_, by simp, fun l hl p hp => ?_⟩
  · simp at hp; subst hp; simp; omega
  · simp at hz; subst hz; rfl
  · simp at hl hp; subst hl hp; exact Int.le_refl _
theorem wvD_s {u : List (Int × Int)} {l : Int × Int} {x d : Int} (h : wvD u) (hl : u[u.length - 1]? = some l) (hx : l.1 < x ∧ x ≤ l.1 + 1200) (hd : 0 ≤ d ∧ d ≤ 9500) : wvD (u ++ [(x, d)]) := by
  obtain ⟨h1, h2, h3, h4, h5⟩ := h
  have hlm := h2 l (List.mem_of_getElem? hl)
  refine ⟨by simp, fun p hp => ?_, fun z hz => ?_, ?_, fun y hy p hp => ?_⟩
  · rw [List.length_append]; simp only [List.length_cons, List.length_nil]
    rcases List.mem_append.1 hp with e | e
    · have := h2 p e; omega
    · simp at e; subst e; simp only; omega
  · rw [List.getElem?_append_left (by omega)] at hz; exact h3 z hz
  · refine List.pairwise_append.2 ⟨h4, by simp, fun a ha b hb => ?_⟩
    simp at hb; subst hb
    have := h5 l hl a ha
    show a.1 < x; omega
  · rw [List.length_append] at hy
    simp at hy
    subst hy
    rcases List.mem_append.1 hp with e | e
    · have := h5 l hl p e; show p.1 ≤ x; omega
    · simp at e; subst e; exact Int.le_refl _
theorem wvD_end {u : List (Int × Int)} (h : wvD u) (h5 : u.length ≤ 5) : waveOk u ∧ wv8 u := by
  obtain ⟨h1, h2, h3, h4, _⟩ := h
  exact ⟨wv_iff.2 ⟨by omega, fun p hp => by have := h2 p hp; omega, h3, h4⟩, by omega, fun p hp => by have := h2 p hp; omega⟩
def lw8 (w : List (Int × Int)) (d b : Int) : List (Int × Int) := trG (lateL w d b) (lateL w d b).length
theorem lw8_ok {w : List (Int × Int)} {d b : Int} (ok : waveOk w) (h8 : wv8 w) (hd : 0 ≤ d ∧ d ≤ 2000) (hb : 0 ≤ b ∧ b ≤ 9000) : waveOk (lw8 w d b) := wv_trim (wv_late ok h8 hd hb)
theorem lw8_dw {w : List (Int × Int)} {d b : Int} (ok : waveOk w) (h8 : wv8 w) (hd : 0 ≤ d ∧ d ≤ 2000) (hb : 0 ≤ b ∧ b ≤ 9000) : dwC w d b = 0 ∧ dwR w d b = lw8 w d b := by
  have h := dwR_ok ok (d := d) (b := b) ⟨by omega, by omega⟩
  have h0 := tm_wave (wv_late ok h8 hd hb)
  exact ⟨h.1.trans h0, h.2.trans (tmR_ok h0)⟩
theorem lw8_at {w : List (Int × Int)} {d b t : Int} (ok : waveOk w) (h8 : wv8 w) (hd : 0 ≤ d ∧ d ≤ 2000) (hb : 0 ≤ b ∧ b ≤ 9000) (ht : 0 ≤ t) : waveAt (lw8 w d b) (t + d) = waveAt w t := by
  unfold lw8; rw [waveAt_trim (wv_late ok h8 hd hb), at_late ok hd.1 ht]
theorem lw8_be {w : List (Int × Int)} {d b : Int} (ok : waveOk w) (h8 : wv8 w) (hd : 0 ≤ d ∧ d ≤ 2000) (hb : 0 ≤ b ∧ b ≤ 9000) (h0 : 0 < d) : waveAt (lw8 w d b) (d - 1) = b := by
  unfold lw8; rw [waveAt_trim (wv_late ok h8 hd hb), at_before ok h0]
theorem hi8 {w : List (Int × Int)} (ok : waveOk w) (h8 : wv8 w) : 0 ≤ hiW w ∧ hiW w ≤ 9500 := by
  obtain ⟨p, hp, e⟩ := hi_mem ok
  have := (h8.2 p hp).2
  omega
theorem wvT_sz {w : List (Int × Int)} (ok : waveOk w) : (wvT w).size ≤ 1008 := by
  have h := wtx_len ok (i := w.length) (Nat.le_refl _)
  rw [List.take_length] at h
  rw [wvT_ok ok, tx_size]
  have := ok.1.2
  unfold wtx
  omega
theorem fO86_0 : fOff Tryz.prog 86 0 = some 0 := by kernel_rfl
theorem fO86_1 : fOff Tryz.prog 86 1 = some 1 := by kernel_rfl
theorem fO91_0 : fOff Tryz.prog 91 0 = some 0 := by kernel_rfl
theorem fO91_1 : fOff Tryz.prog 91 1 = some 1 := by kernel_rfl
theorem fO91_2 : fOff Tryz.prog 91 2 = some 2 := by kernel_rfl
theorem hmix : Tryz.prog.follows .mixedOrders = true := by kernel_rfl
theorem pl86 : placesA Tryz.prog 86 = some [(0, 1), (1, 1)] := by kernel_rfl
theorem pl91 : placesA Tryz.prog 91 = some [(0, 1), (1, 1), (2, 1)] := by kernel_rfl
theorem sz2 : tSz Tryz.prog 2 = some 1 := by kernel_rfl
theorem sz3 : tSz Tryz.prog 3 = some 1 := by kernel_rfl
theorem sz86 : tSz Tryz.prog 86 = some 2 := by kernel_rfl
theorem sz89 : tSz Tryz.prog 89 = some 1 := by kernel_rfl
theorem tA2 : tAgg Tryz.prog 2 = some none := by kernel_rfl
theorem tA22 : tAgg Tryz.prog 22 = some none := by kernel_rfl
theorem tA3 : tAgg Tryz.prog 3 = some none := by kernel_rfl
theorem tA5 : tAgg Tryz.prog 5 = some none := by kernel_rfl
theorem tA86 : tAgg Tryz.prog 86 = some (some 2) := by kernel_rfl
theorem tA89 : tAgg Tryz.prog 89 = some none := by kernel_rfl
theorem tA9 : tAgg Tryz.prog 9 = some none := by kernel_rfl
theorem tApp36 : tApp Tryz.prog 36 = some (2, 1, 8) := by kernel_rfl
theorem tApp44 : tApp Tryz.prog 44 = some (86, 2, 16) := by kernel_rfl
theorem tApp80 : tApp Tryz.prog 80 = some (9, 1, 16) := by kernel_rfl
theorem tB4 : tIsBool Tryz.prog 4 = true := by kernel_rfl
theorem tBy9 : tBytes Tryz.prog 9 = some 16 := by kernel_rfl
theorem tE22 : tElem Tryz.prog 22 = some (5, 1) := by kernel_rfl
theorem tE36 : tElem Tryz.prog 36 = some (2, 1) := by kernel_rfl
theorem tE44 : tElem Tryz.prog 44 = some (86, 2) := by kernel_rfl
theorem tE80 : tElem Tryz.prog 80 = some (9, 1) := by kernel_rfl
theorem tEq86 : tEq Tryz.prog 86 = some [0, 0] := by kernel_rfl
theorem tEs22 : (tElem Tryz.prog 22).isSome = true := by kernel_rfl
theorem tEs36 : (tElem Tryz.prog 36).isSome = true := by kernel_rfl
theorem tEs44 : (tElem Tryz.prog 44).isSome = true := by kernel_rfl
theorem tEs80 : (tElem Tryz.prog 80).isSome = true := by kernel_rfl
theorem tIf109 : tIfc Tryz.prog 109 = true := by kernel_rfl
theorem tK2 : tKind Tryz.prog 2 = some .i64 := by kernel_rfl
theorem tK3 : tKind Tryz.prog 3 = some .i64 := by kernel_rfl
theorem tK5 : tKind Tryz.prog 5 = some .u8 := by kernel_rfl
theorem tK89 : tKind Tryz.prog 89 = some .u64 := by kernel_rfl
theorem tStr9 : tIsStr Tryz.prog 9 = true := by kernel_rfl
theorem zA2 : zeroA Tryz.prog 2 = some [.s (.int .i64 0)] := by kernel_rfl
theorem zA86 : zeroA Tryz.prog 86 = some [.s (.int .i64 0), .s (.int .i64 0)] := by kernel_rfl
theorem zA9 : zeroA Tryz.prog 9 = some [.s (.string ⟨#[]⟩)] := by kernel_rfl
theorem zA91 : zeroA Tryz.prog 91 = some [.nil, .s (.int .i64 0), .s (.int .u64 0)] := by kernel_rfl

-- impl.within
set_option maxRecDepth 20000 in
set_option maxHeartbeats 2000000 in
theorem D_impl_within (a lo hi : Int)  : Den Tryz.prog 40 [.s (.int .i64 a), .s (.int .i64 lo), .s (.int .i64 hi)] (.s (.bool (decide (lo ≤ a ∧ a ≤ hi)))) := by
  refine den_of_good Tryz.func40 (by decide) rfl (Nat.le_of_ble_eq_true rfl) (Nat.le_of_ble_eq_true rfl) ?_
  refine good_seq fun K1 hK1 => ?_
  refine good_region rfl ?_
  refine ev_q rfl (q_assign (by conv => lhs; whnf) ?_)
  refine ev_nil (hK1 _ ?_); clear hK1
  refine good_seq fun K2 hK2 => ?_
  refine good_region rfl ?_
  refine ev_q rfl (q_move (by conv => lhs; whnf) ?_)
  refine ev_q rfl (q_move (by conv => lhs; whnf) ?_)
  refine ev_q rfl (q_int rfl rfl ?_)
  intro b3 hb3; cases b3
  · replace hb3 := dF hb3
    refine ev_q rfl (q_move (by conv => lhs; whnf) ?_)
    refine ev_skip rfl ?_
    refine ev_skip rfl ?_
    refine ev_skip rfl ?_
    refine ev_q rfl (q_pickF rfl (by conv => lhs; whnf) ?_)
    refine ev_q rfl (q_assign (by conv => lhs; whnf) ?_)
    refine ev_nil (hK2 _ ?_); clear hK2
    refine good_ret ?_
    repeat (first | refine thenQ_ret ?_ | refine blockQ_ret ?_)
    refine ret_tmp (st := _) rfl (by conv => lhs; whnf) rfl ?_
    first | rfl | exact fT (by first | omega | grind) | exact fF (by first | omega | grind) | exact fT' (by first | omega | grind) | (exfalso; first | omega | grind)
  · replace hb3 := dT hb3
    refine ev_q rfl (q_move (by conv => lhs; whnf) ?_)
    refine ev_q rfl (q_move (by conv => lhs; whnf) ?_)
    refine ev_q rfl (q_move (by conv => lhs; whnf) ?_)
    refine ev_q rfl (q_int rfl rfl ?_)
    intro b4 hb4; cases b4
    · replace hb4 := dF hb4
      refine ev_q rfl (q_pickT rfl (by conv => lhs; whnf) ?_)
      refine ev_q rfl (q_assign (by conv => lhs; whnf) ?_)
      refine ev_nil (hK2 _ ?_); clear hK2
      refine good_ret ?_
      repeat (first | refine thenQ_ret ?_ | refine blockQ_ret ?_)
      refine ret_tmp (st := _) rfl (by conv => lhs; whnf) rfl ?_
      first | rfl | exact fT (by first | omega | grind) | exact fF (by first | omega | grind) | exact fT' (by first | omega | grind) | (exfalso; first | omega | grind)
    · replace hb4 := dT hb4
      refine ev_q rfl (q_pickT rfl (by conv => lhs; whnf) ?_)
      refine ev_q rfl (q_assign (by conv => lhs; whnf) ?_)
      refine ev_nil (hK2 _ ?_); clear hK2
      refine good_ret ?_
      repeat (first | refine thenQ_ret ?_ | refine blockQ_ret ?_)
      refine ret_tmp (st := _) rfl (by conv => lhs; whnf) rfl ?_
      first | rfl | exact fT (by first | omega | grind) | exact fF (by first | omega | grind) | exact fT' (by first | omega | grind) | (exfalso; first | omega | grind)

-- spec.l00In
set_option maxRecDepth 20000 in
set_option maxHeartbeats 2000000 in
theorem D_spec_l00In (a lo hi : Int)  : Den Tryz.prog 45 [.s (.int .i64 a), .s (.int .i64 lo), .s (.int .i64 hi)] (.s (.bool (decide (lo ≤ a ∧ a ≤ hi)))) := by
  refine den_of_good Tryz.func45 (by decide) rfl (Nat.le_of_ble_eq_true rfl) (Nat.le_of_ble_eq_true rfl) ?_
  refine good_seq fun K1 hK1 => ?_
  refine good_region rfl ?_
  refine ev_q rfl (q_assign (by conv => lhs; whnf) ?_)
  refine ev_nil (hK1 _ ?_); clear hK1
  refine good_seq fun K2 hK2 => ?_
  refine good_region rfl ?_
  refine ev_q rfl (q_move (by conv => lhs; whnf) ?_)
  refine ev_q rfl (q_move (by conv => lhs; whnf) ?_)
  refine ev_q rfl (q_int rfl rfl ?_)
  intro b3 hb3; cases b3
  · replace hb3 := dF hb3
    refine ev_q rfl (q_move (by conv => lhs; whnf) ?_)
    refine ev_skip rfl ?_
    refine ev_skip rfl ?_
    refine ev_skip rfl ?_
    refine ev_q rfl (q_pickF rfl (by conv => lhs; whnf) ?_)
    refine ev_q rfl (q_assign (by conv => lhs; whnf) ?_)
    refine ev_nil (hK2 _ ?_); clear hK2
    refine good_ret ?_
    repeat (first | refine thenQ_ret ?_ | refine blockQ_ret ?_)
    refine ret_tmp (st := _) rfl (by conv => lhs; whnf) rfl ?_
    first | rfl | exact fT (by first | omega | grind) | exact fF (by first | omega | grind) | exact fT' (by first | omega | grind) | (exfalso; first | omega | grind)
  · replace hb3 := dT hb3
    refine ev_q rfl (q_move (by conv => lhs; whnf) ?_)
    refine ev_q rfl (q_move (by conv => lhs; whnf) ?_)
    refine ev_q rfl (q_move (by conv => lhs; whnf) ?_)
    refine ev_q rfl (q_int rfl rfl ?_)
    intro b4 hb4; cases b4
    · replace hb4 := dF hb4
      refine ev_q rfl (q_pickT rfl (by conv => lhs; whnf) ?_)
      refine ev_q rfl (q_assign (by conv => lhs; whnf) ?_)
      refine ev_nil (hK2 _ ?_); clear hK2
      refine good_ret ?_
      repeat (first | refine thenQ_ret ?_ | refine blockQ_ret ?_)
      refine ret_tmp (st := _) rfl (by conv => lhs; whnf) rfl ?_
      first | rfl | exact fT (by first | omega | grind) | exact fF (by first | omega | grind) | exact fT' (by first | omega | grind) | (exfalso; first | omega | grind)
    · replace hb4 := dT hb4
      refine ev_q rfl (q_pickT rfl (by conv => lhs; whnf) ?_)
      refine ev_q rfl (q_assign (by conv => lhs; whnf) ?_)
      refine ev_nil (hK2 _ ?_); clear hK2
      refine good_ret ?_
      repeat (first | refine thenQ_ret ?_ | refine blockQ_ret ?_)
      refine ret_tmp (st := _) rfl (by conv => lhs; whnf) rfl ?_
      first | rfl | exact fT (by first | omega | grind) | exact fF (by first | omega | grind) | exact fT' (by first | omega | grind) | (exfalso; first | omega | grind)

theorem D_fmt (n : Int) (h : inI n) : Den Tryz.prog 99 [.s (.int .i64 n), .s (.int .i64 10)] (.s (.string (dec n))) := by
  obtain ⟨g, hg⟩ := Option.isSome_iff_exists.1 (show (Tryz.prog.globalNamed "internal/strconv.uint64pow10").isSome = true by kernel_rfl)
  exact den_fmt ⟨_, Tryz.func99, rfl, rfl⟩ hg (fun n h0 h1 w ht => Tryz.strconv_FormatInt_10 n h0 h1 w ht) n h.1 h.2

theorem D_joinI (L : List Int) (hl : L.length ≤ 1000000) (hi : ∀ x ∈ L, inI x) : Den Tryz.prog 68 [.lst 1 (L.map dAV), .s (.string ⟨#[44]⟩)] (.s (.string (tx (ltx L)))) := by
  have e : (L.map dec).map stA = L.map dAV := by rw [List.map_map]; rfl
  have e2 : (L.map dec).map (fun b : ByteArray => b.data.toList) = L.map Lib.itoa := by rw [List.map_map]; exact List.map_congr_left fun n _ => by simp [dec, tx_data]
  have hlen := ltx_len hi (i := L.length) (Nat.le_refl _)
  rw [List.take_length] at hlen
  have h := den_join ⟨_, Tryz.func68, rfl, rfl⟩ Tryz.strings_Join_none Tryz.strings_Join (L.map dec) ⟨#[44]⟩ (by rw [List.length_map]; omega) (by rw [e2]; show (ltx L).length ≤ _; omega)
  rw [e, e2] at h
  exact h

-- impl.Decimal
set_option maxRecDepth 20000 in
set_option maxHeartbeats 2000000 in
theorem D_impl_Decimal (n : Int) (h : inI n) : Den Tryz.prog 67 [.s (.int .i64 n)] (.s (.string (dec n))) := by
  refine den_of_good Tryz.func67 (by decide) rfl (Nat.le_of_ble_eq_true rfl) (Nat.le_of_ble_eq_true rfl) ?_
  refine good_seq fun K1 hK1 => ?_
  refine good_region rfl ?_
  refine ev_q rfl (q_assign (by conv => lhs; whnf) ?_)
  refine ev_nil (hK1 _ ?_); clear hK1
  refine good_seq fun K2 hK2 => ?_
  refine good_region rfl ?_
  refine ev_q rfl (q_move (by conv => lhs; whnf) ?_)
  refine ev_q rfl (q_call rfl rfl (rfl) (D_fmt n h) rfl ?_)
  refine ev_q rfl (q_assign (by conv => lhs; whnf) ?_)
  refine ev_nil (hK2 _ ?_); clear hK2
  refine good_ret ?_
  repeat (first | refine thenQ_ret ?_ | refine blockQ_ret ?_)
  refine ret_tmp (st := _) rfl (by conv => lhs; whnf) rfl ?_
  rfl

-- impl.ListText
set_option maxRecDepth 20000 in
set_option maxHeartbeats 2000000 in
theorem D_impl_ListText (xs : List Int) (hx : xs.length ≤ 17592186044416) : Den Tryz.prog 82 [.lst 1 (xs.map ci)] (.s (.string (lt xs))) := by
  refine den_of_good Tryz.func82 (by decide) rfl (Nat.le_of_ble_eq_true rfl) (Nat.le_of_ble_eq_true rfl) ?_
  refine good_seq fun K1 hK1 => ?_
  refine good_region rfl ?_
  refine ev_q rfl (q_assign (by conv => lhs; whnf) ?_)
  refine ev_nil (hK1 _ ?_); clear hK1
  refine good_seq fun K2 hK2 => ?_
  refine good_seq fun K3 hK3 => ?_
  refine good_region rfl ?_
  refine ev_q rfl (q_move (by conv => lhs; whnf) ?_)
  refine ev_q rfl (q_len tEs36 rfl ?_)
  intro n4 hn4
  try simp only [List.length_map] at hn4
  refine ev_q rfl (q_int rfl rfl ?_)
  intro b5 hb5; cases b5
  · replace hb5 := dF hb5
    refine ev_nil (hK3 _ ?_); clear hK3
    refine good_condF rfl ?_
    refine good_skip (hK2 _ ?_); clear hK2
    refine good_seq fun K6 hK6 => ?_
    refine good_seq fun K7 hK7 => ?_
    refine good_region rfl ?_
    refine ev_q rfl (q_move (by conv => lhs; whnf) ?_)
    refine ev_q rfl (q_len tEs36 rfl ?_)
    intro n8 hn8
    try simp only [List.length_map] at hn8
    refine ev_q rfl (q_int rfl rfl ?_)
    intro b9 hb9; cases b9
    · replace hb9 := eqF hb9
      refine ev_nil (hK7 _ ?_); clear hK7
      refine good_condF rfl ?_
      refine good_skip (hK6 _ ?_); clear hK6
      refine good_seq fun K10 hK10 => ?_
      refine good_region rfl ?_
      refine ev_q rfl (q_move (by conv => lhs; whnf) ?_)
      refine ev_q rfl (q_len tEs36 rfl ?_)
      intro n11 hn11
      try simp only [List.length_map] at hn11
      refine ev_k rfl (k_make2 tE80 rfl rfl zA9 tBy9 rfl (by omega) (by omega) (by omega) (by omega) rfl (by rfl) ?_)
      refine ev_q rfl (q_assign (by conv => lhs; whnf) ?_)
      refine ev_nil (hK10 _ ?_); clear hK10
      refine good_seq fun K12 hK12 => ?_
      refine good_seq fun K13 hK13 => ?_
      refine good_region rfl ?_
      refine ev_q rfl (q_move (by conv => lhs; whnf) ?_)
      refine ev_q rfl (q_len tEs36 rfl ?_)
      intro n14 hn14
      try simp only [List.length_map] at hn14
      refine ev_q rfl (q_move (by conv => lhs; whnf) ?_)
      refine ev_nil (hK13 _ ?_); clear hK13
      refine good_block ?_
      refine good_loop (α := Nat) (fun i => { env := upd (upd (upd (upd ((fun _ => .junk)) 3 (.own 28 (xs.take i).length)) 15 (.lst 1 (xs.map ci))) 16 (.s (.int .i64 ((xs.length : Int))))) 17 (.s (.int .i64 i)), H := upd ((fun _ => none)) 28 (some (.row 9 1 ((xs.take i).map dAV))) }) (fun i => i ≤ xs.length ∧ ∀ j q, j < i → xs[j]? = some q → -1000000000000 ≤ q ∧ q ≤ 1000000000000) (fun i => xs.length - i) 0 ?_ ?_ ?_
      · exact ⟨Nat.zero_le _, fun j u hj => by omega⟩
      · refine Sub.trans (sub_move 3 14 28 rfl rfl rfl (by decide)) ?_
        refine sub_weak ?_ ?_
        · exact weakH_row (rowEq (rfl)) (weakH_none _)
        · refine weakE_upd ?e17 ?r17 (weakE_upd ?e16 ?r16 (weakE_upd ?e15 ?r15 (weakE_upd ?e3 ?r3 (weakE_junk _ _))))
          case e3 => first | rfl | exact fI (by omega) | (first | rfl | (rw [hst]; exact ownEq (by simp)))
          case r3 => intro h hh; simp [refs] at hh; subst hh; rfl
          case e15 => first | rfl | exact fI (by omega) | (simp_all)
          case r15 => intro h hh; cases hh
          case e16 => first | rfl | exact fI (by omega) | (simp_all)
          case r16 => intro h hh; cases hh
          case e17 => first | rfl | exact fI (by omega) | (simp_all)
          case r17 => intro h hh; cases hh
      · rintro i ⟨hI, hJ⟩
        refine good_seq fun K15 hK15 => ?_
        refine good_region rfl ?_
        refine ev_q rfl (q_int rfl rfl ?_)
        intro b16 hb16; cases b16
        · replace hb16 := dF hb16
          obtain rfl : i = xs.length := by omega
          have hall : ∀ x ∈ xs, -1000000000000 ≤ x ∧ x ≤ 1000000000000 := fun x hx => by obtain ⟨j, hj⟩ := List.getElem?_of_mem hx; exact hJ j x (List.getElem?_eq_some_iff.1 hj).1 hj
          have hfl : fitsL xs := ⟨by omega, hall⟩
          have hne : xs ≠ [] := fun e => by have e2 := congrArg List.length e; rw [List.length_nil] at e2; omega
          refine ev_nil (hK15 _ ?_); clear hK15
          refine good_seq fun K17 hK17 => ?_
          refine good_condF rfl ?_
          refine good_exit ?_
          repeat (first | refine thenQ_exit ?_ | refine blockQ_pass rfl ?_)
          refine blockQ_exit (hK12 _ ?_); clear hK12
          refine good_seq fun K18 hK18 => ?_
          refine good_region rfl ?_
          refine ev_q rfl (q_move (by conv => lhs; whnf) ?_)
          refine ev_q rfl (q_call rfl rfl (by change ([.lst 1 (List.take (List.take xs.length xs).length ((List.take xs.length xs).map dAV)), .s (.string ⟨#[44]⟩)] : List AV) = _; simp only [takeMap, List.take_length]) (D_joinI xs (by omega) (fun x hx => by have := hall x hx; exact ⟨by omega, by omega⟩)) rfl ?_)
          refine ev_q rfl (q_assign (by conv => lhs; whnf) ?_)
          refine ev_nil (hK18 _ ?_); clear hK18
          refine good_ret ?_
          repeat (first | refine thenQ_ret ?_ | refine blockQ_ret ?_)
          refine ret_tmp (st := _) rfl (by conv => lhs; whnf) rfl ?_
          clear hK17
          first | exact fS (lt_no hnf).symm | exact fS (by subst h0; exact lt_0.symm) | exact fS (lt_ok hfl hne).symm
        · replace hb16 := dT hb16
          obtain ⟨q, hq⟩ := getL (xs := xs) (n := (i : Int)) (by omega) (by omega)
          replace hq : xs[i]? = some q := hq
          have hst := takeS hq
          refine ev_nil (hK15 _ ?_); clear hK15
          refine good_seq fun K19 hK19 => ?_
          refine good_condT rfl ?_
          refine good_skip (hK19 _ ?_); clear hK19
          refine good_seq fun K20 hK20 => ?_
          refine good_block ?_
          refine good_seq fun K21 hK21 => ?_
          refine good_region rfl ?_
          refine ev_q rfl (q_idx tE36 rfl rfl (by exact Int.natCast_nonneg _) (by exact map_get hq) rfl ?_)
          refine ev_q rfl (q_load tA2 rfl ?_)
          refine ev_q rfl (q_assign (by conv => lhs; whnf) ?_)
          refine ev_nil (hK21 _ ?_); clear hK21
          refine good_seq fun K22 hK22 => ?_
          refine good_seq fun K23 hK23 => ?_
          refine good_region rfl ?_
          refine ev_q rfl (q_move (by conv => lhs; whnf) ?_)
          refine ev_q rfl (q_callB rfl rfl (rfl) (D_impl_within ..) ?_)
          intro b24 hb24; cases b24
          · first | replace hb24 := dF hb24 | skip
            have hnf : ¬ fitsL xs := fun h => by have := h.2 q (List.mem_of_getElem? hq); omega
            refine ev_q rfl (q_not rfl rfl ?_)
            refine ev_nil (hK23 _ ?_); clear hK23
            refine good_condT rfl ?_
            refine good_seq fun K25 hK25 => ?_
            refine good_region rfl ?_
            refine ev_q rfl (q_assign (by conv => lhs; whnf) ?_)
            refine ev_nil (hK25 _ ?_); clear hK25
            refine good_ret ?_
            repeat (first | refine thenQ_ret ?_ | refine blockQ_ret ?_)
            refine ret_tmp (st := _) rfl (by conv => lhs; whnf) rfl ?_
            clear hK12 hK20 hK22
            first | exact fS (lt_no hnf).symm | exact fS (by subst h0; exact lt_0.symm) | exact fS (lt_ok hfl hne).symm
          · first | replace hb24 := dT hb24 | skip
            have hqb := hb24
            refine ev_q rfl (q_not rfl rfl ?_)
            refine ev_nil (hK23 _ ?_); clear hK23
            refine good_condF rfl ?_
            refine good_skip (hK22 _ ?_); clear hK22
            refine good_region rfl ?_
            refine ev_q rfl (q_move (by conv => lhs; whnf) ?_)
            refine ev_q rfl (q_move (by conv => lhs; whnf) ?_)
            refine ev_q rfl (q_call rfl rfl (rfl) (D_impl_Decimal q ⟨by omega, by omega⟩) rfl ?_)
            refine ev_k rfl (k_lit tE80 zA9 rfl rfl (by decide) (by decide) rfl rfl rfl ?_)
            refine ev_k rfl (k_app tApp80 rfl rfl (by simp) rfl (.inr rfl) (by simp [maxLen]; omega) (by simp; omega) ?_)
            refine ev_q rfl (q_assign (by conv => lhs; whnf) ?_)
            refine ev_nil (hK20 _ ?_); clear hK20
            refine good_region rfl ?_
            refine ev_q rfl (q_int rfl rfl ?_)
            intro n26 hn26
            replace hn26 := in64 hn26 (by omega) (by omega)
            refine ev_q rfl (q_move (by conv => lhs; whnf) ?_)
            refine ev_nil ?_
            clear hK12
            refine ⟨i + 1, ?_, ?_, ?_⟩
            · exact ⟨by omega, all_extI (Q := fun _ (q : Int) => -1000000000000 ≤ q ∧ q ≤ 1000000000000) hJ hq hqb⟩
            · first | omega | (simp only []; omega) | (dsimp only; omega)
            · refine sub_weak ?_ ?_
              · exact weakH_row (rowEq (appG hst rfl)) (weakH_none _)
              · refine weakE_upd ?e17 ?r17 (weakE_upd ?e16 ?r16 (weakE_upd ?e15 ?r15 (weakE_upd ?e3 ?r3 (weakE_junk _ _))))
                case e3 => first | rfl | exact fI (by omega) | (first | rfl | (rw [hst]; exact ownEq (by simp)))
                case r3 => intro h hh; simp [refs] at hh; subst hh; rfl
                case e15 => first | rfl | exact fI (by omega) | (simp_all)
                case r15 => intro h hh; cases hh
                case e16 => first | rfl | exact fI (by omega) | (simp_all)
                case r16 => intro h hh; cases hh
                case e17 => first | rfl | exact fI (by omega) | (simp_all)
                case r17 => intro h hh; cases hh
    · replace hb9 := eqT hb9
      have h0 : xs = [] := List.eq_nil_of_length_eq_zero (by omega)
      refine ev_nil (hK7 _ ?_); clear hK7
      refine good_condT rfl ?_
      refine good_seq fun K27 hK27 => ?_
      refine good_region rfl ?_
      refine ev_q rfl (q_assign (by conv => lhs; whnf) ?_)
      refine ev_nil (hK27 _ ?_); clear hK27
      refine good_ret ?_
      repeat (first | refine thenQ_ret ?_ | refine blockQ_ret ?_)
      refine ret_tmp (st := _) rfl (by conv => lhs; whnf) rfl ?_
      clear hK6
      first | exact fS (lt_no hnf).symm | exact fS (by subst h0; exact lt_0.symm) | exact fS (lt_ok hfl hne).symm
  · replace hb5 := dT hb5
    have hnf : ¬ fitsL xs := fun h => by have := h.1; omega
    refine ev_nil (hK3 _ ?_); clear hK3
    refine good_condT rfl ?_
    refine good_seq fun K28 hK28 => ?_
    refine good_region rfl ?_
    refine ev_q rfl (q_assign (by conv => lhs; whnf) ?_)
    refine ev_nil (hK28 _ ?_); clear hK28
    refine good_ret ?_
    repeat (first | refine thenQ_ret ?_ | refine blockQ_ret ?_)
    refine ret_tmp (st := _) rfl (by conv => lhs; whnf) rfl ?_
    clear hK2
    first | exact fS (lt_no hnf).symm | exact fS (by subst h0; exact lt_0.symm) | exact fS (lt_ok hfl hne).symm

-- spec.l03Degrees
set_option maxRecDepth 20000 in
set_option maxHeartbeats 2000000 in
theorem D_spec_l03Degrees (a : Int)  : Den Tryz.prog 103 [.s (.int .i64 a)] (.s (.bool (decide (-5000 ≤ a ∧ a ≤ 20000)))) := by
  refine den_of_good Tryz.func103 (by decide) rfl (Nat.le_of_ble_eq_true rfl) (Nat.le_of_ble_eq_true rfl) ?_
  refine good_seq fun K1 hK1 => ?_
  refine good_region rfl ?_
  refine ev_q rfl (q_assign (by conv => lhs; whnf) ?_)
  refine ev_nil (hK1 _ ?_); clear hK1
  refine good_seq fun K2 hK2 => ?_
  refine good_region rfl ?_
  refine ev_q rfl (q_move (by conv => lhs; whnf) ?_)
  refine ev_q rfl (q_callB rfl rfl (rfl) (D_spec_l00In ..) ?_)
  intro b3 hb3; cases b3
  · first | replace hb3 := dF hb3 | skip
    refine ev_q rfl (q_assign (by conv => lhs; whnf) ?_)
    refine ev_nil (hK2 _ ?_); clear hK2
    refine good_ret ?_
    repeat (first | refine thenQ_ret ?_ | refine blockQ_ret ?_)
    refine ret_tmp (st := _) rfl (by conv => lhs; whnf) rfl ?_
    first | rfl | exact fT (by first | omega | grind) | exact fF (by first | omega | grind) | exact fT' (by first | omega | grind) | (exfalso; first | omega | grind)
  · first | replace hb3 := dT hb3 | skip
    refine ev_q rfl (q_assign (by conv => lhs; whnf) ?_)
    refine ev_nil (hK2 _ ?_); clear hK2
    refine good_ret ?_
    repeat (first | refine thenQ_ret ?_ | refine blockQ_ret ?_)
    refine ret_tmp (st := _) rfl (by conv => lhs; whnf) rfl ?_
    first | rfl | exact fT (by first | omega | grind) | exact fF (by first | omega | grind) | exact fT' (by first | omega | grind) | (exfalso; first | omega | grind)

-- spec.l09Time
set_option maxRecDepth 20000 in
set_option maxHeartbeats 2000000 in
theorem D_spec_l09Time (a : Int)  : Den Tryz.prog 71 [.s (.int .i64 a)] (.s (.bool (decide (0 ≤ a ∧ a ≤ 1000000)))) := by
  refine den_of_good Tryz.func71 (by decide) rfl (Nat.le_of_ble_eq_true rfl) (Nat.le_of_ble_eq_true rfl) ?_
  refine good_seq fun K1 hK1 => ?_
  refine good_region rfl ?_
  refine ev_q rfl (q_assign (by conv => lhs; whnf) ?_)
  refine ev_nil (hK1 _ ?_); clear hK1
  refine good_seq fun K2 hK2 => ?_
  refine good_region rfl ?_
  refine ev_q rfl (q_move (by conv => lhs; whnf) ?_)
  refine ev_q rfl (q_callB rfl rfl (rfl) (D_spec_l00In ..) ?_)
  intro b3 hb3; cases b3
  · first | replace hb3 := dF hb3 | skip
    refine ev_q rfl (q_assign (by conv => lhs; whnf) ?_)
    refine ev_nil (hK2 _ ?_); clear hK2
    refine good_ret ?_
    repeat (first | refine thenQ_ret ?_ | refine blockQ_ret ?_)
    refine ret_tmp (st := _) rfl (by conv => lhs; whnf) rfl ?_
    first | rfl | exact fT (by first | omega | grind) | exact fF (by first | omega | grind) | exact fT' (by first | omega | grind) | (exfalso; first | omega | grind)
  · first | replace hb3 := dT hb3 | skip
    refine ev_q rfl (q_assign (by conv => lhs; whnf) ?_)
    refine ev_nil (hK2 _ ?_); clear hK2
    refine good_ret ?_
    repeat (first | refine thenQ_ret ?_ | refine blockQ_ret ?_)
    refine ret_tmp (st := _) rfl (by conv => lhs; whnf) rfl ?_
    first | rfl | exact fT (by first | omega | grind) | exact fF (by first | omega | grind) | exact fT' (by first | omega | grind) | (exfalso; first | omega | grind)

-- impl.timeOk
set_option maxRecDepth 20000 in
set_option maxHeartbeats 2000000 in
theorem D_impl_timeOk (a : Int)  : Den Tryz.prog 59 [.s (.int .i64 a)] (.s (.bool (decide (0 ≤ a ∧ a ≤ 1000000)))) := by
  refine den_of_good Tryz.func59 (by decide) rfl (Nat.le_of_ble_eq_true rfl) (Nat.le_of_ble_eq_true rfl) ?_
  refine good_seq fun K1 hK1 => ?_
  refine good_region rfl ?_
  refine ev_q rfl (q_assign (by conv => lhs; whnf) ?_)
  refine ev_nil (hK1 _ ?_); clear hK1
  refine good_seq fun K2 hK2 => ?_
  refine good_region rfl ?_
  refine ev_q rfl (q_move (by conv => lhs; whnf) ?_)
  refine ev_q rfl (q_callB rfl rfl (rfl) (D_impl_within ..) ?_)
  intro b3 hb3; cases b3
  · first | replace hb3 := dF hb3 | skip
    refine ev_q rfl (q_assign (by conv => lhs; whnf) ?_)
    refine ev_nil (hK2 _ ?_); clear hK2
    refine good_ret ?_
    repeat (first | refine thenQ_ret ?_ | refine blockQ_ret ?_)
    refine ret_tmp (st := _) rfl (by conv => lhs; whnf) rfl ?_
    first | rfl | exact fT (by first | omega | grind) | exact fF (by first | omega | grind) | exact fT' (by first | omega | grind) | (exfalso; first | omega | grind)
  · first | replace hb3 := dT hb3 | skip
    refine ev_q rfl (q_assign (by conv => lhs; whnf) ?_)
    refine ev_nil (hK2 _ ?_); clear hK2
    refine good_ret ?_
    repeat (first | refine thenQ_ret ?_ | refine blockQ_ret ?_)
    refine ret_tmp (st := _) rfl (by conv => lhs; whnf) rfl ?_
    first | rfl | exact fT (by first | omega | grind) | exact fF (by first | omega | grind) | exact fT' (by first | omega | grind) | (exfalso; first | omega | grind)

-- impl.degreesOk
set_option maxRecDepth 20000 in
set_option maxHeartbeats 2000000 in
theorem D_impl_degreesOk (a : Int)  : Den Tryz.prog 60 [.s (.int .i64 a)] (.s (.bool (decide (-5000 ≤ a ∧ a ≤ 20000)))) := by
  refine den_of_good Tryz.func60 (by decide) rfl (Nat.le_of_ble_eq_true rfl) (Nat.le_of_ble_eq_true rfl) ?_
  refine good_seq fun K1 hK1 => ?_
  refine good_region rfl ?_
  refine ev_q rfl (q_assign (by conv => lhs; whnf) ?_)
  refine ev_nil (hK1 _ ?_); clear hK1
  refine good_seq fun K2 hK2 => ?_
  refine good_region rfl ?_
  refine ev_q rfl (q_move (by conv => lhs; whnf) ?_)
  refine ev_q rfl (q_callB rfl rfl (rfl) (D_impl_within ..) ?_)
  intro b3 hb3; cases b3
  · first | replace hb3 := dF hb3 | skip
    refine ev_q rfl (q_assign (by conv => lhs; whnf) ?_)
    refine ev_nil (hK2 _ ?_); clear hK2
    refine good_ret ?_
    repeat (first | refine thenQ_ret ?_ | refine blockQ_ret ?_)
    refine ret_tmp (st := _) rfl (by conv => lhs; whnf) rfl ?_
    first | rfl | exact fT (by first | omega | grind) | exact fF (by first | omega | grind) | exact fT' (by first | omega | grind) | (exfalso; first | omega | grind)
  · first | replace hb3 := dT hb3 | skip
    refine ev_q rfl (q_assign (by conv => lhs; whnf) ?_)
    refine ev_nil (hK2 _ ?_); clear hK2
    refine good_ret ?_
    repeat (first | refine thenQ_ret ?_ | refine blockQ_ret ?_)
    refine ret_tmp (st := _) rfl (by conv => lhs; whnf) rfl ?_
    first | rfl | exact fT (by first | omega | grind) | exact fF (by first | omega | grind) | exact fT' (by first | omega | grind) | (exfalso; first | omega | grind)

-- spec.l09Ok
set_option maxRecDepth 20000 in
set_option maxHeartbeats 2000000 in
theorem D_spec_l09Ok (xs : List (Int × Int)) (hx : xs.length ≤ 8796093022208) : Den Tryz.prog 70 [.lst 2 (xs.map stp)] (.s (.bool (decide (waveOk xs)))) := by
  refine den_of_good Tryz.func70 (by decide) rfl (Nat.le_of_ble_eq_true rfl) (Nat.le_of_ble_eq_true rfl) ?_
  refine good_seq fun K1 hK1 => ?_
  refine good_region rfl ?_
  refine ev_q rfl (q_assign (by conv => lhs; whnf) ?_)
  refine ev_nil (hK1 _ ?_); clear hK1
  refine good_seq fun K2 hK2 => ?_
  refine good_seq fun K3 hK3 => ?_
  refine good_region rfl ?_
  refine ev_q rfl (q_assign (by conv => lhs; whnf) ?_)
  refine ev_nil (hK3 _ ?_); clear hK3
  refine good_block ?_
  refine good_loop (α := Nat) (fun i => { env := upd (upd ((fun _ => .junk)) 0 (.lst 2 (xs.map stp))) 3 (.s (.int .i64 i)), H := fun _ => none }) (fun i => i ≤ xs.length ∧ ∀ j p, j < i → xs[j]? = some p → okAt xs j p) (fun i => xs.length - i) 0 ?_ ?_ ?_
  · exact ⟨by omega, fun j u hj => by omega⟩
  · refine sub_weak ?_ ?_
    · exact weakH_none _
    · refine weakE_upd ?e3 ?r3 (weakE_upd ?e0 ?r0 (weakE_junk _ _))
      case e0 => first | rfl | exact fI (by omega) | (simp_all)
      case r0 => intro h hh; cases hh
      case e3 => first | rfl | exact fI (by omega) | (simp_all)
      case r3 => intro h hh; cases hh
  · rintro i ⟨hI, hJ⟩
    refine good_seq fun K4 hK4 => ?_
    refine good_seq fun K5 hK5 => ?_
    refine good_region rfl ?_
    refine ev_q rfl (q_move (by conv => lhs; whnf) ?_)
    refine ev_q rfl (q_move (by conv => lhs; whnf) ?_)
    refine ev_q rfl (q_len tEs44 rfl ?_)
    intro n6 hn6
    try simp only [List.length_map] at hn6
    refine ev_q rfl (q_int rfl rfl ?_)
    intro b7 hb7; cases b7
    · replace hb7 := dF hb7
      refine ev_nil (hK5 _ ?_); clear hK5
      refine good_condF rfl ?_
      refine good_exit ?_
      repeat (first | refine thenQ_exit ?_ | refine blockQ_pass rfl ?_)
      refine blockQ_exit (hK2 _ ?_); clear hK2
      refine good_seq fun K8 hK8 => ?_
      refine good_region rfl ?_
      refine ev_q rfl (q_move (by conv => lhs; whnf) ?_)
      refine ev_q rfl (q_len tEs44 rfl ?_)
      intro n9 hn9
      try simp only [List.length_map] at hn9
      refine ev_q rfl (q_callB rfl rfl (rfl) (D_spec_l00In ..) ?_)
      intro b10 hb10; cases b10
      · first | replace hb10 := dF hb10 | skip
        refine ev_q rfl (q_assign (by conv => lhs; whnf) ?_)
        refine ev_nil (hK8 _ ?_); clear hK8
        refine good_ret ?_
        repeat (first | refine thenQ_ret ?_ | refine blockQ_ret ?_)
        refine ret_tmp (st := _) rfl (by conv => lhs; whnf) rfl ?_
        clear hK4
        first | exact fT ((wave_iff (all_fin hJ (by omega))).1 (by omega)) | exact fF (fun h => absurd ((wave_iff (all_fin hJ (by omega))).2 h) (by omega)) | exact fF (wave_no hp (by simp only [okAt]; grind))
      · first | replace hb10 := dT hb10 | skip
        refine ev_q rfl (q_assign (by conv => lhs; whnf) ?_)
        refine ev_nil (hK8 _ ?_); clear hK8
        refine good_ret ?_
        repeat (first | refine thenQ_ret ?_ | refine blockQ_ret ?_)
        refine ret_tmp (st := _) rfl (by conv => lhs; whnf) rfl ?_
        clear hK4
        first | exact fT ((wave_iff (all_fin hJ (by omega))).1 (by omega)) | exact fF (fun h => absurd ((wave_iff (all_fin hJ (by omega))).2 h) (by omega)) | exact fF (wave_no hp (by simp only [okAt]; grind))
    · replace hb7 := dT hb7
      obtain ⟨p, hp⟩ := getL (xs := xs) (n := (i : Int)) (by omega) (by omega)
      replace hp : xs[i]? = some p := hp
      refine ev_nil (hK5 _ ?_); clear hK5
      refine good_condT rfl ?_
      refine good_skip (hK4 _ ?_); clear hK4
      refine good_seq fun K11 hK11 => ?_
      refine good_block ?_
      refine good_seq fun K12 hK12 => ?_
      refine good_draw 46 hmix (by kernel_rfl) rfl ?_
      refine qo_q rfl (q_move (by conv => lhs; whnf) ?_)
      refine qo_q rfl (q_move (by conv => lhs; whnf) ?_)
      refine qo_q rfl (q_idx tE44 rfl rfl (by exact Int.natCast_nonneg _) (by exact map_get hp) rfl ?_)
      refine qo_q rfl (q_fieldAddr fO86_0 rfl rfl ?_)
      refine qo_q rfl (q_load tA2 rfl ?_)
      refine qo_q rfl (q_callB rfl rfl (rfl) (D_spec_l09Time ..) ?_)
      intro b13 hb13; cases b13
      · first | replace hb13 := dF hb13 | skip
        refine qo_q rfl (q_not rfl rfl ?_)
        refine qo_q rfl (q_move (by conv => lhs; whnf) ?_)
        refine qo_skip rfl ?_
        refine qo_skip rfl ?_
        refine qo_skip rfl ?_
        refine qo_skip rfl ?_
        refine qo_skip rfl ?_
        refine qo_skip rfl ?_
        refine qo_skip rfl ?_
        refine qo_q rfl (q_pickT rfl (by conv => lhs; whnf) ?_)
        refine qo_q rfl (q_move (by conv => lhs; whnf) ?_)
        refine qo_skip rfl ?_
        refine qo_skip rfl ?_
        refine qo_skip rfl ?_
        refine qo_skip rfl ?_
        refine qo_skip rfl ?_
        refine qo_skip rfl ?_
        refine qo_skip rfl ?_
        refine qo_skip rfl ?_
        refine qo_skip rfl ?_
        refine qo_skip rfl ?_
        refine qo_q rfl (q_pickT rfl (by conv => lhs; whnf) ?_)
        refine qo_q rfl (q_move (by conv => lhs; whnf) ?_)
        refine qo_skip rfl ?_
        refine qo_skip rfl ?_
        refine qo_skip rfl ?_
        refine qo_skip rfl ?_
        refine qo_skip rfl ?_
        refine qo_skip rfl ?_
        refine qo_skip rfl ?_
        refine qo_skip rfl ?_
        refine qo_skip rfl ?_
        refine qo_skip rfl ?_
        refine qo_skip rfl ?_
        refine qo_skip rfl ?_
        refine qo_skip rfl ?_
        refine qo_skip rfl ?_
        refine qo_skip rfl ?_
        refine qo_skip rfl ?_
        refine qo_q rfl (q_pickT rfl (by conv => lhs; whnf) ?_)
        refine qo_nil ?_
        refine ev_nil (hK12 _ ?_); clear hK12
        refine good_condT rfl ?_
        refine good_seq fun K14 hK14 => ?_
        refine good_region rfl ?_
        refine ev_q rfl (q_assign (by conv => lhs; whnf) ?_)
        refine ev_nil (hK14 _ ?_); clear hK14
        refine good_ret ?_
        repeat (first | refine thenQ_ret ?_ | refine blockQ_ret ?_)
        refine ret_tmp (st := _) rfl (by conv => lhs; whnf) rfl ?_
        clear hK2 hK11
        first | exact fT ((wave_iff (all_fin hJ (by omega))).1 (by omega)) | exact fF (fun h => absurd ((wave_iff (all_fin hJ (by omega))).2 h) (by omega)) | exact fF (wave_no hp (by simp only [okAt]; grind))
      · first | replace hb13 := dT hb13 | skip
        refine qo_q rfl (q_not rfl rfl ?_)
        refine qo_q rfl (q_move (by conv => lhs; whnf) ?_)
        refine qo_q rfl (q_move (by conv => lhs; whnf) ?_)
        refine qo_q rfl (q_move (by conv => lhs; whnf) ?_)
        refine qo_q rfl (q_idx tE44 rfl rfl (by exact Int.natCast_nonneg _) (by exact map_get hp) rfl ?_)
        refine qo_q rfl (q_fieldAddr fO86_1 rfl rfl ?_)
        refine qo_q rfl (q_load tA2 rfl ?_)
        refine qo_q rfl (q_callB rfl rfl (rfl) (D_spec_l03Degrees ..) ?_)
        intro b15 hb15; cases b15
        · first | replace hb15 := dF hb15 | skip
          refine qo_q rfl (q_not rfl rfl ?_)
          refine qo_q rfl (q_pickF rfl (by conv => lhs; whnf) ?_)
          refine qo_q rfl (q_move (by conv => lhs; whnf) ?_)
          refine qo_skip rfl ?_
          refine qo_skip rfl ?_
          refine qo_skip rfl ?_
          refine qo_skip rfl ?_
          refine qo_skip rfl ?_
          refine qo_skip rfl ?_
          refine qo_skip rfl ?_
          refine qo_skip rfl ?_
          refine qo_skip rfl ?_
          refine qo_skip rfl ?_
          refine qo_q rfl (q_pickT rfl (by conv => lhs; whnf) ?_)
          refine qo_q rfl (q_move (by conv => lhs; whnf) ?_)
          refine qo_skip rfl ?_
          refine qo_skip rfl ?_
          refine qo_skip rfl ?_
          refine qo_skip rfl ?_
          refine qo_skip rfl ?_
          refine qo_skip rfl ?_
          refine qo_skip rfl ?_
          refine qo_skip rfl ?_
          refine qo_skip rfl ?_
          refine qo_skip rfl ?_
          refine qo_skip rfl ?_
          refine qo_skip rfl ?_
          refine qo_skip rfl ?_
          refine qo_skip rfl ?_
          refine qo_skip rfl ?_
          refine qo_skip rfl ?_
          refine qo_q rfl (q_pickT rfl (by conv => lhs; whnf) ?_)
          refine qo_nil ?_
          refine ev_nil (hK12 _ ?_); clear hK12
          refine good_condT rfl ?_
          refine good_seq fun K16 hK16 => ?_
          refine good_region rfl ?_
          refine ev_q rfl (q_assign (by conv => lhs; whnf) ?_)
          refine ev_nil (hK16 _ ?_); clear hK16
          refine good_ret ?_
          repeat (first | refine thenQ_ret ?_ | refine blockQ_ret ?_)
          refine ret_tmp (st := _) rfl (by conv => lhs; whnf) rfl ?_
          clear hK2 hK11
          first | exact fT ((wave_iff (all_fin hJ (by omega))).1 (by omega)) | exact fF (fun h => absurd ((wave_iff (all_fin hJ (by omega))).2 h) (by omega)) | exact fF (wave_no hp (by simp only [okAt]; grind))
        · first | replace hb15 := dT hb15 | skip
          refine qo_q rfl (q_not rfl rfl ?_)
          refine qo_q rfl (q_pickF rfl (by conv => lhs; whnf) ?_)
          refine qo_q rfl (q_move (by conv => lhs; whnf) ?_)
          refine qo_q rfl (q_move (by conv => lhs; whnf) ?_)
          refine qo_q rfl (q_int rfl rfl ?_)
          intro b17 hb17; cases b17
          · replace hb17 := eqF hb17
            refine qo_q rfl (q_move (by conv => lhs; whnf) ?_)
            refine qo_skip rfl ?_
            refine qo_skip rfl ?_
            refine qo_skip rfl ?_
            refine qo_skip rfl ?_
            refine qo_skip rfl ?_
            refine qo_skip rfl ?_
            refine qo_q rfl (q_pickF rfl (by conv => lhs; whnf) ?_)
            refine qo_q rfl (q_pickF rfl (by conv => lhs; whnf) ?_)
            refine qo_q rfl (q_move (by conv => lhs; whnf) ?_)
            refine qo_q rfl (q_move (by conv => lhs; whnf) ?_)
            refine qo_q rfl (q_int rfl rfl ?_)
            intro b18 hb18; cases b18
            · replace hb18 := dF hb18
              refine qo_q rfl (q_move (by conv => lhs; whnf) ?_)
              refine qo_skip rfl ?_
              refine qo_skip rfl ?_
              refine qo_skip rfl ?_
              refine qo_skip rfl ?_
              refine qo_skip rfl ?_
              refine qo_skip rfl ?_
              refine qo_skip rfl ?_
              refine qo_skip rfl ?_
              refine qo_skip rfl ?_
              refine qo_skip rfl ?_
              refine qo_skip rfl ?_
              refine qo_skip rfl ?_
              refine qo_q rfl (q_pickF rfl (by conv => lhs; whnf) ?_)
              refine qo_q rfl (q_pickF rfl (by conv => lhs; whnf) ?_)
              refine qo_nil ?_
              refine ev_nil (hK12 _ ?_); clear hK12
              refine good_condF rfl ?_
              refine good_skip (hK11 _ ?_); clear hK11
              refine good_region rfl ?_
              refine ev_q rfl (q_move (by conv => lhs; whnf) ?_)
              refine ev_q rfl (q_int rfl rfl ?_)
              intro n19 hn19
              replace hn19 := in64 hn19 (by omega) (by omega)
              refine ev_q rfl (q_assign (by conv => lhs; whnf) ?_)
              refine ev_nil ?_
              clear hK2
              refine ⟨i + 1, ?_, ?_, ?_⟩
              · refine ⟨by omega, all_ext hJ hp ?_⟩
                refine ⟨by omega, by omega, by intro hz; grind, fun z hz0 hz => ?_⟩
                grind
              · first | omega | (simp only []; omega) | (dsimp only; omega)
              · refine sub_weak ?_ ?_
                · exact weakH_none _
                · refine weakE_upd ?e3 ?r3 (weakE_upd ?e0 ?r0 (weakE_junk _ _))
                  case e0 => first | rfl | exact fI (by omega) | (simp_all)
                  case r0 => intro h hh; cases hh
                  case e3 => first | rfl | exact fI (by omega) | (simp_all)
                  case r3 => intro h hh; cases hh
            · replace hb18 := dT hb18
              refine qo_q rfl (q_move (by conv => lhs; whnf) ?_)
              refine qo_q rfl (q_move (by conv => lhs; whnf) ?_)
              refine qo_q rfl (q_move (by conv => lhs; whnf) ?_)
              refine qo_q rfl (q_int rfl rfl ?_)
              intro n20 hn20
              replace hn20 := in64 hn20 (by omega) (by omega)
              obtain ⟨q, hq⟩ := getL (xs := xs) (n := n20) (by omega) (by omega)
              refine qo_q rfl (q_idx tE44 rfl rfl (by omega) (by exact map_get hq) rfl ?_)
              refine qo_q rfl (q_fieldAddr fO86_0 rfl rfl ?_)
              refine qo_q rfl (q_load tA2 rfl ?_)
              refine qo_q rfl (q_move (by conv => lhs; whnf) ?_)
              refine qo_q rfl (q_move (by conv => lhs; whnf) ?_)
              refine qo_q rfl (q_idx tE44 rfl rfl (by exact Int.natCast_nonneg _) (by exact map_get hp) rfl ?_)
              refine qo_q rfl (q_fieldAddr fO86_0 rfl rfl ?_)
              refine qo_q rfl (q_load tA2 rfl ?_)
              refine qo_q rfl (q_int rfl rfl ?_)
              intro b21 hb21; cases b21
              · replace hb21 := dF hb21
                refine qo_q rfl (q_pickT rfl (by conv => lhs; whnf) ?_)
                refine qo_q rfl (q_pickF rfl (by conv => lhs; whnf) ?_)
                refine qo_nil ?_
                refine ev_nil (hK12 _ ?_); clear hK12
                refine good_condF rfl ?_
                refine good_skip (hK11 _ ?_); clear hK11
                refine good_region rfl ?_
                refine ev_q rfl (q_move (by conv => lhs; whnf) ?_)
                refine ev_q rfl (q_int rfl rfl ?_)
                intro n22 hn22
                replace hn22 := in64 hn22 (by omega) (by omega)
                refine ev_q rfl (q_assign (by conv => lhs; whnf) ?_)
                refine ev_nil ?_
                clear hK2
                refine ⟨i + 1, ?_, ?_, ?_⟩
                · refine ⟨by omega, all_ext hJ hp ?_⟩
                  refine ⟨by omega, by omega, by intro hz; grind, fun z hz0 hz => ?_⟩
                  grind
                · first | omega | (simp only []; omega) | (dsimp only; omega)
                · refine sub_weak ?_ ?_
                  · exact weakH_none _
                  · refine weakE_upd ?e3 ?r3 (weakE_upd ?e0 ?r0 (weakE_junk _ _))
                    case e0 => first | rfl | exact fI (by omega) | (simp_all)
                    case r0 => intro h hh; cases hh
                    case e3 => first | rfl | exact fI (by omega) | (simp_all)
                    case r3 => intro h hh; cases hh
              · replace hb21 := dT hb21
                refine qo_q rfl (q_pickT rfl (by conv => lhs; whnf) ?_)
                refine qo_q rfl (q_pickF rfl (by conv => lhs; whnf) ?_)
                refine qo_nil ?_
                refine ev_nil (hK12 _ ?_); clear hK12
                refine good_condT rfl ?_
                refine good_seq fun K23 hK23 => ?_
                refine good_region rfl ?_
                refine ev_q rfl (q_assign (by conv => lhs; whnf) ?_)
                refine ev_nil (hK23 _ ?_); clear hK23
                refine good_ret ?_
                repeat (first | refine thenQ_ret ?_ | refine blockQ_ret ?_)
                refine ret_tmp (st := _) rfl (by conv => lhs; whnf) rfl ?_
                clear hK2 hK11
                first | exact fT ((wave_iff (all_fin hJ (by omega))).1 (by omega)) | exact fF (fun h => absurd ((wave_iff (all_fin hJ (by omega))).2 h) (by omega)) | exact fF (wave_no hp (by simp only [okAt]; grind))
          · replace hb17 := eqT hb17
            refine qo_q rfl (q_move (by conv => lhs; whnf) ?_)
            refine qo_q rfl (q_move (by conv => lhs; whnf) ?_)
            refine qo_q rfl (q_move (by conv => lhs; whnf) ?_)
            refine qo_q rfl (q_idx tE44 rfl rfl (by exact Int.natCast_nonneg _) (by exact map_get hp) rfl ?_)
            refine qo_q rfl (q_fieldAddr fO86_0 rfl rfl ?_)
            refine qo_q rfl (q_load tA2 rfl ?_)
            refine qo_q rfl (q_int rfl rfl ?_)
            intro b24 hb24; cases b24
            · replace hb24 := neF hb24
              refine qo_q rfl (q_pickT rfl (by conv => lhs; whnf) ?_)
              refine qo_q rfl (q_pickF rfl (by conv => lhs; whnf) ?_)
              refine qo_q rfl (q_move (by conv => lhs; whnf) ?_)
              refine qo_q rfl (q_move (by conv => lhs; whnf) ?_)
              refine qo_q rfl (q_int rfl rfl ?_)
              intro b25 hb25; cases b25
              · replace hb25 := dF hb25
                refine qo_q rfl (q_move (by conv => lhs; whnf) ?_)
                refine qo_skip rfl ?_
                refine qo_skip rfl ?_
                refine qo_skip rfl ?_
                refine qo_skip rfl ?_
                refine qo_skip rfl ?_
                refine qo_skip rfl ?_
                refine qo_skip rfl ?_
                refine qo_skip rfl ?_
                refine qo_skip rfl ?_
                refine qo_skip rfl ?_
                refine qo_skip rfl ?_
                refine qo_skip rfl ?_
                refine qo_q rfl (q_pickF rfl (by conv => lhs; whnf) ?_)
                refine qo_q rfl (q_pickF rfl (by conv => lhs; whnf) ?_)
                refine qo_nil ?_
                refine ev_nil (hK12 _ ?_); clear hK12
                refine good_condF rfl ?_
                refine good_skip (hK11 _ ?_); clear hK11
                refine good_region rfl ?_
                refine ev_q rfl (q_move (by conv => lhs; whnf) ?_)
                refine ev_q rfl (q_int rfl rfl ?_)
                intro n26 hn26
                replace hn26 := in64 hn26 (by omega) (by omega)
                refine ev_q rfl (q_assign (by conv => lhs; whnf) ?_)
                refine ev_nil ?_
                clear hK2
                refine ⟨i + 1, ?_, ?_, ?_⟩
                · refine ⟨by omega, all_ext hJ hp ?_⟩
                  refine ⟨by omega, by omega, by intro hz; grind, fun z hz0 hz => ?_⟩
                  grind
                · first | omega | (simp only []; omega) | (dsimp only; omega)
                · refine sub_weak ?_ ?_
                  · exact weakH_none _
                  · refine weakE_upd ?e3 ?r3 (weakE_upd ?e0 ?r0 (weakE_junk _ _))
                    case e0 => first | rfl | exact fI (by omega) | (simp_all)
                    case r0 => intro h hh; cases hh
                    case e3 => first | rfl | exact fI (by omega) | (simp_all)
                    case r3 => intro h hh; cases hh
              · replace hb25 := dT hb25
                refine qo_q rfl (q_move (by conv => lhs; whnf) ?_)
                refine qo_q rfl (q_move (by conv => lhs; whnf) ?_)
                refine qo_q rfl (q_move (by conv => lhs; whnf) ?_)
                refine qo_q rfl (q_int rfl rfl ?_)
                intro n27 hn27
                replace hn27 := in64 hn27 (by omega) (by omega)
                obtain ⟨q, hq⟩ := getL (xs := xs) (n := n27) (by omega) (by omega)
                refine qo_q rfl (q_idx tE44 rfl rfl (by omega) (by exact map_get hq) rfl ?_)
                refine qo_q rfl (q_fieldAddr fO86_0 rfl rfl ?_)
                refine qo_q rfl (q_load tA2 rfl ?_)
                refine qo_q rfl (q_move (by conv => lhs; whnf) ?_)
                refine qo_q rfl (q_move (by conv => lhs; whnf) ?_)
                refine qo_q rfl (q_idx tE44 rfl rfl (by exact Int.natCast_nonneg _) (by exact map_get hp) rfl ?_)
                refine qo_q rfl (q_fieldAddr fO86_0 rfl rfl ?_)
                refine qo_q rfl (q_load tA2 rfl ?_)
                refine qo_q rfl (q_int rfl rfl ?_)
                intro b28 hb28; cases b28
                · replace hb28 := dF hb28
                  refine qo_q rfl (q_pickT rfl (by conv => lhs; whnf) ?_)
                  refine qo_q rfl (q_pickF rfl (by conv => lhs; whnf) ?_)
                  refine qo_nil ?_
                  refine ev_nil (hK12 _ ?_); clear hK12
                  refine good_condF rfl ?_
                  refine good_skip (hK11 _ ?_); clear hK11
                  refine good_region rfl ?_
                  refine ev_q rfl (q_move (by conv => lhs; whnf) ?_)
                  refine ev_q rfl (q_int rfl rfl ?_)
                  intro n29 hn29
                  replace hn29 := in64 hn29 (by omega) (by omega)
                  refine ev_q rfl (q_assign (by conv => lhs; whnf) ?_)
                  refine ev_nil ?_
                  clear hK2
                  refine ⟨i + 1, ?_, ?_, ?_⟩
                  · refine ⟨by omega, all_ext hJ hp ?_⟩
                    refine ⟨by omega, by omega, by intro hz; grind, fun z hz0 hz => ?_⟩
                    grind
                  · first | omega | (simp only []; omega) | (dsimp only; omega)
                  · refine sub_weak ?_ ?_
                    · exact weakH_none _
                    · refine weakE_upd ?e3 ?r3 (weakE_upd ?e0 ?r0 (weakE_junk _ _))
                      case e0 => first | rfl | exact fI (by omega) | (simp_all)
                      case r0 => intro h hh; cases hh
                      case e3 => first | rfl | exact fI (by omega) | (simp_all)
                      case r3 => intro h hh; cases hh
                · replace hb28 := dT hb28
                  refine qo_q rfl (q_pickT rfl (by conv => lhs; whnf) ?_)
                  refine qo_q rfl (q_pickF rfl (by conv => lhs; whnf) ?_)
                  refine qo_nil ?_
                  refine ev_nil (hK12 _ ?_); clear hK12
                  refine good_condT rfl ?_
                  refine good_seq fun K30 hK30 => ?_
                  refine good_region rfl ?_
                  refine ev_q rfl (q_assign (by conv => lhs; whnf) ?_)
                  refine ev_nil (hK30 _ ?_); clear hK30
                  refine good_ret ?_
                  repeat (first | refine thenQ_ret ?_ | refine blockQ_ret ?_)
                  refine ret_tmp (st := _) rfl (by conv => lhs; whnf) rfl ?_
                  clear hK2 hK11
                  first | exact fT ((wave_iff (all_fin hJ (by omega))).1 (by omega)) | exact fF (fun h => absurd ((wave_iff (all_fin hJ (by omega))).2 h) (by omega)) | exact fF (wave_no hp (by simp only [okAt]; grind))
            · replace hb24 := neT hb24
              refine qo_q rfl (q_pickT rfl (by conv => lhs; whnf) ?_)
              refine qo_q rfl (q_pickF rfl (by conv => lhs; whnf) ?_)
              refine qo_q rfl (q_move (by conv => lhs; whnf) ?_)
              refine qo_skip rfl ?_
              refine qo_skip rfl ?_
              refine qo_skip rfl ?_
              refine qo_skip rfl ?_
              refine qo_skip rfl ?_
              refine qo_skip rfl ?_
              refine qo_skip rfl ?_
              refine qo_skip rfl ?_
              refine qo_skip rfl ?_
              refine qo_skip rfl ?_
              refine qo_skip rfl ?_
              refine qo_skip rfl ?_
              refine qo_skip rfl ?_
              refine qo_skip rfl ?_
              refine qo_skip rfl ?_
              refine qo_skip rfl ?_
              refine qo_q rfl (q_pickT rfl (by conv => lhs; whnf) ?_)
              refine qo_nil ?_
              refine ev_nil (hK12 _ ?_); clear hK12
              refine good_condT rfl ?_
              refine good_seq fun K31 hK31 => ?_
              refine good_region rfl ?_
              refine ev_q rfl (q_assign (by conv => lhs; whnf) ?_)
              refine ev_nil (hK31 _ ?_); clear hK31
              refine good_ret ?_
              repeat (first | refine thenQ_ret ?_ | refine blockQ_ret ?_)
              refine ret_tmp (st := _) rfl (by conv => lhs; whnf) rfl ?_
              clear hK2 hK11
              first | exact fT ((wave_iff (all_fin hJ (by omega))).1 (by omega)) | exact fF (fun h => absurd ((wave_iff (all_fin hJ (by omega))).2 h) (by omega)) | exact fF (wave_no hp (by simp only [okAt]; grind))

-- impl.ValidWave
set_option maxRecDepth 20000 in
set_option maxHeartbeats 2000000 in
theorem D_impl_ValidWave (xs : List (Int × Int)) (hx : xs.length ≤ 8796093022208) : Den Tryz.prog 58 [.lst 2 (xs.map stp)] (.s (.bool (decide (waveOk xs)))) := by
  refine den_of_good Tryz.func58 (by decide) rfl (Nat.le_of_ble_eq_true rfl) (Nat.le_of_ble_eq_true rfl) ?_
  refine good_seq fun K1 hK1 => ?_
  refine good_region rfl ?_
  refine ev_q rfl (q_assign (by conv => lhs; whnf) ?_)
  refine ev_nil (hK1 _ ?_); clear hK1
  refine good_seq fun K2 hK2 => ?_
  refine good_seq fun K3 hK3 => ?_
  refine good_region rfl ?_
  refine ev_q rfl (q_move (by conv => lhs; whnf) ?_)
  refine ev_q rfl (q_len tEs44 rfl ?_)
  intro n4 hn4
  try simp only [List.length_map] at hn4
  refine ev_q rfl (q_int rfl rfl ?_)
  intro b5 hb5; cases b5
  · replace hb5 := dF hb5
    refine ev_q rfl (q_move (by conv => lhs; whnf) ?_)
    refine ev_q rfl (q_move (by conv => lhs; whnf) ?_)
    refine ev_q rfl (q_len tEs44 rfl ?_)
    intro n6 hn6
    try simp only [List.length_map] at hn6
    refine ev_q rfl (q_int rfl rfl ?_)
    intro b7 hb7; cases b7
    · replace hb7 := dF hb7
      refine ev_q rfl (q_pickF rfl (by conv => lhs; whnf) ?_)
      refine ev_q rfl (q_move (by conv => lhs; whnf) ?_)
      refine ev_q rfl (q_move (by conv => lhs; whnf) ?_)
      obtain ⟨p0, hp0⟩ := getL (xs := xs) (n := 0) (by omega) (by omega)
      refine ev_q rfl (q_idx tE44 rfl rfl (by decide) (by exact map_get hp0) rfl ?_)
      refine ev_q rfl (q_fieldAddr fO86_0 rfl rfl ?_)
      refine ev_q rfl (q_load tA2 rfl ?_)
      refine ev_q rfl (q_int rfl rfl ?_)
      intro b8 hb8; cases b8
      · replace hb8 := neF hb8
        refine ev_q rfl (q_pickF rfl (by conv => lhs; whnf) ?_)
        refine ev_nil (hK3 _ ?_); clear hK3
        refine good_condF rfl ?_
        refine good_skip (hK2 _ ?_); clear hK2
        refine good_seq fun K9 hK9 => ?_
        refine good_seq fun K10 hK10 => ?_
        refine good_region rfl ?_
        refine ev_q rfl (q_move (by conv => lhs; whnf) ?_)
        refine ev_q rfl (q_len tEs44 rfl ?_)
        intro n11 hn11
        try simp only [List.length_map] at hn11
        refine ev_q rfl (q_move (by conv => lhs; whnf) ?_)
        refine ev_nil (hK10 _ ?_); clear hK10
        refine good_block ?_
        refine good_loop (α := Nat) (fun i => { env := upd (upd (upd (upd ((fun _ => .junk)) 0 (.lst 2 (xs.map stp))) 20 (.lst 2 (xs.map stp))) 21 (.s (.int .i64 ((xs.length : Int))))) 22 (.s (.int .i64 i)), H := fun _ => none }) (fun i => i ≤ xs.length ∧ ∀ j p, j < i → xs[j]? = some p → okAt xs j p) (fun i => xs.length - i) 0 ?_ ?_ ?_
        · exact ⟨by omega, fun j u hj => by omega⟩
        · refine sub_weak ?_ ?_
          · exact weakH_none _
          · refine weakE_upd ?e22 ?r22 (weakE_upd ?e21 ?r21 (weakE_upd ?e20 ?r20 (weakE_upd ?e0 ?r0 (weakE_junk _ _))))
            case e0 => first | rfl | exact fI (by omega) | (simp_all)
            case r0 => intro h hh; cases hh
            case e20 => first | rfl | exact fI (by omega) | (simp_all)
            case r20 => intro h hh; cases hh
            case e21 => first | rfl | exact fI (by omega) | (simp_all)
            case r21 => intro h hh; cases hh
            case e22 => first | rfl | exact fI (by omega) | (simp_all)
            case r22 => intro h hh; cases hh
        · rintro i ⟨hI, hJ⟩
          refine good_seq fun K12 hK12 => ?_
          refine good_region rfl ?_
          refine ev_q rfl (q_int rfl rfl ?_)
          intro b13 hb13; cases b13
          · replace hb13 := dF hb13
            refine ev_nil (hK12 _ ?_); clear hK12
            refine good_seq fun K14 hK14 => ?_
            refine good_condF rfl ?_
            refine good_exit ?_
            repeat (first | refine thenQ_exit ?_ | refine blockQ_pass rfl ?_)
            refine blockQ_exit (hK9 _ ?_); clear hK9
            refine good_seq fun K15 hK15 => ?_
            refine good_region rfl ?_
            refine ev_q rfl (q_assign (by conv => lhs; whnf) ?_)
            refine ev_nil (hK15 _ ?_); clear hK15
            refine good_ret ?_
            repeat (first | refine thenQ_ret ?_ | refine blockQ_ret ?_)
            refine ret_tmp (st := _) rfl (by conv => lhs; whnf) rfl ?_
            clear hK14
            first | exact fT ((wave_iff (all_fin hJ (by omega))).1 (by omega)) | exact fF (fun h => by have := h.1; omega) | exact fF (wave_no hp (by simp only [okAt]; grind)) | exact fF (wave_no hp0 (by simp only [okAt]; grind))
          · replace hb13 := dT hb13
            obtain ⟨p, hp⟩ := getL (xs := xs) (n := (i : Int)) (by omega) (by omega)
            replace hp : xs[i]? = some p := hp
            refine ev_nil (hK12 _ ?_); clear hK12
            refine good_seq fun K16 hK16 => ?_
            refine good_condT rfl ?_
            refine good_skip (hK16 _ ?_); clear hK16
            refine good_seq fun K17 hK17 => ?_
            refine good_block ?_
            refine good_seq fun K18 hK18 => ?_
            refine good_region rfl ?_
            refine ev_q rfl (q_move (by conv => lhs; whnf) ?_)
            refine ev_q rfl (q_idx tE44 rfl rfl (by exact Int.natCast_nonneg _) (by exact map_get hp) rfl ?_)
            refine ev_q rfl (q_loadA tA86 rfl rfl rfl ?_)
            refine ev_k rfl (k_alloc zA86 rfl ?_)
            refine ev_q rfl (q_assign (by conv => lhs; whnf) ?_)
            refine ev_k rfl (k_store sz86 rfl (by conv => lhs; whnf) rfl rfl rfl (Nat.le_of_ble_eq_true rfl) rfl ?_)
            refine ev_nil (hK18 _ ?_); clear hK18
            refine good_seq fun K19 hK19 => ?_
            refine good_draw 25 hmix (by kernel_rfl) rfl ?_
            refine qo_q rfl (q_fieldAddrP fO86_0 rfl rfl ?_)
            refine qo_q rfl (q_load tA2 rfl ?_)
            refine qo_q rfl (q_callB rfl rfl (rfl) (D_impl_timeOk ..) ?_)
            intro b20 hb20; cases b20
            · first | replace hb20 := dF hb20 | skip
              refine qo_q rfl (q_not rfl rfl ?_)
              refine qo_q rfl (q_move (by conv => lhs; whnf) ?_)
              refine qo_skip rfl ?_
              refine qo_skip rfl ?_
              refine qo_skip rfl ?_
              refine qo_skip rfl ?_
              refine qo_q rfl (q_pickT rfl (by conv => lhs; whnf) ?_)
              refine qo_q rfl (q_move (by conv => lhs; whnf) ?_)
              refine qo_skip rfl ?_
              refine qo_skip rfl ?_
              refine qo_skip rfl ?_
              refine qo_skip rfl ?_
              refine qo_skip rfl ?_
              refine qo_skip rfl ?_
              refine qo_skip rfl ?_
              refine qo_skip rfl ?_
              refine qo_skip rfl ?_
              refine qo_skip rfl ?_
              refine qo_skip rfl ?_
              refine qo_skip rfl ?_
              refine qo_skip rfl ?_
              refine qo_q rfl (q_pickT rfl (by conv => lhs; whnf) ?_)
              refine qo_nil ?_
              refine ev_nil (hK19 _ ?_); clear hK19
              refine good_condT rfl ?_
              refine good_seq fun K21 hK21 => ?_
              refine good_region rfl ?_
              refine ev_q rfl (q_assign (by conv => lhs; whnf) ?_)
              refine ev_nil (hK21 _ ?_); clear hK21
              refine good_ret ?_
              repeat (first | refine thenQ_ret ?_ | refine blockQ_ret ?_)
              refine ret_tmp (st := _) rfl (by conv => lhs; whnf) rfl ?_
              clear hK9 hK17
              first | exact fT ((wave_iff (all_fin hJ (by omega))).1 (by omega)) | exact fF (fun h => by have := h.1; omega) | exact fF (wave_no hp (by simp only [okAt]; grind)) | exact fF (wave_no hp0 (by simp only [okAt]; grind))
            · first | replace hb20 := dT hb20 | skip
              refine qo_q rfl (q_not rfl rfl ?_)
              refine qo_q rfl (q_move (by conv => lhs; whnf) ?_)
              refine qo_q rfl (q_fieldAddrP fO86_1 rfl rfl ?_)
              refine qo_q rfl (q_load tA2 rfl ?_)
              refine qo_q rfl (q_callB rfl rfl (rfl) (D_impl_degreesOk ..) ?_)
              intro b22 hb22; cases b22
              · first | replace hb22 := dF hb22 | skip
                refine qo_q rfl (q_not rfl rfl ?_)
                refine qo_q rfl (q_pickF rfl (by conv => lhs; whnf) ?_)
                refine qo_q rfl (q_move (by conv => lhs; whnf) ?_)
                refine qo_skip rfl ?_
                refine qo_skip rfl ?_
                refine qo_skip rfl ?_
                refine qo_skip rfl ?_
                refine qo_skip rfl ?_
                refine qo_skip rfl ?_
                refine qo_skip rfl ?_
                refine qo_skip rfl ?_
                refine qo_skip rfl ?_
                refine qo_skip rfl ?_
                refine qo_skip rfl ?_
                refine qo_skip rfl ?_
                refine qo_skip rfl ?_
                refine qo_q rfl (q_pickT rfl (by conv => lhs; whnf) ?_)
                refine qo_nil ?_
                refine ev_nil (hK19 _ ?_); clear hK19
                refine good_condT rfl ?_
                refine good_seq fun K23 hK23 => ?_
                refine good_region rfl ?_
                refine ev_q rfl (q_assign (by conv => lhs; whnf) ?_)
                refine ev_nil (hK23 _ ?_); clear hK23
                refine good_ret ?_
                repeat (first | refine thenQ_ret ?_ | refine blockQ_ret ?_)
                refine ret_tmp (st := _) rfl (by conv => lhs; whnf) rfl ?_
                clear hK9 hK17
                first | exact fT ((wave_iff (all_fin hJ (by omega))).1 (by omega)) | exact fF (fun h => by have := h.1; omega) | exact fF (wave_no hp (by simp only [okAt]; grind)) | exact fF (wave_no hp0 (by simp only [okAt]; grind))
              · first | replace hb22 := dT hb22 | skip
                refine qo_q rfl (q_not rfl rfl ?_)
                refine qo_q rfl (q_pickF rfl (by conv => lhs; whnf) ?_)
                refine qo_q rfl (q_move (by conv => lhs; whnf) ?_)
                refine qo_q rfl (q_move (by conv => lhs; whnf) ?_)
                refine qo_q rfl (q_int rfl rfl ?_)
                intro b24 hb24; cases b24
                · replace hb24 := dF hb24
                  refine qo_q rfl (q_move (by conv => lhs; whnf) ?_)
                  refine qo_skip rfl ?_
                  refine qo_skip rfl ?_
                  refine qo_skip rfl ?_
                  refine qo_skip rfl ?_
                  refine qo_skip rfl ?_
                  refine qo_skip rfl ?_
                  refine qo_skip rfl ?_
                  refine qo_skip rfl ?_
                  refine qo_skip rfl ?_
                  refine qo_q rfl (q_pickF rfl (by conv => lhs; whnf) ?_)
                  refine qo_q rfl (q_pickF rfl (by conv => lhs; whnf) ?_)
                  refine qo_nil ?_
                  refine ev_nil (hK19 _ ?_); clear hK19
                  refine good_condF rfl ?_
                  refine good_skip (hK17 _ ?_); clear hK17
                  refine good_region rfl ?_
                  refine ev_q rfl (q_int rfl rfl ?_)
                  intro n25 hn25
                  replace hn25 := in64 hn25 (by omega) (by omega)
                  refine ev_q rfl (q_move (by conv => lhs; whnf) ?_)
                  refine ev_nil ?_
                  clear hK9
                  refine ⟨i + 1, ?_, ?_, ?_⟩
                  · refine ⟨by omega, all_ext hJ hp ?_⟩
                    refine ⟨by omega, by omega, by intro hz; subst hz; have e : some p = some p0 := hp.symm.trans hp0; cases e; omega, fun z hz0 hz => ?_⟩
                    grind
                  · first | omega | (simp only []; omega) | (dsimp only; omega)
                  · refine sub_weak ?_ ?_
                    · exact weakH_none _
                    · refine weakE_upd ?e22 ?r22 (weakE_upd ?e21 ?r21 (weakE_upd ?e20 ?r20 (weakE_upd ?e0 ?r0 (weakE_junk _ _))))
                      case e0 => first | rfl | exact fI (by omega) | (simp_all)
                      case r0 => intro h hh; cases hh
                      case e20 => first | rfl | exact fI (by omega) | (simp_all)
                      case r20 => intro h hh; cases hh
                      case e21 => first | rfl | exact fI (by omega) | (simp_all)
                      case r21 => intro h hh; cases hh
                      case e22 => first | rfl | exact fI (by omega) | (simp_all)
                      case r22 => intro h hh; cases hh
                · replace hb24 := dT hb24
                  refine qo_q rfl (q_move (by conv => lhs; whnf) ?_)
                  refine qo_q rfl (q_fieldAddrP fO86_0 rfl rfl ?_)
                  refine qo_q rfl (q_load tA2 rfl ?_)
                  refine qo_q rfl (q_move (by conv => lhs; whnf) ?_)
                  refine qo_q rfl (q_move (by conv => lhs; whnf) ?_)
                  refine qo_q rfl (q_int rfl rfl ?_)
                  intro n26 hn26
                  replace hn26 := in64 hn26 (by omega) (by omega)
                  obtain ⟨q, hq⟩ := getL (xs := xs) (n := n26) (by omega) (by omega)
                  refine qo_q rfl (q_idx tE44 rfl rfl (by omega) (by exact map_get hq) rfl ?_)
                  refine qo_q rfl (q_fieldAddr fO86_0 rfl rfl ?_)
                  refine qo_q rfl (q_load tA2 rfl ?_)
                  refine qo_q rfl (q_int rfl rfl ?_)
                  intro b27 hb27; cases b27
                  · replace hb27 := dF hb27
                    refine qo_q rfl (q_pickT rfl (by conv => lhs; whnf) ?_)
                    refine qo_q rfl (q_pickF rfl (by conv => lhs; whnf) ?_)
                    refine qo_nil ?_
                    refine ev_nil (hK19 _ ?_); clear hK19
                    refine good_condF rfl ?_
                    refine good_skip (hK17 _ ?_); clear hK17
                    refine good_region rfl ?_
                    refine ev_q rfl (q_int rfl rfl ?_)
                    intro n28 hn28
                    replace hn28 := in64 hn28 (by omega) (by omega)
                    refine ev_q rfl (q_move (by conv => lhs; whnf) ?_)
                    refine ev_nil ?_
                    clear hK9
                    refine ⟨i + 1, ?_, ?_, ?_⟩
                    · refine ⟨by omega, all_ext hJ hp ?_⟩
                      refine ⟨by omega, by omega, by intro hz; subst hz; have e : some p = some p0 := hp.symm.trans hp0; cases e; omega, fun z hz0 hz => ?_⟩
                      grind
                    · first | omega | (simp only []; omega) | (dsimp only; omega)
                    · refine sub_weak ?_ ?_
                      · exact weakH_none _
                      · refine weakE_upd ?e22 ?r22 (weakE_upd ?e21 ?r21 (weakE_upd ?e20 ?r20 (weakE_upd ?e0 ?r0 (weakE_junk _ _))))
                        case e0 => first | rfl | exact fI (by omega) | (simp_all)
                        case r0 => intro h hh; cases hh
                        case e20 => first | rfl | exact fI (by omega) | (simp_all)
                        case r20 => intro h hh; cases hh
                        case e21 => first | rfl | exact fI (by omega) | (simp_all)
                        case r21 => intro h hh; cases hh
                        case e22 => first | rfl | exact fI (by omega) | (simp_all)
                        case r22 => intro h hh; cases hh
                  · replace hb27 := dT hb27
                    refine qo_q rfl (q_pickT rfl (by conv => lhs; whnf) ?_)
                    refine qo_q rfl (q_pickF rfl (by conv => lhs; whnf) ?_)
                    refine qo_nil ?_
                    refine ev_nil (hK19 _ ?_); clear hK19
                    refine good_condT rfl ?_
                    refine good_seq fun K29 hK29 => ?_
                    refine good_region rfl ?_
                    refine ev_q rfl (q_assign (by conv => lhs; whnf) ?_)
                    refine ev_nil (hK29 _ ?_); clear hK29
                    refine good_ret ?_
                    repeat (first | refine thenQ_ret ?_ | refine blockQ_ret ?_)
                    refine ret_tmp (st := _) rfl (by conv => lhs; whnf) rfl ?_
                    clear hK9 hK17
                    first | exact fT ((wave_iff (all_fin hJ (by omega))).1 (by omega)) | exact fF (fun h => by have := h.1; omega) | exact fF (wave_no hp (by simp only [okAt]; grind)) | exact fF (wave_no hp0 (by simp only [okAt]; grind))
      · replace hb8 := neT hb8
        refine ev_q rfl (q_pickF rfl (by conv => lhs; whnf) ?_)
        refine ev_nil (hK3 _ ?_); clear hK3
        refine good_condT rfl ?_
        refine good_seq fun K30 hK30 => ?_
        refine good_region rfl ?_
        refine ev_q rfl (q_assign (by conv => lhs; whnf) ?_)
        refine ev_nil (hK30 _ ?_); clear hK30
        refine good_ret ?_
        repeat (first | refine thenQ_ret ?_ | refine blockQ_ret ?_)
        refine ret_tmp (st := _) rfl (by conv => lhs; whnf) rfl ?_
        clear hK2
        first | exact fT ((wave_iff (all_fin hJ (by omega))).1 (by omega)) | exact fF (fun h => by have := h.1; omega) | exact fF (wave_no hp (by simp only [okAt]; grind)) | exact fF (wave_no hp0 (by simp only [okAt]; grind))
    · replace hb7 := dT hb7
      refine ev_q rfl (q_pickF rfl (by conv => lhs; whnf) ?_)
      refine ev_q rfl (q_move (by conv => lhs; whnf) ?_)
      refine ev_skip rfl ?_
      refine ev_skip rfl ?_
      refine ev_skip rfl ?_
      refine ev_skip rfl ?_
      refine ev_skip rfl ?_
      refine ev_q rfl (q_pickT rfl (by conv => lhs; whnf) ?_)
      refine ev_nil (hK3 _ ?_); clear hK3
      refine good_condT rfl ?_
      refine good_seq fun K31 hK31 => ?_
      refine good_region rfl ?_
      refine ev_q rfl (q_assign (by conv => lhs; whnf) ?_)
      refine ev_nil (hK31 _ ?_); clear hK31
      refine good_ret ?_
      repeat (first | refine thenQ_ret ?_ | refine blockQ_ret ?_)
      refine ret_tmp (st := _) rfl (by conv => lhs; whnf) rfl ?_
      clear hK2
      first | exact fT ((wave_iff (all_fin hJ (by omega))).1 (by omega)) | exact fF (fun h => by have := h.1; omega) | exact fF (wave_no hp (by simp only [okAt]; grind)) | exact fF (wave_no hp0 (by simp only [okAt]; grind))
  · replace hb5 := dT hb5
    refine ev_q rfl (q_move (by conv => lhs; whnf) ?_)
    refine ev_skip rfl ?_
    refine ev_skip rfl ?_
    refine ev_skip rfl ?_
    refine ev_q rfl (q_pickT rfl (by conv => lhs; whnf) ?_)
    refine ev_q rfl (q_move (by conv => lhs; whnf) ?_)
    refine ev_skip rfl ?_
    refine ev_skip rfl ?_
    refine ev_skip rfl ?_
    refine ev_skip rfl ?_
    refine ev_skip rfl ?_
    refine ev_q rfl (q_pickT rfl (by conv => lhs; whnf) ?_)
    refine ev_nil (hK3 _ ?_); clear hK3
    refine good_condT rfl ?_
    refine good_seq fun K32 hK32 => ?_
    refine good_region rfl ?_
    refine ev_q rfl (q_assign (by conv => lhs; whnf) ?_)
    refine ev_nil (hK32 _ ?_); clear hK32
    refine good_ret ?_
    repeat (first | refine thenQ_ret ?_ | refine blockQ_ret ?_)
    refine ret_tmp (st := _) rfl (by conv => lhs; whnf) rfl ?_
    clear hK2
    first | exact fT ((wave_iff (all_fin hJ (by omega))).1 (by omega)) | exact fF (fun h => by have := h.1; omega) | exact fF (wave_no hp (by simp only [okAt]; grind)) | exact fF (wave_no hp0 (by simp only [okAt]; grind))

theorem D_parse (s : ByteArray) (v : Int) (hs : s.size ≤ 1048576) (hp : Lib.parseIntB 64 s.data.toList = .ok v) : Den Tryz.prog 97 [.s (.string s), .s (.int .i64 10), .s (.int .i64 64)] (.tup [.s (.int .i64 v), .s .nilIface]) :=
  den_parse (te := _) ⟨_, Tryz.func97, rfl, rfl⟩ s v (fun w => Tryz.strconv_ParseInt_10_at64_ok s (by omega) v hp w)
theorem D_parseN (s : ByteArray) (hs : s.size ≤ 1048576) (hno : ∀ v, Lib.parseIntB 64 s.data.toList ≠ .ok v) : DenR Tryz.prog 97 [.s (.string s), .s (.int .i64 10), .s (.int .i64 64)] (τ := Int × Nat) (fun _ => True) (fun x => .tup [.s (.int .i64 x.1), .s (.iface 140 (.pointer (some ⟨x.2, 0, none⟩)))]) :=
  denR_parse ⟨_, Tryz.func97, rfl, rfl⟩ s (by kernel_rfl) (by kernel_rfl) hno
    (fun h ev w hv hev => (Tryz.strconv_ParseInt_10_at64_syntax s (by omega) h ev w hv hev).mono fun e w' ⟨N, he, _, _, hb⟩ => ⟨_, N, he, hb⟩)
    (fun h ev w hv hev => (Tryz.strconv_ParseInt_10_at64_range s (by omega) h ev w hv hev).mono fun e w' ⟨N, he, _, _, hb⟩ => ⟨_, N, he, hb⟩)
theorem D_trim45 (s : ByteArray) : Den Tryz.prog 98 [.s (.string s), .s (.string ⟨#[45]⟩)] (.s (.string (tx (Lib.trimPrefix s.data.toList [45])))) :=
  den_trim ⟨_, Tryz.func98, rfl, rfl⟩ (fun s p w => Tryz.strings_TrimPrefix s p w) s ⟨#[45]⟩
theorem D_split (c : UInt8) (k : Nat) (s : ByteArray) (hs : s.size ≤ 1048576) (hk : 1 ≤ k) (hk2 : k ≤ 1000000) : Den Tryz.prog 64 [.s (.string s), .s (.string ⟨#[c]⟩), .s (.int .i64 (k : Int))] (.lst 1 ((splN c k s).map stA)) :=
  den_splitN (ty := _) ⟨_, Tryz.func64, rfl, rfl⟩ (by kernel_rfl) (fun s sep n m w h1 h2 h3 h4 h5 => Tryz.strings_SplitN s sep n m w h1 h2 h3 h4 h5) s ⟨#[c]⟩ k hs (by show 1 ≤ 1; decide) hk hk2

-- impl.ReadDecimal
set_option maxRecDepth 20000 in
set_option maxHeartbeats 2000000 in
theorem D_impl_ReadDecimal_ok (s : ByteArray) (v : Int) (hs : s.size ≤ 1048576) (hp : Lib.parseIntB 64 s.data.toList = .ok v) : Den Tryz.prog 66 [.s (.string s)] (.tup [.s (.int .i64 (rdN s)), .s (.bool (decide (rdB s)))]) := by
  have hv := parse_in hp
  refine den_of_good Tryz.func66 (by decide) rfl (Nat.le_of_ble_eq_true rfl) (Nat.le_of_ble_eq_true rfl) ?_
  refine good_seq fun K1 hK1 => ?_
  refine good_region rfl ?_
  refine ev_q rfl (q_assign (by conv => lhs; whnf) ?_)
  refine ev_q rfl (q_assign (by conv => lhs; whnf) ?_)
  refine ev_nil (hK1 _ ?_); clear hK1
  refine good_seq fun K2 hK2 => ?_
  refine good_region rfl ?_
  refine ev_q rfl (q_move (by conv => lhs; whnf) ?_)
  refine ev_q rfl (q_call rfl rfl (rfl) (D_parse s v hs hp) rfl ?_)
  refine ev_q rfl (q_move (by conv => lhs; whnf) ?_)
  refine ev_q rfl (q_extractI rfl rfl ?_)
  intro n3 hn3
  have h9 := hn3
  refine ev_q rfl (q_extract rfl rfl ?_)
  refine ev_q rfl (q_assign (by conv => lhs; whnf) ?_)
  refine ev_q rfl (q_assign (by conv => lhs; whnf) ?_)
  refine ev_nil (hK2 _ ?_); clear hK2
  refine good_seq fun K4 hK4 => ?_
  refine good_seq fun K5 hK5 => ?_
  refine good_region rfl ?_
  refine ev_q rfl (q_move (by conv => lhs; whnf) ?_)
  refine ev_q rfl (q_neN0 tIf109 rfl ?_)
  refine ev_q rfl (q_move (by conv => lhs; whnf) ?_)
  refine ev_q rfl (q_move (by conv => lhs; whnf) ?_)
  refine ev_q rfl (q_call rfl rfl (rfl) (D_trim45 s) rfl ?_)
  refine ev_q rfl (q_lenS tStr9 rfl ?_)
  intro n6 hn6
  refine ev_q rfl (q_int rfl rfl ?_)
  intro b7 hb7; cases b7
  · replace hb7 := dF hb7
    have h18 : (tx (Lib.trimPrefix s.data.toList [45])).size ≤ 18 := by omega
    refine ev_q rfl (q_pickF rfl (by conv => lhs; whnf) ?_)
    refine ev_q rfl (q_move (by conv => lhs; whnf) ?_)
    refine ev_q rfl (q_move (by conv => lhs; whnf) ?_)
    refine ev_q rfl (q_call rfl rfl (rfl) (D_impl_Decimal n3 (by rw [h9]; exact hv)) rfl ?_)
    refine ev_q rfl (q_move (by conv => lhs; whnf) ?_)
    refine ev_q rfl (q_str rfl rfl ?_)
    intro b8 hb8; cases b8
    · replace hb8 := snF hb8
      have hy := rd_c3 (s := s) (v := v) (by rw [← h9]; exact hb8) h18
      refine ev_q rfl (q_pickF rfl (by conv => lhs; whnf) ?_)
      refine ev_nil (hK5 _ ?_); clear hK5
      refine good_condF rfl ?_
      refine good_skip (hK4 _ ?_); clear hK4
      refine good_seq fun K9 hK9 => ?_
      refine good_region rfl ?_
      refine ev_q rfl (q_move (by conv => lhs; whnf) ?_)
      refine ev_q rfl (q_assign (by conv => lhs; whnf) ?_)
      refine ev_q rfl (q_assign (by conv => lhs; whnf) ?_)
      refine ev_nil (hK9 _ ?_); clear hK9
      refine good_ret ?_
      repeat (first | refine thenQ_ret ?_ | refine blockQ_ret ?_)
      refine ret_many rfl ?_
      refine res_tmp (by conv => lhs; whnf) rfl ?_
      refine res_tmp (by conv => lhs; whnf) rfl ?_
      refine res_nil ?_
      first | exact fTup1 (fI (rdN_no hc).symm) (fTup1 (fF hc) rfl) | exact fTup1 (fI (h9.trans hy.2.symm)) (fTup1 (fT hy.1) rfl)
    · replace hb8 := snT hb8
      have hc := rd_c2 hp (by rw [← h9]; exact hb8)
      refine ev_q rfl (q_pickF rfl (by conv => lhs; whnf) ?_)
      refine ev_nil (hK5 _ ?_); clear hK5
      refine good_condT rfl ?_
      refine good_seq fun K10 hK10 => ?_
      refine good_region rfl ?_
      refine ev_q rfl (q_assign (by conv => lhs; whnf) ?_)
      refine ev_q rfl (q_assign (by conv => lhs; whnf) ?_)
      refine ev_nil (hK10 _ ?_); clear hK10
      refine good_ret ?_
      repeat (first | refine thenQ_ret ?_ | refine blockQ_ret ?_)
      refine ret_many rfl ?_
      refine res_tmp (by conv => lhs; whnf) rfl ?_
      refine res_tmp (by conv => lhs; whnf) rfl ?_
      refine res_nil ?_
      clear hK4
      first | exact fTup1 (fI (rdN_no hc).symm) (fTup1 (fF hc) rfl) | exact fTup1 (fI (h9.trans hy.2.symm)) (fTup1 (fT hy.1) rfl)
  · replace hb7 := dT hb7
    have hc := rd_c1 hp (by omega)
    refine ev_q rfl (q_pickF rfl (by conv => lhs; whnf) ?_)
    refine ev_q rfl (q_move (by conv => lhs; whnf) ?_)
    refine ev_skip rfl ?_
    refine ev_skip rfl ?_
    refine ev_skip rfl ?_
    refine ev_skip rfl ?_
    refine ev_q rfl (q_pickT rfl (by conv => lhs; whnf) ?_)
    refine ev_nil (hK5 _ ?_); clear hK5
    refine good_condT rfl ?_
    refine good_seq fun K11 hK11 => ?_
    refine good_region rfl ?_
    refine ev_q rfl (q_assign (by conv => lhs; whnf) ?_)
    refine ev_q rfl (q_assign (by conv => lhs; whnf) ?_)
    refine ev_nil (hK11 _ ?_); clear hK11
    refine good_ret ?_
    repeat (first | refine thenQ_ret ?_ | refine blockQ_ret ?_)
    refine ret_many rfl ?_
    refine res_tmp (by conv => lhs; whnf) rfl ?_
    refine res_tmp (by conv => lhs; whnf) rfl ?_
    refine res_nil ?_
    clear hK4
    first | exact fTup1 (fI (rdN_no hc).symm) (fTup1 (fF hc) rfl) | exact fTup1 (fI (h9.trans hy.2.symm)) (fTup1 (fT hy.1) rfl)

-- impl.ReadDecimal
set_option maxRecDepth 20000 in
set_option maxHeartbeats 2000000 in
theorem D_impl_ReadDecimal_no (s : ByteArray) (hs : s.size ≤ 1048576) (hno : ∀ v, Lib.parseIntB 64 s.data.toList ≠ .ok v) : Den Tryz.prog 66 [.s (.string s)] (.tup [.s (.int .i64 (rdN s)), .s (.bool (decide (rdB s)))]) := by
  have hc := rd_c0 hno
  refine den_of_good Tryz.func66 (by decide) rfl (Nat.le_of_ble_eq_true rfl) (Nat.le_of_ble_eq_true rfl) ?_
  refine good_seq fun K1 hK1 => ?_
  refine good_region rfl ?_
  refine ev_q rfl (q_assign (by conv => lhs; whnf) ?_)
  refine ev_q rfl (q_assign (by conv => lhs; whnf) ?_)
  refine ev_nil (hK1 _ ?_); clear hK1
  refine good_seq fun K2 hK2 => ?_
  refine good_region rfl ?_
  refine ev_q rfl (q_move (by conv => lhs; whnf) ?_)
  refine ev_k rfl (k_callR [] (D_parseN s hs hno) rfl (rfl) (rfl) trivial rfl (by rintro ⟨n3, e3⟩ hx3_0; exact ⟨trivial, rfl⟩) rfl rfl ?_)
  rintro ⟨n3, e3⟩ hx3_0
  refine ev_q rfl (q_move (by conv => lhs; whnf) ?_)
  refine ev_q rfl (q_extractI rfl rfl ?_)
  intro n4 hn4
  refine ev_q rfl (q_extract rfl rfl ?_)
  refine ev_q rfl (q_assign (by conv => lhs; whnf) ?_)
  refine ev_q rfl (q_assign (by conv => lhs; whnf) ?_)
  refine ev_nil (hK2 _ ?_); clear hK2
  refine good_seq fun K5 hK5 => ?_
  refine good_seq fun K6 hK6 => ?_
  refine good_region rfl ?_
  refine ev_q rfl (q_move (by conv => lhs; whnf) ?_)
  refine ev_q rfl (q_neN tIf109 rfl ?_)
  refine ev_q rfl (q_move (by conv => lhs; whnf) ?_)
  refine ev_skip rfl ?_
  refine ev_skip rfl ?_
  refine ev_skip rfl ?_
  refine ev_skip rfl ?_
  refine ev_q rfl (q_pickT rfl (by conv => lhs; whnf) ?_)
  refine ev_q rfl (q_move (by conv => lhs; whnf) ?_)
  refine ev_skip rfl ?_
  refine ev_skip rfl ?_
  refine ev_skip rfl ?_
  refine ev_skip rfl ?_
  refine ev_q rfl (q_pickT rfl (by conv => lhs; whnf) ?_)
  refine ev_nil (hK6 _ ?_); clear hK6
  refine good_condT rfl ?_
  refine good_seq fun K7 hK7 => ?_
  refine good_region rfl ?_
  refine ev_q rfl (q_assign (by conv => lhs; whnf) ?_)
  refine ev_q rfl (q_assign (by conv => lhs; whnf) ?_)
  refine ev_nil (hK7 _ ?_); clear hK7
  refine good_ret ?_
  repeat (first | refine thenQ_ret ?_ | refine blockQ_ret ?_)
  refine ret_many rfl ?_
  refine res_tmp (by conv => lhs; whnf) rfl ?_
  refine res_tmp (by conv => lhs; whnf) rfl ?_
  refine res_nil ?_
  clear hK5
  exact fTup1 (fI (rdN_no hc).symm) (fTup1 (fF hc) rfl)

theorem D_impl_ReadDecimal (s : ByteArray) (hs : s.size ≤ 1048576) : Den Tryz.prog 66 [.s (.string s)] (.tup [.s (.int .i64 (rdN s)), .s (.bool (decide (rdB s)))]) := by
  cases hp : Lib.parseIntB 64 s.data.toList with
  | ok v => exact D_impl_ReadDecimal_ok s v hs hp
  | «syntax» => exact D_impl_ReadDecimal_no s hs (fun v h => by rw [hp] at h; cases h)
  | range => exact D_impl_ReadDecimal_no s hs (fun v h => by rw [hp] at h; cases h)

-- impl.ReadList
set_option maxRecDepth 20000 in
set_option maxHeartbeats 2000000 in
theorem D_impl_ReadList_X (s : ByteArray) (hs : s.size ≤ 1048576) : DenX Tryz.prog 81 [] [.s (.string s)] [(900003, .row 2 1 ((rlL s).map ci))] (.tup [.own 900003 (rlL s).length, .s (.bool (decide (rlB s)))]) := by
  have hsl := splN_le (c := 44) (k := 65) (s := s) (by omega)
  refine denX_of_good Tryz.func81 (by decide) rfl (Nat.le_of_ble_eq_true rfl) (Nat.le_of_ble_eq_true rfl) rfl ?_
  refine good_seq fun K1 hK1 => ?_
  refine good_region rfl ?_
  refine ev_q rfl (q_assign (by conv => lhs; whnf) ?_)
  refine ev_q rfl (q_assign (by conv => lhs; whnf) ?_)
  refine ev_nil (hK1 _ ?_); clear hK1
  refine good_seq fun K2 hK2 => ?_
  refine good_seq fun K3 hK3 => ?_
  refine good_region rfl ?_
  refine ev_q rfl (q_move (by conv => lhs; whnf) ?_)
  refine ev_q rfl (q_str rfl rfl ?_)
  intro b4 hb4; cases b4
  · replace hb4 := seF hb4
    have hnd : ¬ s = tx [45] := hb4
    refine ev_nil (hK3 _ ?_); clear hK3
    refine good_condF rfl ?_
    refine good_skip (hK2 _ ?_); clear hK2
    refine good_seq fun K5 hK5 => ?_
    refine good_region rfl ?_
    refine ev_q rfl (q_assign (by conv => lhs; whnf) ?_)
    refine ev_nil (hK5 _ ?_); clear hK5
    refine good_seq fun K6 hK6 => ?_
    refine good_seq fun K7 hK7 => ?_
    refine good_region rfl ?_
    refine ev_q rfl (q_move (by conv => lhs; whnf) ?_)
    refine ev_q rfl (q_call rfl rfl (rfl) (D_split 44 65 s hs (by decide) (by decide)) rfl ?_)
    refine ev_q rfl (q_len tEs80 rfl ?_)
    intro n8 hn8
    try simp only [List.length_map] at hn8
    refine ev_q rfl (q_move (by conv => lhs; whnf) ?_)
    refine ev_nil (hK7 _ ?_); clear hK7
    refine good_block ?_
    refine good_loop (α := Nat) (fun i => { env := upd (upd (upd (upd (upd ((fun _ => .junk)) 0 (.s (.string s))) 4 (.own 28 ((splN 44 65 s).take i).length)) 12 (.lst 1 ((splN 44 65 s).map stA))) 13 (.s (.int .i64 (((splN 44 65 s).length : Int))))) 14 (.s (.int .i64 ((i : Int)))), H := upd ((fun _ => none)) 28 (some (.row 2 1 ((((splN 44 65 s).take i).map rdN).map ci))) }) (fun i => i ≤ (splN 44 65 s).length ∧ ∀ j q, j < i → (splN 44 65 s)[j]? = some q → rdB q) (fun i => (splN 44 65 s).length - i) 0 ?_ ?_ ?_
    · exact ⟨Nat.zero_le _, fun j u hj => by omega⟩
    · refine Sub.trans (sub_nil 4 28 2 1 rfl rfl (by decide)) ?_
      refine sub_weak ?_ ?_
      · exact weakH_row (rowEq (rfl)) (weakH_none _)
      · refine weakE_upd ?e14 ?r14 (weakE_upd ?e13 ?r13 (weakE_upd ?e12 ?r12 (weakE_upd ?e4 ?r4 (weakE_upd ?e0 ?r0 (weakE_junk _ _)))))
        case e0 => first | rfl | exact fI (by omega) | (simp_all)
        case r0 => intro h hh; cases hh
        case e4 => first | rfl | exact fI (by omega) | (first | rfl | (rw [hst]; exact ownEq (by simp)))
        case r4 => intro h hh; simp [refs] at hh; subst hh; rfl
        case e12 => first | rfl | exact fI (by omega) | (simp_all)
        case r12 => intro h hh; cases hh
        case e13 => first | rfl | exact fI (by omega) | (simp_all)
        case r13 => intro h hh; cases hh
        case e14 => first | rfl | exact fI (by omega) | (simp_all)
        case r14 => intro h hh; cases hh
    · rintro i ⟨hI, hJ⟩
      refine good_seq fun K9 hK9 => ?_
      refine good_region rfl ?_
      refine ev_q rfl (q_int rfl rfl ?_)
      intro b10 hb10; cases b10
      · replace hb10 := dF hb10
        obtain rfl : i = (splN 44 65 s).length := by omega
        have hall : ∀ p ∈ (splN 44 65 s), rdB p := fun p hp => by obtain ⟨j, hj⟩ := List.getElem?_of_mem hp; exact hJ j p (List.getElem?_eq_some_iff.1 hj).1 hj
        refine ev_nil (hK9 _ ?_); clear hK9
        refine good_seq fun K11 hK11 => ?_
        refine good_condF rfl ?_
        refine good_exit ?_
        repeat (first | refine thenQ_exit ?_ | refine blockQ_pass rfl ?_)
        refine blockQ_exit (hK6 _ ?_); clear hK6
        refine good_seq fun K12 hK12 => ?_
        refine good_seq fun K13 hK13 => ?_
        refine good_region rfl ?_
        refine ev_q rfl (q_move (by conv => lhs; whnf) ?_)
        refine ev_q rfl (q_call rfl rfl (by change ([.lst 1 (List.take (List.take (splN 44 65 s).length (splN 44 65 s)).length (((List.take (splN 44 65 s).length (splN 44 65 s)).map rdN).map ci))] : List AV) = _; simp only [List.take_length]; rw [List.take_of_length_le (by simp)]) (D_impl_ListText ((splN 44 65 s).map rdN) (by rw [List.length_map]; omega)) rfl ?_)
        refine ev_q rfl (q_move (by conv => lhs; whnf) ?_)
        refine ev_q rfl (q_str rfl rfl ?_)
        intro b14 hb14; cases b14
        · replace hb14 := snF hb14
          have hee := rl_y2 hnd ((rlP_iff hall).2 hb14)
          refine ev_nil (hK13 _ ?_); clear hK13
          refine good_condF rfl ?_
          refine good_skip (hK12 _ ?_); clear hK12
          refine good_seq fun K15 hK15 => ?_
          refine good_region rfl ?_
          refine ev_q rfl (q_move (by conv => lhs; whnf) ?_)
          refine ev_q rfl (q_assign (by conv => lhs; whnf) ?_)
          refine ev_q rfl (q_assign (by conv => lhs; whnf) ?_)
          refine ev_nil (hK15 _ ?_); clear hK15
          refine good_weak (sub_move 2 28 900003 rfl rfl rfl (by decide)) ?_
          refine good_ret ?_
          repeat (first | refine thenQ_ret ?_ | refine blockQ_ret ?_)
          refine fx_many rfl ?_
          refine fxs_tmp (by conv => lhs; whnf) ?_
          refine fxs_tmp (by conv => lhs; whnf) ?_
          refine fx_nil ?_
          clear hK11
          obtain ⟨e2, e⟩ := hee
          try rw [List.take_length]
          exact ⟨_, .tup (.cons (conv_eq (by first | rfl | (rw [e]; done) | (rw [e]; rfl) | exact ownEq (by first | omega | simp_all))) (.cons (conv_eq (by first | rfl | exact fT (by first | exact e2 | assumption) | exact fF (by first | exact e2 | assumption) | exact fT' (by first | exact e2 | assumption) | (exfalso; first | omega | grind))) (.nil))), weakH_row (rowEq (by first | (rw [e]; done) | (rw [e]; rfl))) (weakH_none _), refsIn_ok rfl⟩
        · replace hb14 := snT hb14
          have hee := rl_n hnd (fun h => hb14 ((rlP_iff hall).1 h))
          refine ev_nil (hK13 _ ?_); clear hK13
          refine good_condT rfl ?_
          refine good_seq fun K16 hK16 => ?_
          refine good_region rfl ?_
          refine ev_q rfl (q_assign (by conv => lhs; whnf) ?_)
          refine ev_q rfl (q_assign (by conv => lhs; whnf) ?_)
          refine ev_nil (hK16 _ ?_); clear hK16
          refine good_ret ?_
          repeat (first | refine thenQ_ret ?_ | refine blockQ_ret ?_)
          refine fx_many rfl ?_
          refine fxs_tmp (by conv => lhs; whnf) ?_
          refine fxs_tmp (by conv => lhs; whnf) ?_
          refine fx_nil ?_
          clear hK11 hK12
          obtain ⟨e2, e⟩ := hee
          try rw [List.take_length]
          exact ⟨_, .tup (.cons (conv_nil rfl (by decide) (by rw [e]; rfl)) (.cons (conv_eq (by first | rfl | exact fT (by first | exact e2 | assumption) | exact fF (by first | exact e2 | assumption) | exact fT' (by first | exact e2 | assumption) | (exfalso; first | omega | grind))) (.nil))), weakH_row (rowEq (by first | (rw [e]; done) | (rw [e]; rfl))) (weakH_none _), refsIn_ok rfl⟩
      · replace hb10 := dT hb10
        obtain ⟨q, hq⟩ := getL (xs := (splN 44 65 s)) (n := (i : Int)) (by omega) (by omega)
        replace hq : (splN 44 65 s)[i]? = some q := hq
        have hst := takeS hq
        refine ev_nil (hK9 _ ?_); clear hK9
        refine good_seq fun K17 hK17 => ?_
        refine good_condT rfl ?_
        refine good_skip (hK17 _ ?_); clear hK17
        refine good_seq fun K18 hK18 => ?_
        refine good_block ?_
        refine good_seq fun K19 hK19 => ?_
        refine good_region rfl ?_
        refine ev_q rfl (q_idx tE80 rfl rfl (by exact Int.natCast_nonneg _) (by exact map_get hq) rfl ?_)
        refine ev_q rfl (q_load tA9 rfl ?_)
        refine ev_q rfl (q_assign (by conv => lhs; whnf) ?_)
        refine ev_nil (hK19 _ ?_); clear hK19
        refine good_seq fun K20 hK20 => ?_
        refine good_region rfl ?_
        refine ev_q rfl (q_move (by conv => lhs; whnf) ?_)
        refine ev_q rfl (q_call rfl rfl (rfl) (D_impl_ReadDecimal q (by have := splN_sz (List.mem_of_getElem? hq); omega)) rfl ?_)
        refine ev_q rfl (q_move (by conv => lhs; whnf) ?_)
        refine ev_q rfl (q_extractI rfl rfl ?_)
        intro n21 hn21
        have h21 := hn21
        refine ev_q rfl (q_extractB rfl rfl ?_)
        intro b22 hb22; cases b22
        · first | replace hb22 := dF hb22 | skip
          have hee := rl_n hnd (rlP_no1 (List.mem_of_getElem? hq) hb22)
          refine ev_q rfl (q_assign (by conv => lhs; whnf) ?_)
          refine ev_q rfl (q_assign (by conv => lhs; whnf) ?_)
          refine ev_nil (hK20 _ ?_); clear hK20
          refine good_seq fun K23 hK23 => ?_
          refine good_seq fun K24 hK24 => ?_
          refine good_region rfl ?_
          refine ev_q rfl (q_move (by conv => lhs; whnf) ?_)
          refine ev_q rfl (q_not rfl rfl ?_)
          refine ev_nil (hK24 _ ?_); clear hK24
          refine good_condT rfl ?_
          refine good_seq fun K25 hK25 => ?_
          refine good_region rfl ?_
          refine ev_q rfl (q_assign (by conv => lhs; whnf) ?_)
          refine ev_q rfl (q_assign (by conv => lhs; whnf) ?_)
          refine ev_nil (hK25 _ ?_); clear hK25
          refine good_ret ?_
          repeat (first | refine thenQ_ret ?_ | refine blockQ_ret ?_)
          refine fx_many rfl ?_
          refine fxs_tmp (by conv => lhs; whnf) ?_
          refine fxs_tmp (by conv => lhs; whnf) ?_
          refine fx_nil ?_
          clear hK6 hK18 hK23
          obtain ⟨e2, e⟩ := hee
          try rw [List.take_length]
          exact ⟨_, .tup (.cons (conv_nil rfl (by decide) (by rw [e]; rfl)) (.cons (conv_eq (by first | rfl | exact fT (by first | exact e2 | assumption) | exact fF (by first | exact e2 | assumption) | exact fT' (by first | exact e2 | assumption) | (exfalso; first | omega | grind))) (.nil))), weakH_row (rowEq (by first | (rw [e]; done) | (rw [e]; rfl))) (weakH_none _), refsIn_ok rfl⟩
        · first | replace hb22 := dT hb22 | skip
          have hqb : rdB q := hb22
          refine ev_q rfl (q_assign (by conv => lhs; whnf) ?_)
          refine ev_q rfl (q_assign (by conv => lhs; whnf) ?_)
          refine ev_nil (hK20 _ ?_); clear hK20
          refine good_seq fun K26 hK26 => ?_
          refine good_seq fun K27 hK27 => ?_
          refine good_region rfl ?_
          refine ev_q rfl (q_move (by conv => lhs; whnf) ?_)
          refine ev_q rfl (q_not rfl rfl ?_)
          refine ev_nil (hK27 _ ?_); clear hK27
          refine good_condF rfl ?_
          refine good_skip (hK26 _ ?_); clear hK26
          refine good_region rfl ?_
          refine ev_q rfl (q_move (by conv => lhs; whnf) ?_)
          refine ev_q rfl (q_move (by conv => lhs; whnf) ?_)
          refine ev_k rfl (k_lit tE36 zA2 rfl rfl (by decide) (by decide) rfl rfl rfl ?_)
          refine ev_k rfl (k_app tApp36 rfl rfl (by simp) rfl (.inr rfl) (by first | (simp [maxLen]; done) | (simp [maxLen]; omega)) (by first | (simp; done) | (simp; omega)) ?_)
          refine ev_q rfl (q_assign (by conv => lhs; whnf) ?_)
          refine ev_nil (hK18 _ ?_); clear hK18
          refine good_region rfl ?_
          refine ev_q rfl (q_int rfl rfl ?_)
          intro n28 hn28
          replace hn28 := in64 hn28 (by omega) (by omega)
          refine ev_q rfl (q_move (by conv => lhs; whnf) ?_)
          refine ev_nil ?_
          clear hK6
          refine ⟨i + 1, ?_, ?_, ?_⟩
          · exact ⟨by omega, all_extI (Q := fun _ (q : ByteArray) => rdB q) hJ hq hqb⟩
          · first | omega | (simp only []; omega) | (dsimp only; omega)
          · refine sub_weak ?_ ?_
            · exact weakH_row (rowEq (appG (p := rdN q) (by rw [hst, List.map_append]; rfl) (fI h21))) (weakH_none _)
            · refine weakE_upd ?e14 ?r14 (weakE_upd ?e13 ?r13 (weakE_upd ?e12 ?r12 (weakE_upd ?e4 ?r4 (weakE_upd ?e0 ?r0 (weakE_junk _ _)))))
              case e0 => first | rfl | exact fI (by omega) | (simp_all)
              case r0 => intro h hh; cases hh
              case e4 => first | rfl | exact fI (by omega) | (first | rfl | (rw [hst]; exact ownEq (by simp)))
              case r4 => intro h hh; simp [refs] at hh; subst hh; rfl
              case e12 => first | rfl | exact fI (by omega) | (simp_all)
              case r12 => intro h hh; cases hh
              case e13 => first | rfl | exact fI (by omega) | (simp_all)
              case r13 => intro h hh; cases hh
              case e14 => first | rfl | exact fI (by omega) | (simp_all)
              case r14 => intro h hh; cases hh
  · replace hb4 := seT hb4
    have hee := rl_d hb4
    refine ev_nil (hK3 _ ?_); clear hK3
    refine good_condT rfl ?_
    refine good_seq fun K29 hK29 => ?_
    refine good_region rfl ?_
    refine ev_q rfl (q_assign (by conv => lhs; whnf) ?_)
    refine ev_q rfl (q_assign (by conv => lhs; whnf) ?_)
    refine ev_nil (hK29 _ ?_); clear hK29
    refine good_ret ?_
    repeat (first | refine thenQ_ret ?_ | refine blockQ_ret ?_)
    refine fx_many rfl ?_
    refine fxs_tmp (by conv => lhs; whnf) ?_
    refine fxs_tmp (by conv => lhs; whnf) ?_
    refine fx_nil ?_
    clear hK2
    obtain ⟨e2, e⟩ := hee
    try rw [List.take_length]
    exact ⟨_, .tup (.cons (conv_nil rfl (by decide) (by rw [e]; rfl)) (.cons (conv_eq (by first | rfl | exact fT (by first | exact e2 | assumption) | exact fF (by first | exact e2 | assumption) | exact fT' (by first | exact e2 | assumption) | (exfalso; first | omega | grind))) (.nil))), weakH_row (rowEq (by first | (rw [e]; done) | (rw [e]; rfl))) (weakH_none _), refsIn_ok rfl⟩
theorem D_impl_ReadList (s : ByteArray) (hs : s.size ≤ 1048576) : Den Tryz.prog 81 [.s (.string s)] (.tup [.lst 1 ((rlL s).map ci), .s (.bool (decide (rlB s)))]) :=
  den_of_denX (D_impl_ReadList_X s hs) (by change (some (.tup [.lst 1 (List.take (rlL s).length ((rlL s).map ci)), .s (.bool (decide (rlB s)))]) : Option AV) = some (.tup [.lst 1 ((rlL s).map ci), .s (.bool (decide (rlB s)))]); simp only [takeMap])

theorem D_joinW (xs : List (Int × Int)) (ok : waveOk xs) : Den Tryz.prog 68 [.lst 1 (xs.map wAV), .s (.string ⟨#[32]⟩)] (.s (.string (tx (wtx xs)))) := by
  have e : (xs.map fun p => tx (stT p)).map stA = xs.map wAV := by rw [List.map_map]; rfl
  have e2 : (xs.map fun p => tx (stT p)).map (fun b : ByteArray => b.data.toList) = xs.map stT := by rw [List.map_map]; exact List.map_congr_left fun n _ => by simp [tx_data]
  have hlen := wtx_len ok (i := xs.length) (Nat.le_refl _)
  rw [List.take_length] at hlen
  have hn := ok.1.2
  have h := den_join ⟨_, Tryz.func68, rfl, rfl⟩ Tryz.strings_Join_none Tryz.strings_Join (xs.map fun p => tx (stT p)) ⟨#[32]⟩ (by rw [List.length_map]; omega) (by rw [e2]; show (Lib.join (xs.map stT) [32]).length ≤ _; omega)
  rw [e, e2] at h
  exact h

-- impl.WaveText
set_option maxRecDepth 20000 in
set_option maxHeartbeats 2000000 in
theorem D_impl_WaveText (xs : List (Int × Int)) (hx : xs.length ≤ 8796093022208) : Den Tryz.prog 26 [.lst 2 (xs.map stp)] (.s (.string (wvT xs))) := by
  refine den_of_good Tryz.func26 (by decide) rfl (Nat.le_of_ble_eq_true rfl) (Nat.le_of_ble_eq_true rfl) ?_
  refine good_seq fun K1 hK1 => ?_
  refine good_region rfl ?_
  refine ev_q rfl (q_assign (by conv => lhs; whnf) ?_)
  refine ev_nil (hK1 _ ?_); clear hK1
  refine good_seq fun K2 hK2 => ?_
  refine good_seq fun K3 hK3 => ?_
  refine good_region rfl ?_
  refine ev_q rfl (q_move (by conv => lhs; whnf) ?_)
  refine ev_q rfl (q_callB rfl rfl (rfl) (D_impl_ValidWave _ (by omega)) ?_)
  intro b4 hb4; cases b4
  · first | replace hb4 := dF hb4 | skip
    refine ev_q rfl (q_not rfl rfl ?_)
    refine ev_nil (hK3 _ ?_); clear hK3
    refine good_condT rfl ?_
    refine good_seq fun K5 hK5 => ?_
    refine good_region rfl ?_
    refine ev_q rfl (q_assign (by conv => lhs; whnf) ?_)
    refine ev_nil (hK5 _ ?_); clear hK5
    refine good_ret ?_
    repeat (first | refine thenQ_ret ?_ | refine blockQ_ret ?_)
    refine ret_tmp (st := _) rfl (by conv => lhs; whnf) rfl ?_
    clear hK2
    first | exact fS (wvT_no (by assumption)).symm | exact fS (wvT_ok ok).symm
  · first | replace hb4 := dT hb4 | skip
    have ok : waveOk xs := hb4
    have hn24 := ok.1.2
    refine ev_q rfl (q_not rfl rfl ?_)
    refine ev_nil (hK3 _ ?_); clear hK3
    refine good_condF rfl ?_
    refine good_skip (hK2 _ ?_); clear hK2
    refine good_seq fun K6 hK6 => ?_
    refine good_region rfl ?_
    refine ev_q rfl (q_assign (by conv => lhs; whnf) ?_)
    refine ev_nil (hK6 _ ?_); clear hK6
    refine good_seq fun K7 hK7 => ?_
    refine good_seq fun K8 hK8 => ?_
    refine good_region rfl ?_
    refine ev_q rfl (q_move (by conv => lhs; whnf) ?_)
    refine ev_q rfl (q_len tEs44 rfl ?_)
    intro n9 hn9
    try simp only [List.length_map] at hn9
    refine ev_q rfl (q_move (by conv => lhs; whnf) ?_)
    refine ev_nil (hK8 _ ?_); clear hK8
    refine good_block ?_
    refine good_loop (α := Nat) (fun i => { env := upd (upd (upd (upd ((fun _ => .junk)) 3 (.own 25 (xs.take i).length)) 9 (.lst 2 (xs.map stp))) 10 (.s (.int .i64 ((xs.length : Int))))) 11 (.s (.int .i64 i)), H := upd ((fun _ => none)) 25 (some (.row 9 1 ((xs.take i).map wAV))) }) (fun i => i ≤ xs.length) (fun i => xs.length - i) 0 ?_ ?_ ?_
    · show 0 ≤ _; omega
    · refine Sub.trans (sub_nil 3 25 9 1 rfl rfl (by decide)) ?_
      refine sub_weak ?_ ?_
      · exact weakH_row (rowEq (rfl)) (weakH_none _)
      · refine weakE_upd ?e11 ?r11 (weakE_upd ?e10 ?r10 (weakE_upd ?e9 ?r9 (weakE_upd ?e3 ?r3 (weakE_junk _ _))))
        case e3 => first | rfl | exact fI (by omega) | (first | rfl | (rw [hst]; exact ownEq (by simp)))
        case r3 => intro h hh; simp [refs] at hh; subst hh; rfl
        case e9 => first | rfl | exact fI (by omega) | (simp_all)
        case r9 => intro h hh; cases hh
        case e10 => first | rfl | exact fI (by omega) | (simp_all)
        case r10 => intro h hh; cases hh
        case e11 => first | rfl | exact fI (by omega) | (simp_all)
        case r11 => intro h hh; cases hh
    · rintro i hI
      refine good_seq fun K10 hK10 => ?_
      refine good_region rfl ?_
      refine ev_q rfl (q_int rfl rfl ?_)
      intro b11 hb11; cases b11
      · replace hb11 := dF hb11
        obtain rfl : i = xs.length := by omega
        refine ev_nil (hK10 _ ?_); clear hK10
        refine good_seq fun K12 hK12 => ?_
        refine good_condF rfl ?_
        refine good_exit ?_
        repeat (first | refine thenQ_exit ?_ | refine blockQ_pass rfl ?_)
        refine blockQ_exit (hK7 _ ?_); clear hK7
        refine good_seq fun K13 hK13 => ?_
        refine good_region rfl ?_
        refine ev_q rfl (q_move (by conv => lhs; whnf) ?_)
        refine ev_q rfl (q_call rfl rfl (by change ([.lst 1 (List.take (List.take xs.length xs).length ((List.take xs.length xs).map wAV)), .s (.string ⟨#[32]⟩)] : List AV) = _; simp only [takeMap, List.take_length]) (D_joinW xs ok) rfl ?_)
        refine ev_q rfl (q_assign (by conv => lhs; whnf) ?_)
        refine ev_nil (hK13 _ ?_); clear hK13
        refine good_ret ?_
        repeat (first | refine thenQ_ret ?_ | refine blockQ_ret ?_)
        refine ret_tmp (st := _) rfl (by conv => lhs; whnf) rfl ?_
        clear hK12
        first | exact fS (wvT_no (by assumption)).symm | exact fS (wvT_ok ok).symm
      · replace hb11 := dT hb11
        obtain ⟨p, hp⟩ := getL (xs := xs) (n := (i : Int)) (by omega) (by omega)
        replace hp : xs[i]? = some p := hp
        have hst := takeS hp
        have hpi := wv_in ok hp
        have hd1 := dec_size hpi.1.1 hpi.1.2
        have hd2 := dec_size hpi.2.1 hpi.2.2
        refine ev_nil (hK10 _ ?_); clear hK10
        refine good_seq fun K14 hK14 => ?_
        refine good_condT rfl ?_
        refine good_skip (hK14 _ ?_); clear hK14
        refine good_seq fun K15 hK15 => ?_
        refine good_block ?_
        refine good_seq fun K16 hK16 => ?_
        refine good_region rfl ?_
        refine ev_q rfl (q_idx tE44 rfl rfl (by exact Int.natCast_nonneg _) (by exact map_get hp) rfl ?_)
        refine ev_q rfl (q_loadA tA86 rfl rfl rfl ?_)
        refine ev_k rfl (k_alloc zA86 rfl ?_)
        refine ev_k rfl (k_store sz86 rfl (by conv => lhs; whnf) rfl rfl rfl (Nat.le_of_ble_eq_true rfl) rfl ?_)
        refine ev_nil (hK16 _ ?_); clear hK16
        refine good_any 12 (listed := #[false, false, false, false, false, false, false, false, false, false, false, false]) rfl rfl hmix rfl ?_
        refine tn_first_q (i := 0) (listed' := #[true, false, false, false, false, false, false, false, false, false, false, false]) rfl rfl (by kernel_rfl) rfl (q_move (by conv => lhs; whnf) ?_)
        refine tn_first_q (i := 1) (listed' := #[true, true, false, false, false, false, false, false, false, false, false, false]) rfl rfl (by kernel_rfl) rfl (q_fieldAddrP fO86_0 rfl rfl ?_)
        refine tn_first_q (i := 2) (listed' := #[true, true, true, false, false, false, false, false, false, false, false, false]) rfl rfl (by kernel_rfl) rfl (q_load tA2 rfl ?_)
        refine tn_first_q (i := 5) (listed' := #[true, true, true, false, false, true, false, false, false, false, false, false]) rfl rfl (by kernel_rfl) rfl (q_fieldAddrP fO86_1 rfl rfl ?_)
        refine tn_step [3, 6] (by kernel_rfl) rfl ?_
        refine ⟨?_, ?_, trivial⟩
        · refine tn_q (listed' := #[true, true, true, true, false, true, false, false, false, false, false, false]) rfl rfl rfl (q_call rfl rfl (rfl) (D_impl_Decimal _ hpi.1) rfl ?_)
          refine tn_first_q (i := 4) (listed' := #[true, true, true, true, true, true, false, false, false, false, false, false]) rfl rfl (by kernel_rfl) rfl (q_str rfl rfl ⟨by rw [l1_size]; omega, ?_⟩)
          intro s17 hs17
          have h19 := hs17
          have hz19 := sz_app hs17
          rw [l1_size] at hz19
          refine tn_first_q (i := 6) (listed' := #[true, true, true, true, true, true, true, false, false, false, false, false]) rfl rfl (by kernel_rfl) rfl (q_load tA2 rfl ?_)
          refine tn_step [7] (by kernel_rfl) rfl ?_
          refine ⟨?_, trivial⟩
          · refine tn_q (listed' := #[true, true, true, true, true, true, true, true, false, false, false, false]) rfl rfl rfl (q_call rfl rfl (rfl) (D_impl_Decimal _ hpi.2) rfl ?_)
            refine tn_first_q (i := 8) (listed' := #[true, true, true, true, true, true, true, true, true, false, false, false]) rfl rfl (by kernel_rfl) rfl (q_str rfl rfl ⟨by omega, ?_⟩)
            intro s18 hs18
            have h23 := stT_eq h19 hs18
            refine tn_step [9] (by kernel_rfl) rfl ?_
            refine ⟨?_, trivial⟩
            · refine tn_k (listed' := #[true, true, true, true, true, true, true, true, true, true, false, false]) rfl rfl rfl rfl (k_lit tE80 zA9 rfl rfl (by decide) (by decide) rfl rfl rfl ?_)
              refine tn_step [10] (by kernel_rfl) rfl ?_
              refine ⟨?_, trivial⟩
              · refine tn_k (listed' := #[true, true, true, true, true, true, true, true, true, true, true, false]) rfl rfl rfl rfl (k_app tApp80 rfl rfl (by simp) rfl (.inr rfl) (by simp [maxLen]; omega) (by simp; omega) ?_)
                refine tn_first_q (i := 11) (listed' := #[true, true, true, true, true, true, true, true, true, true, true, true]) rfl rfl (by kernel_rfl) rfl (q_assign (by conv => lhs; whnf) ?_)
                refine tn_end (by kernel_rfl) (hK15 _ ?_); clear hK15
                refine good_region rfl ?_
                refine ev_q rfl (q_int rfl rfl ?_)
                intro n19 hn19
                replace hn19 := in64 hn19 (by omega) (by omega)
                refine ev_q rfl (q_move (by conv => lhs; whnf) ?_)
                refine ev_nil ?_
                clear hK7
                refine ⟨i + 1, ?_, ?_, ?_⟩
                · show _ ≤ _; omega
                · first | omega | (simp only []; omega) | (dsimp only; omega)
                · refine sub_weak ?_ ?_
                  · exact weakH_row (rowEq (appG hst (fS h23))) (weakH_none _)
                  · refine weakE_upd ?e11 ?r11 (weakE_upd ?e10 ?r10 (weakE_upd ?e9 ?r9 (weakE_upd ?e3 ?r3 (weakE_junk _ _))))
                    case e3 => first | rfl | exact fI (by omega) | (first | rfl | (rw [hst]; exact ownEq (by simp)))
                    case r3 => intro h hh; simp [refs] at hh; subst hh; rfl
                    case e9 => first | rfl | exact fI (by omega) | (simp_all)
                    case r9 => intro h hh; cases hh
                    case e10 => first | rfl | exact fI (by omega) | (simp_all)
                    case r10 => intro h hh; cases hh
                    case e11 => first | rfl | exact fI (by omega) | (simp_all)
                    case r11 => intro h hh; cases hh
        · refine tn_q (listed' := #[true, true, true, false, false, true, true, false, false, false, false, false]) rfl rfl rfl (q_load tA2 rfl ?_)
          refine tn_step [3] (by kernel_rfl) rfl ?_
          refine ⟨?_, trivial⟩
          · refine tn_q (listed' := #[true, true, true, true, false, true, true, false, false, false, false, false]) rfl rfl rfl (q_call rfl rfl (rfl) (D_impl_Decimal _ hpi.1) rfl ?_)
            refine tn_first_q (i := 4) (listed' := #[true, true, true, true, true, true, true, false, false, false, false, false]) rfl rfl (by kernel_rfl) rfl (q_str rfl rfl ⟨by rw [l1_size]; omega, ?_⟩)
            intro s20 hs20
            have h19 := hs20
            have hz19 := sz_app hs20
            rw [l1_size] at hz19
            refine tn_step [7] (by kernel_rfl) rfl ?_
            refine ⟨?_, trivial⟩
            · refine tn_q (listed' := #[true, true, true, true, true, true, true, true, false, false, false, false]) rfl rfl rfl (q_call rfl rfl (rfl) (D_impl_Decimal _ hpi.2) rfl ?_)
              refine tn_first_q (i := 8) (listed' := #[true, true, true, true, true, true, true, true, true, false, false, false]) rfl rfl (by kernel_rfl) rfl (q_str rfl rfl ⟨by omega, ?_⟩)
              intro s21 hs21
              have h23 := stT_eq h19 hs21
              refine tn_step [9] (by kernel_rfl) rfl ?_
              refine ⟨?_, trivial⟩
              · refine tn_k (listed' := #[true, true, true, true, true, true, true, true, true, true, false, false]) rfl rfl rfl rfl (k_lit tE80 zA9 rfl rfl (by decide) (by decide) rfl rfl rfl ?_)
                refine tn_step [10] (by kernel_rfl) rfl ?_
                refine ⟨?_, trivial⟩
                · refine tn_k (listed' := #[true, true, true, true, true, true, true, true, true, true, true, false]) rfl rfl rfl rfl (k_app tApp80 rfl rfl (by simp) rfl (.inr rfl) (by simp [maxLen]; omega) (by simp; omega) ?_)
                  refine tn_first_q (i := 11) (listed' := #[true, true, true, true, true, true, true, true, true, true, true, true]) rfl rfl (by kernel_rfl) rfl (q_assign (by conv => lhs; whnf) ?_)
                  refine tn_end (by kernel_rfl) (hK15 _ ?_); clear hK15
                  refine good_region rfl ?_
                  refine ev_q rfl (q_int rfl rfl ?_)
                  intro n22 hn22
                  replace hn22 := in64 hn22 (by omega) (by omega)
                  refine ev_q rfl (q_move (by conv => lhs; whnf) ?_)
                  refine ev_nil ?_
                  clear hK7
                  refine ⟨i + 1, ?_, ?_, ?_⟩
                  · show _ ≤ _; omega
                  · first | omega | (simp only []; omega) | (dsimp only; omega)
                  · refine sub_weak ?_ ?_
                    · exact weakH_row (rowEq (appG hst (fS h23))) (weakH_none _)
                    · refine weakE_upd ?e11 ?r11 (weakE_upd ?e10 ?r10 (weakE_upd ?e9 ?r9 (weakE_upd ?e3 ?r3 (weakE_junk _ _))))
                      case e3 => first | rfl | exact fI (by omega) | (first | rfl | (rw [hst]; exact ownEq (by simp)))
                      case r3 => intro h hh; simp [refs] at hh; subst hh; rfl
                      case e9 => first | rfl | exact fI (by omega) | (simp_all)
                      case r9 => intro h hh; cases hh
                      case e10 => first | rfl | exact fI (by omega) | (simp_all)
                      case r10 => intro h hh; cases hh
                      case e11 => first | rfl | exact fI (by omega) | (simp_all)
                      case r11 => intro h hh; cases hh

theorem D_cut (c : UInt8) (s : ByteArray) (hs : s.size ≤ 1048576) : Den Tryz.prog 65 [.s (.string s), .s (.string ⟨#[c]⟩)] (.tup [.s (.string (cutA c s)), .s (.string (cutB c s)), .s (.bool (cutF c s))]) := by
  have h := den_cut ⟨_, Tryz.func65, rfl, rfl⟩ (by kernel_rfl) (fun s sep m w h1 h2 => Tryz.strings_Cut s sep m w h1 h2) s ⟨#[c]⟩ hs
  exact h

-- impl.ReadWave
set_option maxRecDepth 20000 in
set_option maxHeartbeats 2000000 in
theorem D_impl_ReadWave_X (s : ByteArray) (hs : s.size ≤ 1048576) : DenX Tryz.prog 25 [] [.s (.string s)] [(900003, .row 86 2 ((rwL s).map stp))] (.tup [.own 900003 (rwL s).length, .s (.bool (decide (rwP s)))]) := by
  have hsl := splN_le (c := 32) (k := 25) (s := s) (by omega)
  refine denX_of_good Tryz.func25 (by decide) rfl (Nat.le_of_ble_eq_true rfl) (Nat.le_of_ble_eq_true rfl) rfl ?_
  refine good_seq fun K1 hK1 => ?_
  refine good_region rfl ?_
  refine ev_q rfl (q_assign (by conv => lhs; whnf) ?_)
  refine ev_q rfl (q_assign (by conv => lhs; whnf) ?_)
  refine ev_nil (hK1 _ ?_); clear hK1
  refine good_seq fun K2 hK2 => ?_
  refine good_region rfl ?_
  refine ev_q rfl (q_assign (by conv => lhs; whnf) ?_)
  refine ev_nil (hK2 _ ?_); clear hK2
  refine good_seq fun K3 hK3 => ?_
  refine good_seq fun K4 hK4 => ?_
  refine good_region rfl ?_
  refine ev_q rfl (q_move (by conv => lhs; whnf) ?_)
  refine ev_q rfl (q_call rfl rfl (rfl) (D_split 32 25 s hs (by decide) (by decide)) rfl ?_)
  refine ev_q rfl (q_len tEs80 rfl ?_)
  intro n5 hn5
  try simp only [List.length_map] at hn5
  refine ev_q rfl (q_move (by conv => lhs; whnf) ?_)
  refine ev_nil (hK4 _ ?_); clear hK4
  refine good_block ?_
  refine good_loop (α := Nat) (fun i => { env := upd (upd (upd (upd (upd ((fun _ => .junk)) 0 (.s (.string s))) 4 (.own 48 ((splN 32 25 s).take i).length)) 15 (.lst 1 ((splN 32 25 s).map stA))) 16 (.s (.int .i64 (((splN 32 25 s).length : Int))))) 17 (.s (.int .i64 ((i : Int)))), H := upd ((fun _ => none)) 48 (some (.row 86 2 ((((splN 32 25 s).take i).map prV).map stp))) }) (fun i => i ≤ (splN 32 25 s).length ∧ ∀ j q, j < i → (splN 32 25 s)[j]? = some q → prB q) (fun i => (splN 32 25 s).length - i) 0 ?_ ?_ ?_
  · exact ⟨Nat.zero_le _, fun j u hj => by omega⟩
  · refine Sub.trans (sub_nil 4 48 86 2 rfl rfl (by decide)) ?_
    refine sub_weak ?_ ?_
    · exact weakH_row (rowEq (rfl)) (weakH_none _)
    · refine weakE_upd ?e17 ?r17 (weakE_upd ?e16 ?r16 (weakE_upd ?e15 ?r15 (weakE_upd ?e4 ?r4 (weakE_upd ?e0 ?r0 (weakE_junk _ _)))))
      case e0 => first | rfl | exact fI (by omega) | (simp_all)
      case r0 => intro h hh; cases hh
      case e4 => first | rfl | exact fI (by omega) | (first | rfl | (rw [hst]; exact ownEq (by simp)))
      case r4 => intro h hh; simp [refs] at hh; subst hh; rfl
      case e15 => first | rfl | exact fI (by omega) | (simp_all)
      case r15 => intro h hh; cases hh
      case e16 => first | rfl | exact fI (by omega) | (simp_all)
      case r16 => intro h hh; cases hh
      case e17 => first | rfl | exact fI (by omega) | (simp_all)
      case r17 => intro h hh; cases hh
  · rintro i ⟨hI, hJ⟩
    refine good_seq fun K6 hK6 => ?_
    refine good_region rfl ?_
    refine ev_q rfl (q_int rfl rfl ?_)
    intro b7 hb7; cases b7
    · replace hb7 := dF hb7
      obtain rfl : i = (splN 32 25 s).length := by omega
      have hall : ∀ p ∈ (splN 32 25 s), prB p := fun p hp => by obtain ⟨j, hj⟩ := List.getElem?_of_mem hp; exact hJ j p (List.getElem?_eq_some_iff.1 hj).1 hj
      refine ev_nil (hK6 _ ?_); clear hK6
      refine good_seq fun K8 hK8 => ?_
      refine good_condF rfl ?_
      refine good_exit ?_
      repeat (first | refine thenQ_exit ?_ | refine blockQ_pass rfl ?_)
      refine blockQ_exit (hK3 _ ?_); clear hK3
      refine good_seq fun K9 hK9 => ?_
      refine good_seq fun K10 hK10 => ?_
      refine good_region rfl ?_
      refine ev_q rfl (q_move (by conv => lhs; whnf) ?_)
      refine ev_q rfl (q_call rfl rfl (by change ([.lst 2 (List.take (List.take (splN 32 25 s).length (splN 32 25 s)).length (((List.take (splN 32 25 s).length (splN 32 25 s)).map prV).map stp))] : List AV) = _; simp only [List.take_length]; rw [List.take_of_length_le (by simp)]) (D_impl_WaveText ((splN 32 25 s).map prV) (by rw [List.length_map]; omega)) rfl ?_)
      refine ev_q rfl (q_move (by conv => lhs; whnf) ?_)
      refine ev_q rfl (q_str rfl rfl ?_)
      intro b11 hb11; cases b11
      · replace hb11 := snF hb11
        have hee := rw_y2 ((rw_iff hall).2 hb11)
        refine ev_nil (hK10 _ ?_); clear hK10
        refine good_condF rfl ?_
        refine good_skip (hK9 _ ?_); clear hK9
        refine good_seq fun K12 hK12 => ?_
        refine good_region rfl ?_
        refine ev_q rfl (q_move (by conv => lhs; whnf) ?_)
        refine ev_q rfl (q_assign (by conv => lhs; whnf) ?_)
        refine ev_q rfl (q_assign (by conv => lhs; whnf) ?_)
        refine ev_nil (hK12 _ ?_); clear hK12
        refine good_weak (sub_move 2 48 900003 rfl rfl rfl (by decide)) ?_
        refine good_ret ?_
        repeat (first | refine thenQ_ret ?_ | refine blockQ_ret ?_)
        refine fx_many rfl ?_
        refine fxs_tmp (by conv => lhs; whnf) ?_
        refine fxs_tmp (by conv => lhs; whnf) ?_
        refine fx_nil ?_
        clear hK8
        obtain ⟨e2, e⟩ := hee
        try rw [List.take_length]
        exact ⟨_, .tup (.cons (conv_eq (by first | rfl | (rw [e]; done) | (rw [e]; rfl) | exact ownEq (by first | omega | simp_all))) (.cons (conv_eq (by first | rfl | exact fT (by first | exact e2 | assumption) | exact fF (by first | exact e2 | assumption) | exact fT' (by first | exact e2 | assumption) | (exfalso; first | omega | grind))) (.nil))), weakH_row (rowEq (by first | (rw [e]; done) | (rw [e]; rfl))) (weakH_none _), refsIn_ok rfl⟩
      · replace hb11 := snT hb11
        have hee := rw_n (fun h => hb11 ((rw_iff hall).1 h))
        refine ev_nil (hK10 _ ?_); clear hK10
        refine good_condT rfl ?_
        refine good_seq fun K13 hK13 => ?_
        refine good_region rfl ?_
        refine ev_q rfl (q_assign (by conv => lhs; whnf) ?_)
        refine ev_q rfl (q_assign (by conv => lhs; whnf) ?_)
        refine ev_nil (hK13 _ ?_); clear hK13
        refine good_ret ?_
        repeat (first | refine thenQ_ret ?_ | refine blockQ_ret ?_)
        refine fx_many rfl ?_
        refine fxs_tmp (by conv => lhs; whnf) ?_
        refine fxs_tmp (by conv => lhs; whnf) ?_
        refine fx_nil ?_
        clear hK8 hK9
        obtain ⟨e2, e⟩ := hee
        try rw [List.take_length]
        exact ⟨_, .tup (.cons (conv_nil rfl (by decide) (by rw [e]; rfl)) (.cons (conv_eq (by first | rfl | exact fT (by first | exact e2 | assumption) | exact fF (by first | exact e2 | assumption) | exact fT' (by first | exact e2 | assumption) | (exfalso; first | omega | grind))) (.nil))), weakH_row (rowEq (by first | (rw [e]; done) | (rw [e]; rfl))) (weakH_none _), refsIn_ok rfl⟩
    · replace hb7 := dT hb7
      obtain ⟨q, hq⟩ := getL (xs := (splN 32 25 s)) (n := (i : Int)) (by omega) (by omega)
      replace hq : (splN 32 25 s)[i]? = some q := hq
      have hst := takeS hq
      have hqm := List.mem_of_getElem? hq
      have hqz := splN_sz hqm
      have hcz := cutB_sz (c := 58) (s := q)
      refine ev_nil (hK6 _ ?_); clear hK6
      refine good_seq fun K14 hK14 => ?_
      refine good_condT rfl ?_
      refine good_skip (hK14 _ ?_); clear hK14
      refine good_seq fun K15 hK15 => ?_
      refine good_block ?_
      refine good_seq fun K16 hK16 => ?_
      refine good_region rfl ?_
      refine ev_q rfl (q_idx tE80 rfl rfl (by first | decide | exact Int.natCast_nonneg _) (by exact map_get hq) rfl ?_)
      refine ev_q rfl (q_load tA9 rfl ?_)
      refine ev_q rfl (q_assign (by conv => lhs; whnf) ?_)
      refine ev_nil (hK16 _ ?_); clear hK16
      refine good_seq fun K17 hK17 => ?_
      refine good_region rfl ?_
      refine ev_q rfl (q_move (by conv => lhs; whnf) ?_)
      refine ev_q rfl (q_call rfl rfl (rfl) (D_cut 58 q (by omega)) rfl ?_)
      refine ev_q rfl (q_move (by conv => lhs; whnf) ?_)
      refine ev_q rfl (q_extract rfl rfl ?_)
      refine ev_q rfl (q_extract rfl rfl ?_)
      refine ev_q rfl (q_extract rfl rfl ?_)
      refine ev_q rfl (q_assign (by conv => lhs; whnf) ?_)
      refine ev_q rfl (q_assign (by conv => lhs; whnf) ?_)
      refine ev_q rfl (q_assign (by conv => lhs; whnf) ?_)
      refine ev_nil (hK17 _ ?_); clear hK17
      refine good_seq fun K18 hK18 => ?_
      refine good_region rfl ?_
      refine ev_q rfl (q_move (by conv => lhs; whnf) ?_)
      refine ev_q rfl (q_call rfl rfl (rfl) (D_impl_ReadDecimal (cutA 58 q) (by omega)) rfl ?_)
      refine ev_q rfl (q_move (by conv => lhs; whnf) ?_)
      refine ev_q rfl (q_extractI rfl rfl ?_)
      intro n19 hn19
      have h30 := hn19
      refine ev_q rfl (q_extractB rfl rfl ?_)
      intro b20 hb20; cases b20
      · first | replace hb20 := dF hb20 | skip
        have hee := rw_n (rw_no1 hqm (fun h => hb20 h.1))
        refine ev_q rfl (q_assign (by conv => lhs; whnf) ?_)
        refine ev_q rfl (q_assign (by conv => lhs; whnf) ?_)
        refine ev_nil (hK18 _ ?_); clear hK18
        refine good_seq fun K21 hK21 => ?_
        refine good_region rfl ?_
        refine ev_q rfl (q_move (by conv => lhs; whnf) ?_)
        refine ev_q rfl (q_call rfl rfl (rfl) (D_impl_ReadDecimal (cutB 58 q) (by omega)) rfl ?_)
        refine ev_q rfl (q_move (by conv => lhs; whnf) ?_)
        refine ev_q rfl (q_extractI rfl rfl ?_)
        intro n22 hn22
        have h35 := hn22
        refine ev_q rfl (q_extractB rfl rfl ?_)
        intro b23 hb23; cases b23
        · first | replace hb23 := dF hb23 | skip
          have hee := rw_n (rw_no1 hqm (fun h => hb23 h.2))
          refine ev_q rfl (q_assign (by conv => lhs; whnf) ?_)
          refine ev_q rfl (q_assign (by conv => lhs; whnf) ?_)
          refine ev_nil (hK21 _ ?_); clear hK21
          refine good_seq fun K24 hK24 => ?_
          refine good_seq fun K25 hK25 => ?_
          refine good_region rfl ?_
          refine ev_q rfl (q_move (by conv => lhs; whnf) ?_)
          refine ev_q rfl (q_not rfl rfl ?_)
          refine ev_q rfl (q_move (by conv => lhs; whnf) ?_)
          refine ev_skip rfl ?_
          refine ev_skip rfl ?_
          refine ev_q rfl (q_pickT rfl (by conv => lhs; whnf) ?_)
          refine ev_nil (hK25 _ ?_); clear hK25
          refine good_condT rfl ?_
          refine good_seq fun K26 hK26 => ?_
          refine good_region rfl ?_
          refine ev_q rfl (q_assign (by conv => lhs; whnf) ?_)
          refine ev_q rfl (q_assign (by conv => lhs; whnf) ?_)
          refine ev_nil (hK26 _ ?_); clear hK26
          refine good_ret ?_
          repeat (first | refine thenQ_ret ?_ | refine blockQ_ret ?_)
          refine fx_many rfl ?_
          refine fxs_tmp (by conv => lhs; whnf) ?_
          refine fxs_tmp (by conv => lhs; whnf) ?_
          refine fx_nil ?_
          clear hK3 hK15 hK24
          obtain ⟨e2, e⟩ := hee
          try rw [List.take_length]
          exact ⟨_, .tup (.cons (conv_nil rfl (by decide) (by rw [e]; rfl)) (.cons (conv_eq (by first | rfl | exact fT (by first | exact e2 | assumption) | exact fF (by first | exact e2 | assumption) | exact fT' (by first | exact e2 | assumption) | (exfalso; first | omega | grind))) (.nil))), weakH_row (rowEq (by first | (rw [e]; done) | (rw [e]; rfl))) (weakH_none _), refsIn_ok rfl⟩
        · first | replace hb23 := dT hb23 | skip
          first | have hpq : prB q := ⟨hA, hb23⟩ | skip
          refine ev_q rfl (q_assign (by conv => lhs; whnf) ?_)
          refine ev_q rfl (q_assign (by conv => lhs; whnf) ?_)
          refine ev_nil (hK21 _ ?_); clear hK21
          refine good_seq fun K27 hK27 => ?_
          refine good_seq fun K28 hK28 => ?_
          refine good_region rfl ?_
          refine ev_q rfl (q_move (by conv => lhs; whnf) ?_)
          refine ev_q rfl (q_not rfl rfl ?_)
          refine ev_q rfl (q_move (by conv => lhs; whnf) ?_)
          refine ev_skip rfl ?_
          refine ev_skip rfl ?_
          refine ev_q rfl (q_pickT rfl (by conv => lhs; whnf) ?_)
          refine ev_nil (hK28 _ ?_); clear hK28
          refine good_condT rfl ?_
          refine good_seq fun K29 hK29 => ?_
          refine good_region rfl ?_
          refine ev_q rfl (q_assign (by conv => lhs; whnf) ?_)
          refine ev_q rfl (q_assign (by conv => lhs; whnf) ?_)
          refine ev_nil (hK29 _ ?_); clear hK29
          refine good_ret ?_
          repeat (first | refine thenQ_ret ?_ | refine blockQ_ret ?_)
          refine fx_many rfl ?_
          refine fxs_tmp (by conv => lhs; whnf) ?_
          refine fxs_tmp (by conv => lhs; whnf) ?_
          refine fx_nil ?_
          clear hK3 hK15 hK27
          obtain ⟨e2, e⟩ := hee
          try rw [List.take_length]
          exact ⟨_, .tup (.cons (conv_nil rfl (by decide) (by rw [e]; rfl)) (.cons (conv_eq (by first | rfl | exact fT (by first | exact e2 | assumption) | exact fF (by first | exact e2 | assumption) | exact fT' (by first | exact e2 | assumption) | (exfalso; first | omega | grind))) (.nil))), weakH_row (rowEq (by first | (rw [e]; done) | (rw [e]; rfl))) (weakH_none _), refsIn_ok rfl⟩
      · first | replace hb20 := dT hb20 | skip
        have hA : rdB (cutA 58 q) := hb20
        refine ev_q rfl (q_assign (by conv => lhs; whnf) ?_)
        refine ev_q rfl (q_assign (by conv => lhs; whnf) ?_)
        refine ev_nil (hK18 _ ?_); clear hK18
        refine good_seq fun K30 hK30 => ?_
        refine good_region rfl ?_
        refine ev_q rfl (q_move (by conv => lhs; whnf) ?_)
        refine ev_q rfl (q_call rfl rfl (rfl) (D_impl_ReadDecimal (cutB 58 q) (by omega)) rfl ?_)
        refine ev_q rfl (q_move (by conv => lhs; whnf) ?_)
        refine ev_q rfl (q_extractI rfl rfl ?_)
        intro n31 hn31
        have h35 := hn31
        refine ev_q rfl (q_extractB rfl rfl ?_)
        intro b32 hb32; cases b32
        · first | replace hb32 := dF hb32 | skip
          have hee := rw_n (rw_no1 hqm (fun h => hb32 h.2))
          refine ev_q rfl (q_assign (by conv => lhs; whnf) ?_)
          refine ev_q rfl (q_assign (by conv => lhs; whnf) ?_)
          refine ev_nil (hK30 _ ?_); clear hK30
          refine good_seq fun K33 hK33 => ?_
          refine good_seq fun K34 hK34 => ?_
          refine good_region rfl ?_
          refine ev_q rfl (q_move (by conv => lhs; whnf) ?_)
          refine ev_q rfl (q_not rfl rfl ?_)
          refine ev_q rfl (q_move (by conv => lhs; whnf) ?_)
          refine ev_q rfl (q_move (by conv => lhs; whnf) ?_)
          refine ev_q rfl (q_not rfl rfl ?_)
          refine ev_q rfl (q_pickF rfl (by conv => lhs; whnf) ?_)
          refine ev_nil (hK34 _ ?_); clear hK34
          refine good_condT rfl ?_
          refine good_seq fun K35 hK35 => ?_
          refine good_region rfl ?_
          refine ev_q rfl (q_assign (by conv => lhs; whnf) ?_)
          refine ev_q rfl (q_assign (by conv => lhs; whnf) ?_)
          refine ev_nil (hK35 _ ?_); clear hK35
          refine good_ret ?_
          repeat (first | refine thenQ_ret ?_ | refine blockQ_ret ?_)
          refine fx_many rfl ?_
          refine fxs_tmp (by conv => lhs; whnf) ?_
          refine fxs_tmp (by conv => lhs; whnf) ?_
          refine fx_nil ?_
          clear hK3 hK15 hK33
          obtain ⟨e2, e⟩ := hee
          try rw [List.take_length]
          exact ⟨_, .tup (.cons (conv_nil rfl (by decide) (by rw [e]; rfl)) (.cons (conv_eq (by first | rfl | exact fT (by first | exact e2 | assumption) | exact fF (by first | exact e2 | assumption) | exact fT' (by first | exact e2 | assumption) | (exfalso; first | omega | grind))) (.nil))), weakH_row (rowEq (by first | (rw [e]; done) | (rw [e]; rfl))) (weakH_none _), refsIn_ok rfl⟩
        · first | replace hb32 := dT hb32 | skip
          first | have hpq : prB q := ⟨hA, hb32⟩ | skip
          refine ev_q rfl (q_assign (by conv => lhs; whnf) ?_)
          refine ev_q rfl (q_assign (by conv => lhs; whnf) ?_)
          refine ev_nil (hK30 _ ?_); clear hK30
          refine good_seq fun K36 hK36 => ?_
          refine good_seq fun K37 hK37 => ?_
          refine good_region rfl ?_
          refine ev_q rfl (q_move (by conv => lhs; whnf) ?_)
          refine ev_q rfl (q_not rfl rfl ?_)
          refine ev_q rfl (q_move (by conv => lhs; whnf) ?_)
          refine ev_q rfl (q_move (by conv => lhs; whnf) ?_)
          refine ev_q rfl (q_not rfl rfl ?_)
          refine ev_q rfl (q_pickF rfl (by conv => lhs; whnf) ?_)
          refine ev_nil (hK37 _ ?_); clear hK37
          refine good_condF rfl ?_
          refine good_skip (hK36 _ ?_); clear hK36
          refine good_region rfl ?_
          refine ev_q rfl (q_move (by conv => lhs; whnf) ?_)
          refine ev_q rfl (q_move (by conv => lhs; whnf) ?_)
          refine ev_q rfl (q_move (by conv => lhs; whnf) ?_)
          refine ev_k rfl (k_build zA86 pl86 (rfl) ?_)
          refine ev_k rfl (k_lit tE44 zA86 rfl rfl (by decide) (by decide) rfl rfl rfl ?_)
          refine ev_k rfl (k_app tApp44 rfl rfl (by simp) rfl (.inr rfl) (by first | (simp [maxLen]; done) | (simp [maxLen]; omega)) (by first | (simp; done) | (simp; omega)) ?_)
          refine ev_q rfl (q_assign (by conv => lhs; whnf) ?_)
          refine ev_nil (hK15 _ ?_); clear hK15
          refine good_region rfl ?_
          refine ev_q rfl (q_int rfl rfl ?_)
          intro n38 hn38
          replace hn38 := in64 hn38 (by omega) (by omega)
          refine ev_q rfl (q_move (by conv => lhs; whnf) ?_)
          refine ev_nil ?_
          clear hK3
          refine ⟨i + 1, ?_, ?_, ?_⟩
          · exact ⟨by omega, all_extI (Q := fun _ (q : ByteArray) => prB q) hJ hq hpq⟩
          · first | omega | (simp only []; omega) | (dsimp only; omega)
          · refine sub_weak ?_ ?_
            · exact weakH_row (rowEq (appG (p := prV q) (by rw [hst, List.map_append]; rfl) (stpE2 h30 h35))) (weakH_none _)
            · refine weakE_upd ?e17 ?r17 (weakE_upd ?e16 ?r16 (weakE_upd ?e15 ?r15 (weakE_upd ?e4 ?r4 (weakE_upd ?e0 ?r0 (weakE_junk _ _)))))
              case e0 => first | rfl | exact fI (by omega) | (simp_all)
              case r0 => intro h hh; cases hh
              case e4 => first | rfl | exact fI (by omega) | (first | rfl | (rw [hst]; exact ownEq (by simp)))
              case r4 => intro h hh; simp [refs] at hh; subst hh; rfl
              case e15 => first | rfl | exact fI (by omega) | (simp_all)
              case r15 => intro h hh; cases hh
              case e16 => first | rfl | exact fI (by omega) | (simp_all)
              case r16 => intro h hh; cases hh
              case e17 => first | rfl | exact fI (by omega) | (simp_all)
              case r17 => intro h hh; cases hh
theorem D_impl_ReadWave (s : ByteArray) (hs : s.size ≤ 1048576) : Den Tryz.prog 25 [.s (.string s)] (.tup [.lst 2 ((rwL s).map stp), .s (.bool (decide (rwP s)))]) :=
  den_of_denX (D_impl_ReadWave_X s hs) (by change (some (.tup [.lst 2 (List.take (rwL s).length ((rwL s).map stp)), .s (.bool (decide (rwP s)))]) : Option AV) = some (.tup [.lst 2 ((rwL s).map stp), .s (.bool (decide (rwP s)))]); simp only [takeMap])

-- slices.Clone[[]impl.Step,impl.Step]
set_option maxRecDepth 20000 in
set_option maxHeartbeats 2000000 in
theorem D_slices_Clone_impl_Step_impl_Step_X (xs : List (Int × Int)) (hx : xs.length ≤ 8796093022208) : DenX Tryz.prog 91 [] [.lst 2 (xs.map stp)] [(7, .row 86 2 (xs.map stp))] (.own 7 xs.length) := by
  refine denX_of_good Tryz.func91 (by decide) rfl (Nat.le_of_ble_eq_true rfl) (Nat.le_of_ble_eq_true rfl) rfl ?_
  refine good_seq fun K1 hK1 => ?_
  refine good_region rfl ?_
  refine ev_q rfl (q_assign (by conv => lhs; whnf) ?_)
  refine ev_nil (hK1 _ ?_); clear hK1
  refine good_seq fun K2 hK2 => ?_
  refine good_seq fun K3 hK3 => ?_
  refine good_region rfl ?_
  refine ev_q rfl (q_move (by conv => lhs; whnf) ?_)
  refine ev_k rfl (k_nil tEs44 rfl ?_)
  intro b4 hb4; cases b4
  · refine ev_nil (hK3 _ ?_); clear hK3
    refine good_condF rfl ?_
    refine good_skip (hK2 _ ?_); clear hK2
    refine good_seq fun K5 hK5 => ?_
    refine good_region rfl ?_
    refine ev_k rfl (k_lit tE44 zA86 rfl rfl (by decide) (by decide) rfl rfl rfl ?_)
    refine ev_q rfl (q_move (by conv => lhs; whnf) ?_)
    refine ev_k rfl (k_app tApp44 rfl rfl (by rfl) rfl (.inl rfl) (by simp [maxLen]; omega) (by simp; omega) ?_)
    refine ev_q rfl (q_assign (by conv => lhs; whnf) ?_)
    refine ev_nil (hK5 _ ?_); clear hK5
    refine good_ret ?_
    repeat (first | refine thenQ_ret ?_ | refine blockQ_ret ?_)
    refine fx_tmp rfl (by conv => lhs; whnf) ?_
    exact ⟨_, conv_eq (by first | rfl | (rw [e]; done) | (rw [e]; rfl) | exact ownEq (by first | omega | simp_all)), weakH_row (rowEq (by first | rfl | (rw [e]; rfl))) (weakH_none _), refsIn_ok rfl⟩
  · replace hb4 := hb4 rfl
    have e := nilMap hb4
    refine ev_nil (hK3 _ ?_); clear hK3
    refine good_condT rfl ?_
    refine good_seq fun K6 hK6 => ?_
    refine good_region rfl ?_
    refine ev_q rfl (q_assign (by conv => lhs; whnf) ?_)
    refine ev_nil (hK6 _ ?_); clear hK6
    refine good_ret ?_
    repeat (first | refine thenQ_ret ?_ | refine blockQ_ret ?_)
    refine fx_tmp rfl (by conv => lhs; whnf) ?_
    clear hK2
    exact ⟨_, conv_nil rfl (by decide) (by rw [e]; rfl), weakH_row (rowEq (by first | rfl | (rw [e]; rfl))) (weakH_none _), refsIn_ok rfl⟩

end Go.Proofs.YtodghlkodiidaaaGreatDoor.DFnWaves
