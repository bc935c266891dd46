/- Walks through the functions that FnExactDelayWave reaches: what each answers. -/
import Derived.Test.YtpoppoglnjoomaaEvO
import Derived.Test.YtpoppoglnjoomaaProg
set_option linter.unusedVariables false
set_option linter.unusedSimpArgs false
namespace Go.Proofs.Ytpoppoglnjoomaa.DFnExactDelayWave
open Go Go.RowKit Go.Proofs Go.Proofs.Ytpoppoglnjoomaa Go.Proofs.Ytpoppoglnjoomaa.Ev
def stp (p : Int × Int) : AV := .agg [.s (.int .i64 p.1), .s (.int .i64 p.2)]
def zst : AV := .agg [.s (.int .i64 0), .s (.int .i64 0)]
def wv (xs : List (Int × Int)) : AV := .lst 2 (xs.map stp)
def okAt (xs : List (Int × Int)) (j : Nat) (p : Int × Int) : Prop := (0 ≤ p.1 ∧ p.1 ≤ 1000000) ∧ (-5000 ≤ p.2 ∧ p.2 ≤ 20000) ∧ (j = 0 → p.1 = 0) ∧ ∀ q, 0 < j → xs[j - 1]? = some q → q.1 < p.1
def waveOk (xs : List (Int × Int)) : Prop := (1 ≤ xs.length ∧ xs.length ≤ 24) ∧ ∀ j p, xs[j]? = some p → okAt xs j p
noncomputable instance (xs : List (Int × Int)) : Decidable (waveOk xs) := Classical.propDecidable _
theorem wave_no {xs : List (Int × Int)} {i : Nat} {p : Int × Int} (h : xs[i]? = some p) (hn : ¬ okAt xs i p) : ¬ waveOk xs := fun ⟨_, h2⟩ => hn (h2 i p h)
theorem wave_iff {xs : List (Int × Int)} (h : ∀ j p, xs[j]? = some p → okAt xs j p) : (1 ≤ (xs.length : Int) ∧ (xs.length : Int) ≤ 24) ↔ waveOk xs := ⟨fun h2 => ⟨by omega, h⟩, fun ⟨h2, _⟩ => by omega⟩
theorem all_ext {xs : List (Int × Int)} {i : Nat} {Q : Nat → Int × Int → Prop} {p : Int × Int} (hJ : ∀ j q, j < i → xs[j]? = some q → Q j q) (hp : xs[i]? = some p) (h : Q i p) : ∀ j q, j < i + 1 → xs[j]? = some q → Q j q := by
  intro j q hj hq
  by_cases e : j = i
  · subst e; rw [hp] at hq; cases hq; exact h
  · exact hJ j q (by omega) hq
theorem all_fin {xs : List (Int × Int)} {i : Nat} {Q : Nat → Int × Int → Prop} (hJ : ∀ j q, j < i → xs[j]? = some q → Q j q) (hi : xs.length ≤ i) : ∀ j q, xs[j]? = some q → Q j q := by
  intro j q hq
  exact hJ j q (by have := (List.getElem?_eq_some_iff.1 hq).1; omega) hq
def within (xs : List Int) (lo hi : Int) : Prop := ∀ (j : Nat) (q : Int), xs[j]? = some q → lo ≤ q ∧ q ≤ hi
noncomputable instance (xs : List Int) (lo hi : Int) : Decidable (within xs lo hi) := Classical.propDecidable _
theorem all_extI {α : Type} {xs : List α} {i : Nat} {Q : Nat → α → Prop} {p : α} (hJ : ∀ j q, j < i → xs[j]? = some q → Q j q) (hp : xs[i]? = some p) (h : Q i p) : ∀ j q, j < i + 1 → xs[j]? = some q → Q j q := by
  intro j q hj hq
  by_cases e : j = i
  · subst e; rw [hp] at hq; cases hq; exact h
  · exact hJ j q (by omega) hq
theorem all_finI {α : Type} {xs : List α} {i : Nat} {Q : Nat → α → Prop} (hJ : ∀ j q, j < i → xs[j]? = some q → Q j q) (hi : xs.length ≤ i) : ∀ j q, xs[j]? = some q → Q j q := by
  intro j q hq
  exact hJ j q (by have := (List.getElem?_eq_some_iff.1 hq).1; omega) hq
theorem fi_some {α : Type} {xs : List α} {p : α → Prop} [DecidablePred p] {i : Nat} {q : α} (hq : xs[i]? = some q) (hJ : ∀ (j : Nat) (q : α), j < i → xs[j]? = some q → ¬ p q) (h : p q) : xs.findIdx? (fun x => decide (p x)) = some i := by
  rw [List.findIdx?_eq_some_iff_getElem]
  obtain ⟨hl, he⟩ := List.getElem?_eq_some_iff.1 hq
  refine ⟨hl, by simpa [he] using h, fun j hj => ?_⟩
  simpa using hJ j _ hj (List.getElem?_eq_getElem (by omega))
theorem fi_none {α : Type} {xs : List α} {p : α → Prop} [DecidablePred p] (hJ : ∀ (j : Nat) (q : α), xs[j]? = some q → ¬ p q) : xs.findIdx? (fun x => decide (p x)) = none := by
  rw [List.findIdx?_eq_none_iff]
  intro x hx
  obtain ⟨j, hj⟩ := List.getElem?_of_mem hx
  simpa using hJ j x hj
theorem fi_any {α : Type} {xs : List α} {p : α → Prop} [DecidablePred p] : (0 : Int) ≤ (match xs.findIdx? (fun x => decide (p x)) with | some j => (j : Int) | none => -1) ↔ ∃ x ∈ xs, p x := by
  cases h : xs.findIdx? (fun x => decide (p x)) with
  | none =>
    rw [List.findIdx?_eq_none_iff] at h
    simp at h ⊢
    exact h
  | some j =>
    rw [List.findIdx?_eq_some_iff_getElem] at h
    obtain ⟨hl, h1, _⟩ := h
    simp only [Int.natCast_nonneg, true_iff]
    exact ⟨_, List.getElem_mem hl, by simpa using h1⟩
theorem within_any {xs : List Int} {lo hi : Int} : within xs lo hi ↔ ¬ ∃ x ∈ xs, ¬ (lo ≤ x ∧ x ≤ hi) := by
  constructor
  · intro h ⟨x, hx, hn⟩
    obtain ⟨j, hj⟩ := List.getElem?_of_mem hx
    exact hn (h j x hj)
  · intro h j q hq
    apply Classical.byContradiction
    intro hn
    exact h ⟨q, List.mem_of_getElem? hq, hn⟩
theorem sub_shrE {N : Nat} {st : St} (t k d : Nat) {ty sz n : Nat} {es es' : List AV} (ht : st.env t = .own k n) (hk : st.H k = some (.row ty sz es)) (hd : st.H d = none) (hdn : d < 1000000) (he : es.take n = es') :
    Sub N st { env := upd (fun i => killV k (st.env i)) t (.own d n), H := upd (dropH (st.kill k).H (some k)) d (some (.row ty sz es')) } := by subst he; exact sub_shr t k d ht hk hd hdn
theorem nilMap {α : Type} {f : α → AV} {xs : List α} (h : (xs.map f).length = 0) : xs = [] := by simpa using h
def dgA (xs : List (Int × Int)) (j : Nat) : Int := match xs[j]? with
  | some p => p.2
  | none => 0
theorem dgA_eq {xs : List (Int × Int)} {j : Nat} {p : Int × Int} (h : xs[j]? = some p) : dgA xs j = p.2 := by unfold dgA; rw [h]
def trP (xs : List (Int × Int)) (n : Nat) : Prop := n = 0 ∨ ¬ dgA xs n = dgA xs (n - 1)
instance (xs : List (Int × Int)) (n : Nat) : Decidable (trP xs n) := by unfold trP; infer_instance
theorem trP_T {xs : List (Int × Int)} {n : Nat} {p q : Int × Int} (hp : xs[n]? = some p) (hq : xs[n - 1]? = some q) (h : ¬ p.2 = q.2) : trP xs n := .inr (by rw [dgA_eq hp, dgA_eq hq]; exact h)
theorem trP_F {xs : List (Int × Int)} {n : Nat} {p q : Int × Int} (hp : xs[n]? = some p) (hq : xs[n - 1]? = some q) (h0 : ¬ n = 0) (h : p.2 = q.2) : ¬ trP xs n := fun h2 => h2.elim h0 (fun h3 => h3 (by rw [dgA_eq hp, dgA_eq hq]; exact h))
def trG (xs : List (Int × Int)) : Nat → List (Int × Int)
  | 0 => []
  | n + 1 => if trP xs n then trG xs n ++ (match xs[n]? with
    | some p => [p]
    | none => []) else trG xs n
theorem trG_T {xs : List (Int × Int)} {n : Nat} {p : Int × Int} (hp : xs[n]? = some p) (h : trP xs n) : trG xs (n + 1) = trG xs n ++ [p] := by rw [trG, if_pos h, hp]
theorem trG_F {xs : List (Int × Int)} {n : Nat} (h : ¬ trP xs n) : trG xs (n + 1) = trG xs n := by rw [trG, if_neg h]
theorem trG_len {xs : List (Int × Int)} : ∀ n : Nat, (trG xs n).length ≤ n
  | 0 => by simp [trG]
  | n + 1 => by
    have ih := trG_len (xs := xs) n
    by_cases h : trP xs n
    · rw [trG, if_pos h, List.length_append]
      split <;> simp <;> omega
    · rw [trG_F h]; omega
theorem trG_lt {xs : List (Int × Int)} {i : Nat} (h : ¬ trP xs i) : ∀ n : Nat, i < n → (trG xs n).length ≤ n - 1
  | 0, h0 => by omega
  | n + 1, hn => by
    by_cases e : i = n
    · subst e; rw [trG_F h]; have := trG_len (xs := xs) i; omega
    · have ih := trG_lt h n (by omega)
      by_cases h2 : trP xs n
      · rw [trG, if_pos h2, List.length_append]
        split <;> simp <;> omega
      · rw [trG_F h2]; omega
theorem trG_take {xs : List (Int × Int)} : ∀ n : Nat, n ≤ xs.length → (∀ j, 1 ≤ j → j < n → trP xs j) → trG xs n = xs.take n
  | 0, _, _ => by simp [trG]
  | n + 1, hn, h => by
    have hp : xs[n]? = some (xs[n]'(by omega)) := List.getElem?_eq_getElem (by omega)
    have ht : trP xs n := by
      by_cases e : n = 0
      · exact .inl e
      · exact h n (by omega) (by omega)
    rw [trG_T hp ht, trG_take n (by omega) (fun j h1 h2 => h j h1 (by omega)), List.take_add_one, hp]; rfl
theorem trG_self {xs : List (Int × Int)} (h : ∀ j, 1 ≤ j → j < xs.length → trP xs j) : trG xs xs.length = xs := by
  rw [trG_take xs.length (Nat.le_refl _) h, List.take_length]
theorem trP_ext {xs : List (Int × Int)} {i : Nat} (h : ∀ j, 1 ≤ j → j < i → trP xs j) (hi : trP xs i) : ∀ j, 1 ≤ j → j < i + 1 → trP xs j := fun j h1 h2 => by
  by_cases e : j = i
  · subst e; exact hi
  · exact h j h1 (by omega)
theorem trG_last {xs : List (Int × Int)} : ∀ n : Nat, 1 ≤ n → n ≤ xs.length → 1 ≤ (trG xs n).length ∧ ∀ q, (trG xs n)[(trG xs n).length - 1]? = some q → q.2 = dgA xs (n - 1)
  | 0, h, _ => by omega
  | n + 1, _, hn => by
    have hp : xs[n]? = some (xs[n]'(by omega)) := List.getElem?_eq_getElem (by omega)
    by_cases h : trP xs n
    · rw [trG_T hp h]
      refine ⟨by simp, fun q hq => ?_⟩
      rw [List.length_append] at hq
      simp at hq
      subst hq
      exact (dgA_eq hp).symm
    · have h0 : ¬ n = 0 := fun e => h (.inl e)
      have he : dgA xs n = dgA xs (n - 1) := by
        apply Classical.byContradiction; intro hc; exact h (.inr hc)
      obtain ⟨ih1, ih2⟩ := trG_last (xs := xs) n (by omega) (by omega)
      rw [trG_F h]
      exact ⟨ih1, fun q hq => by rw [ih2 q hq]; exact he.symm⟩
theorem trG_mem {xs : List (Int × Int)} : ∀ (n : Nat) (p : Int × Int), p ∈ trG xs n → p ∈ xs
  | 0, p, h => by simp [trG] at h
  | n + 1, p, h => by
    by_cases h2 : trP xs n
    · rw [trG, if_pos h2] at h
      rcases List.mem_append.1 h with h | h
      · exact trG_mem n p h
      · split at h
        · rename_i q hq; simp at h; subst h; exact List.mem_of_getElem? hq
        · simp at h
    · rw [trG_F h2] at h; exact trG_mem n p h
def cpC (xs : List (Int × Int)) : List AV := (trG xs xs.length).map stp ++ List.replicate (xs.length - (trG xs xs.length).length) zst
theorem cpC_len {xs : List (Int × Int)} : (cpC xs).length = xs.length := by have := trG_len (xs := xs) xs.length; simp [cpC]; omega
theorem cpC_same {xs : List (Int × Int)} (h : trG xs xs.length = xs) : cpC xs = xs.map stp := by unfold cpC; rw [h]; simp
theorem cpC_take {xs : List (Int × Int)} : (cpC xs).take (trG xs xs.length).length = (trG xs xs.length).map stp := by unfold cpC; rw [List.take_append_of_le_length (by simp), List.take_of_length_le (by simp)]
def cpR (xs : List (Int × Int)) (n : Nat) : List AV := (trG xs n).map stp ++ (xs.drop (trG xs n).length).map stp
theorem cpR_len {xs : List (Int × Int)} {n : Nat} (h : n ≤ xs.length) : (cpR xs n).length = xs.length := by have := trG_len (xs := xs) n; simp [cpR]; omega
theorem cpR_take {xs : List (Int × Int)} {n m : Nat} (h : trG xs n = xs.take m) (hm : m ≤ xs.length) : cpR xs n = xs.map stp := by
  unfold cpR
  rw [h, List.length_take, Nat.min_eq_left hm, ← List.map_append, List.take_append_drop]
theorem cpR_get {xs : List (Int × Int)} {n m : Nat} {p : Int × Int} (h : xs[m]? = some p) (hm : (trG xs n).length ≤ m) : (cpR xs n)[m]? = some (stp p) := by
  unfold cpR
  rw [List.getElem?_append_right (by simpa using hm), List.getElem?_map, List.length_map, List.getElem?_drop, show (trG xs n).length + (m - (trG xs n).length) = m by omega, h]; rfl
theorem cpR_set {xs : List (Int × Int)} {n : Nat} {p : Int × Int} {v : AV} (hp : xs[n]? = some p) (h : trP xs n) (hv : v = stp p) : (cpR xs n).set (trG xs n).length v = cpR xs (n + 1) := by
  subst hv
  have hl := trG_len (xs := xs) n
  have hn : n < xs.length := (List.getElem?_eq_some_iff.1 hp).1
  unfold cpR
  rw [trG_T hp h, List.set_append_right _ _ (by simp), List.length_map, Nat.sub_self, List.drop_eq_getElem_cons (by omega), List.map_cons, List.set_cons_zero, List.map_append, List.append_assoc, List.length_append]
  rfl
theorem cpR_F {xs : List (Int × Int)} {n : Nat} (h : ¬ trP xs n) : cpR xs n = cpR xs (n + 1) := by unfold cpR; rw [trG_F h]
theorem cpR_clr {xs : List (Int × Int)} {n w m : Nat} (hn : n = xs.length) (hw : w = (trG xs n).length) (hm : m = xs.length - w) : (cpR xs n).take w ++ List.replicate m zst ++ (cpR xs n).drop (w + m) = cpC xs := by
  subst hn hw hm
  have := trG_len (xs := xs) xs.length
  rw [List.drop_eq_nil_of_le (by rw [cpR_len (Nat.le_refl _)]; omega), List.append_nil]
  unfold cpR cpC
  rw [List.take_append_of_le_length (by simp), List.take_of_length_le (by simp)]
def tmB (xs : List (Int × Int)) : Prop := ∃ p ∈ trG xs xs.length, ¬ (0 ≤ p.1 ∧ p.1 ≤ 1000000)
noncomputable instance (xs : List (Int × Int)) : Decidable (tmB xs) := Classical.propDecidable _
noncomputable instance (xs : List (Int × Int)) : Decidable (∃ p ∈ xs, ¬ (0 ≤ p.1 ∧ p.1 ≤ 1000000)) := Classical.propDecidable _
noncomputable def tmC (xs : List (Int × Int)) : Int := if tmB xs then 6 else if (trG xs xs.length).length > 24 then 5 else 0
noncomputable def tmR (xs : List (Int × Int)) : List (Int × Int) := if tmC xs = 0 then trG xs xs.length else []
theorem tmR_ok {xs : List (Int × Int)} (h : tmC xs = 0) : tmR xs = trG xs xs.length := if_pos h
theorem tmR_no {xs : List (Int × Int)} (h : ¬ tmC xs = 0) : tmR xs = [] := if_neg h
theorem tmC_6 {xs : List (Int × Int)} (h : tmB xs) : tmC xs = 6 := if_pos h
theorem tmC_5 {xs : List (Int × Int)} (h : ¬ tmB xs) (h2 : (trG xs xs.length).length > 24) : tmC xs = 5 := by unfold tmC; rw [if_neg h, if_pos h2]
theorem tmC_0 {xs : List (Int × Int)} (h : ¬ tmB xs) (h2 : ¬ (trG xs xs.length).length > 24) : tmC xs = 0 := by unfold tmC; rw [if_neg h, if_neg h2]
theorem tmR_len {xs : List (Int × Int)} : (tmR xs).length ≤ 24 := by
  by_cases h : tmC xs = 0
  · rw [tmR_ok h]
    unfold tmC at h
    split at h
    · omega
    · split at h <;> omega
  · rw [tmR_no h]; simp
theorem tmB_all {xs : List (Int × Int)} {i : Nat} (hJ : ∀ (j : Nat) (q : Int × Int), j < i → (trG xs xs.length)[j]? = some q → 0 ≤ q.1 ∧ q.1 ≤ 1000000) (h : (trG xs xs.length).length ≤ i) : ¬ tmB xs := fun ⟨p, hp, hn⟩ => by
  obtain ⟨j, hj⟩ := List.getElem?_of_mem hp
  exact hn (hJ j p (by have := (List.getElem?_eq_some_iff.1 hj).1; omega) hj)
theorem tm_wave {xs : List (Int × Int)} (ok : waveOk xs) : tmC xs = 0 := by
  refine tmC_0 (fun ⟨p, hp, hn⟩ => ?_) ?_
  · obtain ⟨j, hj⟩ := List.getElem?_of_mem (trG_mem _ _ hp)
    exact hn (ok.2 j p hj).1
  · have := trG_len (xs := xs) xs.length
    have := ok.1.2
    omega
noncomputable def twR (xs : List (Int × Int)) : List (Int × Int) := if waveOk xs then trG xs xs.length else []
theorem twR_ok {xs : List (Int × Int)} (h : waveOk xs) : twR xs = trG xs xs.length := if_pos h
theorem twR_no {xs : List (Int × Int)} (h : ¬ waveOk xs) : twR xs = [] := if_neg h
theorem twR_len {xs : List (Int × Int)} : (twR xs).length ≤ 24 := by
  by_cases h : waveOk xs
  · rw [twR_ok h]; have := trG_len (xs := xs) xs.length; have := h.1.2; omega
  · rw [twR_no h]; simp
def lateF (d : Int) (p : Int × Int) : Int × Int := (p.1 + d, p.2)
def lateG (xs : List (Int × Int)) (d b : Int) (i : Nat) : List (Int × Int) := (if d > 0 then [(0, b)] else []) ++ (xs.take i).map (lateF d)
theorem lateG_s {xs : List (Int × Int)} {d b : Int} {i : Nat} {p : Int × Int} (h : xs[i]? = some p) : lateG xs d b (i + 1) = lateG xs d b i ++ [(p.1 + d, p.2)] := by
  unfold lateG; rw [List.take_add_one, h]; simp [lateF]
theorem lateG_len {xs : List (Int × Int)} {d b : Int} {i : Nat} : (lateG xs d b i).length ≤ i + 1 := by
  unfold lateG; split <;> simp <;> omega
def lateL (xs : List (Int × Int)) (d b : Int) : List (Int × Int) := lateG xs d b xs.length
theorem late0 {xs : List (Int × Int)} {b : Int} : lateL xs 0 b = xs := by
  unfold lateL lateG
  rw [List.take_length]
  have e : lateF 0 = id := by funext p; simp [lateF]
  rw [e]; simp
theorem appS {f : Int × Int → AV} {l l2 : List (Int × Int)} {p : Int × Int} {v : AV} (h : l2 = l ++ [p]) (e : v = f p) : l.map f ++ [v] = l2.map f := by subst h e; simp
noncomputable def dwC (xs : List (Int × Int)) (d b : Int) : Int := if waveOk xs then (if (0 ≤ d ∧ d ≤ 1000000) ∧ (-5000 ≤ b ∧ b ≤ 20000) then tmC (lateL xs d b) else 2) else 1
noncomputable def dwR (xs : List (Int × Int)) (d b : Int) : List (Int × Int) := if dwC xs d b = 0 then trG (lateL xs d b) (lateL xs d b).length else []
theorem dwR_ok {xs : List (Int × Int)} {d b : Int} (h : waveOk xs) (h2 : (0 ≤ d ∧ d ≤ 1000000) ∧ (-5000 ≤ b ∧ b ≤ 20000)) : dwC xs d b = tmC (lateL xs d b) ∧ dwR xs d b = tmR (lateL xs d b) := by
  have e : dwC xs d b = tmC (lateL xs d b) := by unfold dwC; rw [if_pos h, if_pos h2]
  refine ⟨e, ?_⟩
  unfold dwR tmR; rw [e]
theorem dwR_2 {xs : List (Int × Int)} {d b : Int} (h : waveOk xs) (h2 : ¬ ((0 ≤ d ∧ d ≤ 1000000) ∧ (-5000 ≤ b ∧ b ≤ 20000))) : dwC xs d b = 2 ∧ dwR xs d b = [] := by
  have e : dwC xs d b = 2 := by unfold dwC; rw [if_pos h, if_neg h2]
  exact ⟨e, by unfold dwR; rw [if_neg (by omega)]⟩
theorem dwR_1 {xs : List (Int × Int)} {d b : Int} (h : ¬ waveOk xs) : dwC xs d b = 1 ∧ dwR xs d b = [] := by
  have e : dwC xs d b = 1 := by unfold dwC; rw [if_neg h]
  exact ⟨e, by unfold dwR; rw [if_neg (by omega)]⟩
theorem dwR_len {xs : List (Int × Int)} {d b : Int} : (dwR xs d b).length ≤ 24 := by
  by_cases h : waveOk xs
  · by_cases h2 : (0 ≤ d ∧ d ≤ 1000000) ∧ (-5000 ≤ b ∧ b ≤ 20000)
    · rw [(dwR_ok h h2).2]; exact tmR_len
    · rw [(dwR_2 h h2).2]; simp
  · rw [(dwR_1 h).2]; simp
theorem lateG_0 {xs : List (Int × Int)} {d b : Int} (h : d > 0) : lateG xs d b 0 = [(0, b)] := by unfold lateG; rw [if_pos h]; simp
theorem lateG_n {xs : List (Int × Int)} {d b : Int} (h : ¬ d > 0) : lateG xs d b 0 = [] := by unfold lateG; rw [if_neg h]; simp
theorem lateL_len {xs : List (Int × Int)} {d b : Int} : (lateL xs d b).length ≤ xs.length + 1 := lateG_len
theorem stpE {a b : Int} {p : Int × Int} (h : a = p.1) (h2 : b = p.2) : AV.agg [.s (.int .i64 a), .s (.int .i64 b)] = stp p := by subst h h2; rfl
theorem setGet {es : List AV} {i : Nat} {e : AV} (h : i < es.length) : (es.set i e)[i]? = some e := by simp [h]
noncomputable def mkWi (k : Int) (j : Nat) : AV := .agg [.s (.int .i64 (k + 2 * j)), .s (.int .i64 (k + 2 * j + 1))]
noncomputable def mkW (k : Int) (xs : List (Int × Int)) (i : Nat) : List AV := ((List.range i).map (mkWi k)) ++ (xs.drop i).map stp
theorem mkW0 {k : Int} {xs : List (Int × Int)} : mkW k xs 0 = xs.map stp := by simp [mkW]
theorem mkW_len {k : Int} {xs : List (Int × Int)} {i : Nat} (h : i ≤ xs.length) : (mkW k xs i).length = xs.length := by simp [mkW]; omega
theorem mkW_get {k : Int} {xs : List (Int × Int)} {i : Nat} {p : (Int × Int)} (h : xs[i]? = some p) : (mkW k xs i)[i]? = some (stp p) := by
  unfold mkW
  rw [List.getElem?_append_right (by simp)]
  simp [h]
theorem mkW_at {k : Int} {xs : List (Int × Int)} {i : Nat} (h : i < xs.length) : (mkW k xs xs.length)[i]? = some (mkWi k i) := by
  unfold mkW
  rw [List.getElem?_append_left (by simpa using h)]
  simp [h]
theorem mkW_set {k : Int} {xs : List (Int × Int)} {i : Nat} (h : i < xs.length) : (mkW k xs i).set i (mkWi k i) = mkW k xs (i + 1) := by
  unfold mkW
  rw [List.set_append_right _ _ (by simp)]
  simp only [List.length_map, List.length_range, Nat.sub_self]
  rw [List.drop_eq_getElem_cons h, List.map_cons, List.set_cons_zero, List.range_succ, List.map_append]
  simp
theorem mkW_step {k a : Int} {xs : List (Int × Int)} {i : Nat} {e1 : AV} (h : i < xs.length) (ha : a = k + 2 * i + 1) :
    ((mkW k xs i).set i e1).set i (.agg [.s (.int .i64 (k + 2 * i)), .s (.int .i64 a)]) = mkW k xs (i + 1) := by
  subst ha
  simp only [List.set_set]
  exact mkW_set h
theorem mkW_take {k : Int} {xs : List (Int × Int)} : (mkW k xs xs.length).take xs.length = mkW k xs xs.length := takeLen (by rw [mkW_len (Nat.le_refl _)]; exact Nat.le_refl _)
theorem mkW_pure {xs : List (Int × Int)} : (flats (xs.map stp)).all noMem = true := by
  induction xs with
  | nil => rfl
  | cons x xs ih => simp only [List.map_cons, flats, List.flatMap_cons, List.all_append, Bool.and_eq_true]; exact ⟨rfl, ih⟩
theorem fO103_0 : fOff Try.prog 103 0 = some 0 := by kernel_rfl
theorem fO103_1 : fOff Try.prog 103 1 = some 1 := by kernel_rfl
theorem fO105_0 : fOff Try.prog 105 0 = some 0 := by kernel_rfl
theorem fO105_1 : fOff Try.prog 105 1 = some 1 := by kernel_rfl
theorem hmix : Try.prog.follows .mixedOrders = true := by kernel_rfl
theorem pl103 : placesA Try.prog 103 = some [(0, 1), (1, 1)] := by kernel_rfl
theorem sz103 : tSz Try.prog 103 = some 2 := by kernel_rfl
theorem sz2 : tSz Try.prog 2 = some 1 := by kernel_rfl
theorem tA103 : tAgg Try.prog 103 = some (some 2) := by kernel_rfl
theorem tA105 : tAgg Try.prog 105 = some (some 2) := by kernel_rfl
theorem tA2 : tAgg Try.prog 2 = some none := by kernel_rfl
theorem tApp50 : tApp Try.prog 50 = some (103, 2, 16) := by kernel_rfl
theorem tBy103 : tBytes Try.prog 103 = some 16 := by kernel_rfl
theorem tE48 : tElem Try.prog 48 = some (105, 2) := by kernel_rfl
theorem tE50 : tElem Try.prog 50 = some (103, 2) := by kernel_rfl
theorem tEs48 : (tElem Try.prog 48).isSome = true := by kernel_rfl
theorem tEs50 : (tElem Try.prog 50).isSome = true := by kernel_rfl
theorem zA103 : zeroA Try.prog 103 = some [.s (.int .i64 0), .s (.int .i64 0)] := by kernel_rfl

-- impl.within
set_option maxRecDepth 20000 in
set_option maxHeartbeats 2000000 in
theorem D_impl_within (a lo hi : Int)  : Den Try.prog 76 [.s (.int .i64 a), .s (.int .i64 lo), .s (.int .i64 hi)] (.s (.bool (decide (lo ≤ a ∧ a ≤ hi)))) := by
  refine den_of_good Try.func76 (by decide) rfl (Nat.le_of_ble_eq_true rfl) (Nat.le_of_ble_eq_true rfl) ?_
  refine good_seq fun K1 hK1 => ?_
  refine good_region rfl ?_
  refine ev_q rfl (q_assign (by conv => lhs; whnf) ?_)
  refine ev_nil (hK1 _ ?_); clear hK1
  refine good_seq fun K2 hK2 => ?_
  refine good_region rfl ?_
  refine ev_q rfl (q_move (by conv => lhs; whnf) ?_)
  refine ev_q rfl (q_move (by conv => lhs; whnf) ?_)
  refine ev_q rfl (q_int rfl rfl ?_)
  intro b3 hb3; cases b3
  · replace hb3 := dF hb3
    refine ev_q rfl (q_move (by conv => lhs; whnf) ?_)
    refine ev_skip rfl ?_
    refine ev_skip rfl ?_
    refine ev_skip rfl ?_
    refine ev_q rfl (q_pickF rfl (by conv => lhs; whnf) ?_)
    refine ev_q rfl (q_assign (by conv => lhs; whnf) ?_)
    refine ev_nil (hK2 _ ?_); clear hK2
    refine good_ret ?_
    repeat (first | refine thenQ_ret ?_ | refine blockQ_ret ?_)
    refine ret_tmp (st := _) rfl (by conv => lhs; whnf) rfl ?_
    first | rfl | exact fT (by first | omega | grind) | exact fF (by first | omega | grind) | exact fT' (by first | omega | grind) | (exfalso; first | omega | grind)
  · replace hb3 := dT hb3
    refine ev_q rfl (q_move (by conv => lhs; whnf) ?_)
    refine ev_q rfl (q_move (by conv => lhs; whnf) ?_)
    refine ev_q rfl (q_move (by conv => lhs; whnf) ?_)
    refine ev_q rfl (q_int rfl rfl ?_)
    intro b4 hb4; cases b4
    · replace hb4 := dF hb4
      refine ev_q rfl (q_pickT rfl (by conv => lhs; whnf) ?_)
      refine ev_q rfl (q_assign (by conv => lhs; whnf) ?_)
      refine ev_nil (hK2 _ ?_); clear hK2
      refine good_ret ?_
      repeat (first | refine thenQ_ret ?_ | refine blockQ_ret ?_)
      refine ret_tmp (st := _) rfl (by conv => lhs; whnf) rfl ?_
      first | rfl | exact fT (by first | omega | grind) | exact fF (by first | omega | grind) | exact fT' (by first | omega | grind) | (exfalso; first | omega | grind)
    · replace hb4 := dT hb4
      refine ev_q rfl (q_pickT rfl (by conv => lhs; whnf) ?_)
      refine ev_q rfl (q_assign (by conv => lhs; whnf) ?_)
      refine ev_nil (hK2 _ ?_); clear hK2
      refine good_ret ?_
      repeat (first | refine thenQ_ret ?_ | refine blockQ_ret ?_)
      refine ret_tmp (st := _) rfl (by conv => lhs; whnf) rfl ?_
      first | rfl | exact fT (by first | omega | grind) | exact fF (by first | omega | grind) | exact fT' (by first | omega | grind) | (exfalso; first | omega | grind)

-- spec.l00In
set_option maxRecDepth 20000 in
set_option maxHeartbeats 2000000 in
theorem D_spec_l00In (a lo hi : Int)  : Den Try.prog 73 [.s (.int .i64 a), .s (.int .i64 lo), .s (.int .i64 hi)] (.s (.bool (decide (lo ≤ a ∧ a ≤ hi)))) := by
  refine den_of_good Try.func73 (by decide) rfl (Nat.le_of_ble_eq_true rfl) (Nat.le_of_ble_eq_true rfl) ?_
  refine good_seq fun K1 hK1 => ?_
  refine good_region rfl ?_
  refine ev_q rfl (q_assign (by conv => lhs; whnf) ?_)
  refine ev_nil (hK1 _ ?_); clear hK1
  refine good_seq fun K2 hK2 => ?_
  refine good_region rfl ?_
  refine ev_q rfl (q_move (by conv => lhs; whnf) ?_)
  refine ev_q rfl (q_move (by conv => lhs; whnf) ?_)
  refine ev_q rfl (q_int rfl rfl ?_)
  intro b3 hb3; cases b3
  · replace hb3 := dF hb3
    refine ev_q rfl (q_move (by conv => lhs; whnf) ?_)
    refine ev_skip rfl ?_
    refine ev_skip rfl ?_
    refine ev_skip rfl ?_
    refine ev_q rfl (q_pickF rfl (by conv => lhs; whnf) ?_)
    refine ev_q rfl (q_assign (by conv => lhs; whnf) ?_)
    refine ev_nil (hK2 _ ?_); clear hK2
    refine good_ret ?_
    repeat (first | refine thenQ_ret ?_ | refine blockQ_ret ?_)
    refine ret_tmp (st := _) rfl (by conv => lhs; whnf) rfl ?_
    first | rfl | exact fT (by first | omega | grind) | exact fF (by first | omega | grind) | exact fT' (by first | omega | grind) | (exfalso; first | omega | grind)
  · replace hb3 := dT hb3
    refine ev_q rfl (q_move (by conv => lhs; whnf) ?_)
    refine ev_q rfl (q_move (by conv => lhs; whnf) ?_)
    refine ev_q rfl (q_move (by conv => lhs; whnf) ?_)
    refine ev_q rfl (q_int rfl rfl ?_)
    intro b4 hb4; cases b4
    · replace hb4 := dF hb4
      refine ev_q rfl (q_pickT rfl (by conv => lhs; whnf) ?_)
      refine ev_q rfl (q_assign (by conv => lhs; whnf) ?_)
      refine ev_nil (hK2 _ ?_); clear hK2
      refine good_ret ?_
      repeat (first | refine thenQ_ret ?_ | refine blockQ_ret ?_)
      refine ret_tmp (st := _) rfl (by conv => lhs; whnf) rfl ?_
      first | rfl | exact fT (by first | omega | grind) | exact fF (by first | omega | grind) | exact fT' (by first | omega | grind) | (exfalso; first | omega | grind)
    · replace hb4 := dT hb4
      refine ev_q rfl (q_pickT rfl (by conv => lhs; whnf) ?_)
      refine ev_q rfl (q_assign (by conv => lhs; whnf) ?_)
      refine ev_nil (hK2 _ ?_); clear hK2
      refine good_ret ?_
      repeat (first | refine thenQ_ret ?_ | refine blockQ_ret ?_)
      refine ret_tmp (st := _) rfl (by conv => lhs; whnf) rfl ?_
      first | rfl | exact fT (by first | omega | grind) | exact fF (by first | omega | grind) | exact fT' (by first | omega | grind) | (exfalso; first | omega | grind)

-- laws.toStep
set_option maxRecDepth 20000 in
set_option maxHeartbeats 2000000 in
theorem D_laws_toStep (a b : Int)  : Den Try.prog 88 [.agg [.s (.int .i64 a), .s (.int .i64 b)]] (.agg [.s (.int .i64 a), .s (.int .i64 b)]) := by
  refine den_of_good Try.func88 (by decide) rfl (Nat.le_of_ble_eq_true rfl) (Nat.le_of_ble_eq_true rfl) ?_
  refine good_seq fun K1 hK1 => ?_
  refine good_region rfl ?_
  refine ev_k rfl (k_box (by conv => lhs; whnf) rfl rfl rfl ?_)
  refine ev_k rfl (k_alloc zA103 rfl ?_)
  refine ev_nil (hK1 _ ?_); clear hK1
  refine good_seq fun K2 hK2 => ?_
  refine good_region rfl ?_
  refine ev_k rfl (k_alloc zA103 rfl ?_)
  refine ev_nil (hK2 _ ?_); clear hK2
  refine good_seq fun K3 hK3 => ?_
  refine good_region rfl ?_
  refine ev_q rfl (q_fieldAddrP fO105_0 rfl rfl ?_)
  refine ev_q rfl (q_load tA2 rfl ?_)
  refine ev_q rfl (q_fieldAddrP fO103_0 rfl rfl ?_)
  refine ev_k rfl (k_store sz2 rfl (by conv => lhs; whnf) rfl rfl rfl (Nat.le_of_ble_eq_true rfl) rfl ?_)
  refine ev_nil (hK3 _ ?_); clear hK3
  refine good_seq fun K4 hK4 => ?_
  refine good_region rfl ?_
  refine ev_q rfl (q_fieldAddrP fO105_1 rfl rfl ?_)
  refine ev_q rfl (q_load tA2 rfl ?_)
  refine ev_q rfl (q_fieldAddrP fO103_1 rfl rfl ?_)
  refine ev_k rfl (k_store sz2 rfl (by conv => lhs; whnf) rfl rfl rfl (Nat.le_of_ble_eq_true rfl) rfl ?_)
  refine ev_nil (hK4 _ ?_); clear hK4
  refine good_seq fun K5 hK5 => ?_
  refine good_region rfl ?_
  refine ev_q rfl (q_loadA tA103 rfl rfl rfl ?_)
  refine ev_k rfl (k_store sz103 rfl (by conv => lhs; whnf) rfl rfl rfl (Nat.le_of_ble_eq_true rfl) rfl ?_)
  refine ev_nil (hK5 _ ?_); clear hK5
  refine good_ret ?_
  repeat (first | refine thenQ_ret ?_ | refine blockQ_ret ?_)
  refine ret_cell rfl tA103 rfl rfl rfl ?_
  rfl

-- laws.szStepS
set_option maxRecDepth 20000 in
set_option maxHeartbeats 2000000 in
theorem D_laws_szStepS (xs : List (Int × Int)) (left : Int) (hx : xs.length ≤ 140737488351232) (hl : 0 ≤ left ∧ left ≤ 1152921504606846976) : Den Try.prog 31 [.lst 2 (xs.map stp), .s (.int .i64 left)] (.s (.int .i64 (if left - xs.length < 0 then -1 else left - xs.length))) := by
  refine den_of_good Try.func31 (by decide) rfl (Nat.le_of_ble_eq_true rfl) (Nat.le_of_ble_eq_true rfl) ?_
  refine good_seq fun K1 hK1 => ?_
  refine good_region rfl ?_
  refine ev_q rfl (q_assign (by conv => lhs; whnf) ?_)
  refine ev_nil (hK1 _ ?_); clear hK1
  refine good_seq fun K2 hK2 => ?_
  refine good_region rfl ?_
  refine ev_q rfl (q_move (by conv => lhs; whnf) ?_)
  refine ev_q rfl (q_move (by conv => lhs; whnf) ?_)
  refine ev_q rfl (q_len tEs48 rfl ?_)
  intro n3 hn3
  try simp only [List.length_map] at hn3
  refine ev_q rfl (q_int rfl rfl ?_)
  intro n4 hn4
  replace hn4 := in64 hn4 (by omega) (by omega)
  refine ev_q rfl (q_assign (by conv => lhs; whnf) ?_)
  refine ev_nil (hK2 _ ?_); clear hK2
  refine good_seq fun K5 hK5 => ?_
  refine good_seq fun K6 hK6 => ?_
  refine good_region rfl ?_
  refine ev_q rfl (q_move (by conv => lhs; whnf) ?_)
  refine ev_q rfl (q_int rfl rfl ?_)
  intro b7 hb7; cases b7
  · replace hb7 := dF hb7
    refine ev_nil (hK6 _ ?_); clear hK6
    refine good_condF rfl ?_
    refine good_skip (hK5 _ ?_); clear hK5
    refine good_seq fun K8 hK8 => ?_
    refine good_region rfl ?_
    refine ev_q rfl (q_move (by conv => lhs; whnf) ?_)
    refine ev_q rfl (q_assign (by conv => lhs; whnf) ?_)
    refine ev_nil (hK8 _ ?_); clear hK8
    refine good_ret ?_
    repeat (first | refine thenQ_ret ?_ | refine blockQ_ret ?_)
    refine ret_tmp (st := _) rfl (by conv => lhs; whnf) rfl ?_
    first | rfl | exact fI (by first | omega | grind) | (exfalso; first | omega | grind)
  · replace hb7 := dT hb7
    refine ev_nil (hK6 _ ?_); clear hK6
    refine good_condT rfl ?_
    refine good_seq fun K9 hK9 => ?_
    refine good_region rfl ?_
    refine ev_q rfl (q_assign (by conv => lhs; whnf) ?_)
    refine ev_nil (hK9 _ ?_); clear hK9
    refine good_ret ?_
    repeat (first | refine thenQ_ret ?_ | refine blockQ_ret ?_)
    refine ret_tmp (st := _) rfl (by conv => lhs; whnf) rfl ?_
    clear hK5
    first | rfl | exact fI (by first | omega | grind) | (exfalso; first | omega | grind)

-- laws.toStepS
set_option maxRecDepth 20000 in
set_option maxHeartbeats 2000000 in
theorem D_laws_toStepS_X (xs : List (Int × Int)) (hx : xs.length ≤ 8796093022208) : DenX Try.prog 33 [] [.lst 2 (xs.map stp)] [(7, .row 103 2 (xs.map stp))] (.own 7 xs.length) := by
  refine denX_of_good Try.func33 (by decide) rfl (Nat.le_of_ble_eq_true rfl) (Nat.le_of_ble_eq_true rfl) rfl ?_
  refine good_seq fun K1 hK1 => ?_
  refine good_region rfl ?_
  refine ev_q rfl (q_assign (by conv => lhs; whnf) ?_)
  refine ev_nil (hK1 _ ?_); clear hK1
  refine good_seq fun K2 hK2 => ?_
  refine good_region rfl ?_
  refine ev_q rfl (q_move (by conv => lhs; whnf) ?_)
  refine ev_q rfl (q_len tEs48 rfl ?_)
  intro n3 hn3
  try simp only [List.length_map] at hn3
  refine ev_k rfl (k_make tE50 rfl rfl zA103 tBy103 rfl (by omega) (by omega) (by omega) rfl (by show _ = xs.length; omega) ?_)
  refine ev_q rfl (q_assign (by conv => lhs; whnf) ?_)
  refine ev_nil (hK2 _ ?_); clear hK2
  refine good_seq fun K4 hK4 => ?_
  refine good_seq fun K5 hK5 => ?_
  refine good_region rfl ?_
  refine ev_q rfl (q_assign (by conv => lhs; whnf) ?_)
  refine ev_nil (hK5 _ ?_); clear hK5
  refine good_block ?_
  refine good_loop (α := Nat) (fun i => { env := upd (upd (upd ((fun _ => .junk)) 0 (.lst 2 (xs.map stp))) 3 (.own 7 xs.length)) 4 (.s (.int .i64 i)), H := upd ((fun _ => none)) 7 (some (.row 103 2 (fillC stp zst xs i))) }) (fun i => i ≤ xs.length) (fun i => xs.length - i) 0 ?_ ?_ ?_
  · show 0 ≤ _; omega
  · refine sub_weak ?_ ?_
    · exact weakH_row (rowEq (fill0 rfl)) (weakH_none _)
    · refine weakE_upd ?e4 ?r4 (weakE_upd ?e3 ?r3 (weakE_upd ?e0 ?r0 (weakE_junk _ _)))
      case e0 => first | rfl | exact fI (by omega) | (simp_all)
      case r0 => intro h hh; cases hh
      case e3 => first | rfl | exact fI (by omega) | (simp_all)
      case r3 => intro h hh; simp [refs] at hh; subst hh; rfl
      case e4 => first | rfl | exact fI (by omega) | (simp_all)
      case r4 => intro h hh; cases hh
  · rintro i hI
    refine good_seq fun K6 hK6 => ?_
    refine good_seq fun K7 hK7 => ?_
    refine good_region rfl ?_
    refine ev_q rfl (q_move (by conv => lhs; whnf) ?_)
    refine ev_q rfl (q_move (by conv => lhs; whnf) ?_)
    refine ev_q rfl (q_len tEs48 rfl ?_)
    intro n8 hn8
    try simp only [List.length_map] at hn8
    refine ev_q rfl (q_int rfl rfl ?_)
    intro b9 hb9; cases b9
    · replace hb9 := dF hb9
      refine ev_nil (hK7 _ ?_); clear hK7
      refine good_condF rfl ?_
      refine good_exit ?_
      repeat (first | refine thenQ_exit ?_ | refine blockQ_pass rfl ?_)
      refine blockQ_exit (hK4 _ ?_); clear hK4
      refine good_seq fun K10 hK10 => ?_
      refine good_region rfl ?_
      refine ev_q rfl (q_move (by conv => lhs; whnf) ?_)
      refine ev_q rfl (q_assign (by conv => lhs; whnf) ?_)
      refine ev_nil (hK10 _ ?_); clear hK10
      refine good_ret ?_
      repeat (first | refine thenQ_ret ?_ | refine blockQ_ret ?_)
      refine fx_tmp rfl (by conv => lhs; whnf) ?_
      clear hK6
      exact ⟨_, conv_eq (by first | rfl | (rw [e]; done) | (rw [e]; rfl) | exact ownEq (by first | omega | simp_all)), weakH_row (rowEq (by have e := fillE (f := stp) (z := zst) (xs := xs) (i := i) (by omega) rfl; rw [takeLen (by simp [fillC]; omega)] at e; exact e)) (weakH_none _), refsIn_ok rfl⟩
    · replace hb9 := dT hb9
      obtain ⟨p, hp⟩ := getL (xs := xs) (n := (i : Int)) (by omega) (by omega)
      refine ev_nil (hK7 _ ?_); clear hK7
      refine good_condT rfl ?_
      refine good_skip (hK6 _ ?_); clear hK6
      refine good_seq fun K11 hK11 => ?_
      refine good_block ?_
      refine good_region rfl ?_
      refine ev_q rfl (q_move (by conv => lhs; whnf) ?_)
      refine ev_q rfl (q_move (by conv => lhs; whnf) ?_)
      refine ev_q rfl (q_move (by conv => lhs; whnf) ?_)
      refine ev_q rfl (q_move (by conv => lhs; whnf) ?_)
      refine ev_q rfl (q_idx tE48 rfl rfl (by exact Int.natCast_nonneg _) (by exact map_get hp) rfl ?_)
      refine ev_q rfl (q_loadA tA105 rfl rfl rfl ?_)
      refine ev_q rfl (q_call rfl rfl (rfl) (D_laws_toStep ..) rfl ?_)
      refine ev_q rfl (q_idxO tE50 rfl rfl rfl (by exact Int.natCast_nonneg _) (by omega) rfl ?_)
      refine ev_k rfl (k_storeE sz103 rfl (by conv => lhs; whnf) rfl rfl rfl (Nat.le_of_ble_eq_true rfl) rfl (by exact fillG (by omega)) (Nat.le_of_ble_eq_true rfl) rfl ?_)
      refine ev_nil (hK11 _ ?_); clear hK11
      refine good_region rfl ?_
      refine ev_q rfl (q_move (by conv => lhs; whnf) ?_)
      refine ev_q rfl (q_int rfl rfl ?_)
      intro n12 hn12
      replace hn12 := in64 hn12 (by omega) (by omega)
      refine ev_q rfl (q_assign (by conv => lhs; whnf) ?_)
      refine ev_nil ?_
      clear hK4
      refine ⟨i + 1, ?_, ?_, ?_⟩
      · show _ ≤ _; omega
      · first | omega | (simp only []; omega) | (dsimp only; omega)
      · refine sub_weak ?_ ?_
        · exact weakH_row (rowEq (fillS hp rfl)) (weakH_none _)
        · refine weakE_upd ?e4 ?r4 (weakE_upd ?e3 ?r3 (weakE_upd ?e0 ?r0 (weakE_junk _ _)))
          case e0 => first | rfl | exact fI (by omega) | (simp_all)
          case r0 => intro h hh; cases hh
          case e3 => first | rfl | exact fI (by omega) | (simp_all)
          case r3 => intro h hh; simp [refs] at hh; subst hh; rfl
          case e4 => first | rfl | exact fI (by omega) | (simp_all)
          case r4 => intro h hh; cases hh
theorem D_laws_toStepS (xs : List (Int × Int)) (hx : xs.length ≤ 8796093022208) : Den Try.prog 33 [.lst 2 (xs.map stp)] (.lst 2 (xs.map stp)) :=
  den_of_denX (D_laws_toStepS_X xs hx) (by change (some (.lst 2 (List.take xs.length (xs.map stp))) : Option AV) = some (.lst 2 (xs.map stp)); simp only [takeMap])

-- spec.l03Degrees
set_option maxRecDepth 20000 in
set_option maxHeartbeats 2000000 in
theorem D_spec_l03Degrees (a : Int)  : Den Try.prog 57 [.s (.int .i64 a)] (.s (.bool (decide (-5000 ≤ a ∧ a ≤ 20000)))) := by
  refine den_of_good Try.func57 (by decide) rfl (Nat.le_of_ble_eq_true rfl) (Nat.le_of_ble_eq_true rfl) ?_
  refine good_seq fun K1 hK1 => ?_
  refine good_region rfl ?_
  refine ev_q rfl (q_assign (by conv => lhs; whnf) ?_)
  refine ev_nil (hK1 _ ?_); clear hK1
  refine good_seq fun K2 hK2 => ?_
  refine good_region rfl ?_
  refine ev_q rfl (q_move (by conv => lhs; whnf) ?_)
  refine ev_q rfl (q_callB rfl rfl (rfl) (D_spec_l00In ..) ?_)
  intro b3 hb3; cases b3
  · first | replace hb3 := dF hb3 | skip
    refine ev_q rfl (q_assign (by conv => lhs; whnf) ?_)
    refine ev_nil (hK2 _ ?_); clear hK2
    refine good_ret ?_
    repeat (first | refine thenQ_ret ?_ | refine blockQ_ret ?_)
    refine ret_tmp (st := _) rfl (by conv => lhs; whnf) rfl ?_
    first | rfl | exact fT (by first | omega | grind) | exact fF (by first | omega | grind) | exact fT' (by first | omega | grind) | (exfalso; first | omega | grind)
  · first | replace hb3 := dT hb3 | skip
    refine ev_q rfl (q_assign (by conv => lhs; whnf) ?_)
    refine ev_nil (hK2 _ ?_); clear hK2
    refine good_ret ?_
    repeat (first | refine thenQ_ret ?_ | refine blockQ_ret ?_)
    refine ret_tmp (st := _) rfl (by conv => lhs; whnf) rfl ?_
    first | rfl | exact fT (by first | omega | grind) | exact fF (by first | omega | grind) | exact fT' (by first | omega | grind) | (exfalso; first | omega | grind)

-- spec.l09Time
set_option maxRecDepth 20000 in
set_option maxHeartbeats 2000000 in
theorem D_spec_l09Time (a : Int)  : Den Try.prog 92 [.s (.int .i64 a)] (.s (.bool (decide (0 ≤ a ∧ a ≤ 1000000)))) := by
  refine den_of_good Try.func92 (by decide) rfl (Nat.le_of_ble_eq_true rfl) (Nat.le_of_ble_eq_true rfl) ?_
  refine good_seq fun K1 hK1 => ?_
  refine good_region rfl ?_
  refine ev_q rfl (q_assign (by conv => lhs; whnf) ?_)
  refine ev_nil (hK1 _ ?_); clear hK1
  refine good_seq fun K2 hK2 => ?_
  refine good_region rfl ?_
  refine ev_q rfl (q_move (by conv => lhs; whnf) ?_)
  refine ev_q rfl (q_callB rfl rfl (rfl) (D_spec_l00In ..) ?_)
  intro b3 hb3; cases b3
  · first | replace hb3 := dF hb3 | skip
    refine ev_q rfl (q_assign (by conv => lhs; whnf) ?_)
    refine ev_nil (hK2 _ ?_); clear hK2
    refine good_ret ?_
    repeat (first | refine thenQ_ret ?_ | refine blockQ_ret ?_)
    refine ret_tmp (st := _) rfl (by conv => lhs; whnf) rfl ?_
    first | rfl | exact fT (by first | omega | grind) | exact fF (by first | omega | grind) | exact fT' (by first | omega | grind) | (exfalso; first | omega | grind)
  · first | replace hb3 := dT hb3 | skip
    refine ev_q rfl (q_assign (by conv => lhs; whnf) ?_)
    refine ev_nil (hK2 _ ?_); clear hK2
    refine good_ret ?_
    repeat (first | refine thenQ_ret ?_ | refine blockQ_ret ?_)
    refine ret_tmp (st := _) rfl (by conv => lhs; whnf) rfl ?_
    first | rfl | exact fT (by first | omega | grind) | exact fF (by first | omega | grind) | exact fT' (by first | omega | grind) | (exfalso; first | omega | grind)

-- impl.timeOk
set_option maxRecDepth 20000 in
set_option maxHeartbeats 2000000 in
theorem D_impl_timeOk (a : Int)  : Den Try.prog 95 [.s (.int .i64 a)] (.s (.bool (decide (0 ≤ a ∧ a ≤ 1000000)))) := by
  refine den_of_good Try.func95 (by decide) rfl (Nat.le_of_ble_eq_true rfl) (Nat.le_of_ble_eq_true rfl) ?_
  refine good_seq fun K1 hK1 => ?_
  refine good_region rfl ?_
  refine ev_q rfl (q_assign (by conv => lhs; whnf) ?_)
  refine ev_nil (hK1 _ ?_); clear hK1
  refine good_seq fun K2 hK2 => ?_
  refine good_region rfl ?_
  refine ev_q rfl (q_move (by conv => lhs; whnf) ?_)
  refine ev_q rfl (q_callB rfl rfl (rfl) (D_impl_within ..) ?_)
  intro b3 hb3; cases b3
  · first | replace hb3 := dF hb3 | skip
    refine ev_q rfl (q_assign (by conv => lhs; whnf) ?_)
    refine ev_nil (hK2 _ ?_); clear hK2
    refine good_ret ?_
    repeat (first | refine thenQ_ret ?_ | refine blockQ_ret ?_)
    refine ret_tmp (st := _) rfl (by conv => lhs; whnf) rfl ?_
    first | rfl | exact fT (by first | omega | grind) | exact fF (by first | omega | grind) | exact fT' (by first | omega | grind) | (exfalso; first | omega | grind)
  · first | replace hb3 := dT hb3 | skip
    refine ev_q rfl (q_assign (by conv => lhs; whnf) ?_)
    refine ev_nil (hK2 _ ?_); clear hK2
    refine good_ret ?_
    repeat (first | refine thenQ_ret ?_ | refine blockQ_ret ?_)
    refine ret_tmp (st := _) rfl (by conv => lhs; whnf) rfl ?_
    first | rfl | exact fT (by first | omega | grind) | exact fF (by first | omega | grind) | exact fT' (by first | omega | grind) | (exfalso; first | omega | grind)

-- impl.degreesOk
set_option maxRecDepth 20000 in
set_option maxHeartbeats 2000000 in
theorem D_impl_degreesOk (a : Int)  : Den Try.prog 61 [.s (.int .i64 a)] (.s (.bool (decide (-5000 ≤ a ∧ a ≤ 20000)))) := by
  refine den_of_good Try.func61 (by decide) rfl (Nat.le_of_ble_eq_true rfl) (Nat.le_of_ble_eq_true rfl) ?_
  refine good_seq fun K1 hK1 => ?_
  refine good_region rfl ?_
  refine ev_q rfl (q_assign (by conv => lhs; whnf) ?_)
  refine ev_nil (hK1 _ ?_); clear hK1
  refine good_seq fun K2 hK2 => ?_
  refine good_region rfl ?_
  refine ev_q rfl (q_move (by conv => lhs; whnf) ?_)
  refine ev_q rfl (q_callB rfl rfl (rfl) (D_impl_within ..) ?_)
  intro b3 hb3; cases b3
  · first | replace hb3 := dF hb3 | skip
    refine ev_q rfl (q_assign (by conv => lhs; whnf) ?_)
    refine ev_nil (hK2 _ ?_); clear hK2
    refine good_ret ?_
    repeat (first | refine thenQ_ret ?_ | refine blockQ_ret ?_)
    refine ret_tmp (st := _) rfl (by conv => lhs; whnf) rfl ?_
    first | rfl | exact fT (by first | omega | grind) | exact fF (by first | omega | grind) | exact fT' (by first | omega | grind) | (exfalso; first | omega | grind)
  · first | replace hb3 := dT hb3 | skip
    refine ev_q rfl (q_assign (by conv => lhs; whnf) ?_)
    refine ev_nil (hK2 _ ?_); clear hK2
    refine good_ret ?_
    repeat (first | refine thenQ_ret ?_ | refine blockQ_ret ?_)
    refine ret_tmp (st := _) rfl (by conv => lhs; whnf) rfl ?_
    first | rfl | exact fT (by first | omega | grind) | exact fF (by first | omega | grind) | exact fT' (by first | omega | grind) | (exfalso; first | omega | grind)

-- spec.l09Ok
set_option maxRecDepth 20000 in
set_option maxHeartbeats 2000000 in
theorem D_spec_l09Ok (xs : List (Int × Int)) (hx : xs.length ≤ 8796093022208) : Den Try.prog 86 [.lst 2 (xs.map stp)] (.s (.bool (decide (waveOk xs)))) := by
  refine den_of_good Try.func86 (by decide) rfl (Nat.le_of_ble_eq_true rfl) (Nat.le_of_ble_eq_true rfl) ?_
  refine good_seq fun K1 hK1 => ?_
  refine good_region rfl ?_
  refine ev_q rfl (q_assign (by conv => lhs; whnf) ?_)
  refine ev_nil (hK1 _ ?_); clear hK1
  refine good_seq fun K2 hK2 => ?_
  refine good_seq fun K3 hK3 => ?_
  refine good_region rfl ?_
  refine ev_q rfl (q_assign (by conv => lhs; whnf) ?_)
  refine ev_nil (hK3 _ ?_); clear hK3
  refine good_block ?_
  refine good_loop (α := Nat) (fun i => { env := upd (upd ((fun _ => .junk)) 0 (.lst 2 (xs.map stp))) 3 (.s (.int .i64 i)), H := fun _ => none }) (fun i => i ≤ xs.length ∧ ∀ j p, j < i → xs[j]? = some p → okAt xs j p) (fun i => xs.length - i) 0 ?_ ?_ ?_
  · exact ⟨by omega, fun j u hj => by omega⟩
  · refine sub_weak ?_ ?_
    · exact weakH_none _
    · refine weakE_upd ?e3 ?r3 (weakE_upd ?e0 ?r0 (weakE_junk _ _))
      case e0 => first | rfl | exact fI (by omega) | (simp_all)
      case r0 => intro h hh; cases hh
      case e3 => first | rfl | exact fI (by omega) | (simp_all)
      case r3 => intro h hh; cases hh
  · rintro i ⟨hI, hJ⟩
    refine good_seq fun K4 hK4 => ?_
    refine good_seq fun K5 hK5 => ?_
    refine good_region rfl ?_
    refine ev_q rfl (q_move (by conv => lhs; whnf) ?_)
    refine ev_q rfl (q_move (by conv => lhs; whnf) ?_)
    refine ev_q rfl (q_len tEs50 rfl ?_)
    intro n6 hn6
    try simp only [List.length_map] at hn6
    refine ev_q rfl (q_int rfl rfl ?_)
    intro b7 hb7; cases b7
    · replace hb7 := dF hb7
      refine ev_nil (hK5 _ ?_); clear hK5
      refine good_condF rfl ?_
      refine good_exit ?_
      repeat (first | refine thenQ_exit ?_ | refine blockQ_pass rfl ?_)
      refine blockQ_exit (hK2 _ ?_); clear hK2
      refine good_seq fun K8 hK8 => ?_
      refine good_region rfl ?_
      refine ev_q rfl (q_move (by conv => lhs; whnf) ?_)
      refine ev_q rfl (q_len tEs50 rfl ?_)
      intro n9 hn9
      try simp only [List.length_map] at hn9
      refine ev_q rfl (q_callB rfl rfl (rfl) (D_spec_l00In ..) ?_)
      intro b10 hb10; cases b10
      · first | replace hb10 := dF hb10 | skip
        refine ev_q rfl (q_assign (by conv => lhs; whnf) ?_)
        refine ev_nil (hK8 _ ?_); clear hK8
        refine good_ret ?_
        repeat (first | refine thenQ_ret ?_ | refine blockQ_ret ?_)
        refine ret_tmp (st := _) rfl (by conv => lhs; whnf) rfl ?_
        clear hK4
        first | exact fT ((wave_iff (all_fin hJ (by omega))).1 (by omega)) | exact fF (fun h => absurd ((wave_iff (all_fin hJ (by omega))).2 h) (by omega)) | exact fF (wave_no hp (by simp only [okAt]; grind))
      · first | replace hb10 := dT hb10 | skip
        refine ev_q rfl (q_assign (by conv => lhs; whnf) ?_)
        refine ev_nil (hK8 _ ?_); clear hK8
        refine good_ret ?_
        repeat (first | refine thenQ_ret ?_ | refine blockQ_ret ?_)
        refine ret_tmp (st := _) rfl (by conv => lhs; whnf) rfl ?_
        clear hK4
        first | exact fT ((wave_iff (all_fin hJ (by omega))).1 (by omega)) | exact fF (fun h => absurd ((wave_iff (all_fin hJ (by omega))).2 h) (by omega)) | exact fF (wave_no hp (by simp only [okAt]; grind))
    · replace hb7 := dT hb7
      obtain ⟨p, hp⟩ := getL (xs := xs) (n := (i : Int)) (by omega) (by omega)
      replace hp : xs[i]? = some p := hp
      refine ev_nil (hK5 _ ?_); clear hK5
      refine good_condT rfl ?_
      refine good_skip (hK4 _ ?_); clear hK4
      refine good_seq fun K11 hK11 => ?_
      refine good_block ?_
      refine good_seq fun K12 hK12 => ?_
      refine good_draw 46 hmix (by kernel_rfl) rfl ?_
      refine qo_q rfl (q_move (by conv => lhs; whnf) ?_)
      refine qo_q rfl (q_move (by conv => lhs; whnf) ?_)
      refine qo_q rfl (q_idx tE50 rfl rfl (by exact Int.natCast_nonneg _) (by exact map_get hp) rfl ?_)
      refine qo_q rfl (q_fieldAddr fO103_0 rfl rfl ?_)
      refine qo_q rfl (q_load tA2 rfl ?_)
      refine qo_q rfl (q_callB rfl rfl (rfl) (D_spec_l09Time ..) ?_)
      intro b13 hb13; cases b13
      · first | replace hb13 := dF hb13 | skip
        refine qo_q rfl (q_not rfl rfl ?_)
        refine qo_q rfl (q_move (by conv => lhs; whnf) ?_)
        refine qo_skip rfl ?_
        refine qo_skip rfl ?_
        refine qo_skip rfl ?_
        refine qo_skip rfl ?_
        refine qo_skip rfl ?_
        refine qo_skip rfl ?_
        refine qo_skip rfl ?_
        refine qo_q rfl (q_pickT rfl (by conv => lhs; whnf) ?_)
        refine qo_q rfl (q_move (by conv => lhs; whnf) ?_)
        refine qo_skip rfl ?_
        refine qo_skip rfl ?_
        refine qo_skip rfl ?_
        refine qo_skip rfl ?_
        refine qo_skip rfl ?_
        refine qo_skip rfl ?_
        refine qo_skip rfl ?_
        refine qo_skip rfl ?_
        refine qo_skip rfl ?_
        refine qo_skip rfl ?_
        refine qo_q rfl (q_pickT rfl (by conv => lhs; whnf) ?_)
        refine qo_q rfl (q_move (by conv => lhs; whnf) ?_)
        refine qo_skip rfl ?_
        refine qo_skip rfl ?_
        refine qo_skip rfl ?_
        refine qo_skip rfl ?_
        refine qo_skip rfl ?_
        refine qo_skip rfl ?_
        refine qo_skip rfl ?_
        refine qo_skip rfl ?_
        refine qo_skip rfl ?_
        refine qo_skip rfl ?_
        refine qo_skip rfl ?_
        refine qo_skip rfl ?_
        refine qo_skip rfl ?_
        refine qo_skip rfl ?_
        refine qo_skip rfl ?_
        refine qo_skip rfl ?_
        refine qo_q rfl (q_pickT rfl (by conv => lhs; whnf) ?_)
        refine qo_nil ?_
        refine ev_nil (hK12 _ ?_); clear hK12
        refine good_condT rfl ?_
        refine good_seq fun K14 hK14 => ?_
        refine good_region rfl ?_
        refine ev_q rfl (q_assign (by conv => lhs; whnf) ?_)
        refine ev_nil (hK14 _ ?_); clear hK14
        refine good_ret ?_
        repeat (first | refine thenQ_ret ?_ | refine blockQ_ret ?_)
        refine ret_tmp (st := _) rfl (by conv => lhs; whnf) rfl ?_
        clear hK2 hK11
        first | exact fT ((wave_iff (all_fin hJ (by omega))).1 (by omega)) | exact fF (fun h => absurd ((wave_iff (all_fin hJ (by omega))).2 h) (by omega)) | exact fF (wave_no hp (by simp only [okAt]; grind))
      · first | replace hb13 := dT hb13 | skip
        refine qo_q rfl (q_not rfl rfl ?_)
        refine qo_q rfl (q_move (by conv => lhs; whnf) ?_)
        refine qo_q rfl (q_move (by conv => lhs; whnf) ?_)
        refine qo_q rfl (q_move (by conv => lhs; whnf) ?_)
        refine qo_q rfl (q_idx tE50 rfl rfl (by exact Int.natCast_nonneg _) (by exact map_get hp) rfl ?_)
        refine qo_q rfl (q_fieldAddr fO103_1 rfl rfl ?_)
        refine qo_q rfl (q_load tA2 rfl ?_)
        refine qo_q rfl (q_callB rfl rfl (rfl) (D_spec_l03Degrees ..) ?_)
        intro b15 hb15; cases b15
        · first | replace hb15 := dF hb15 | skip
          refine qo_q rfl (q_not rfl rfl ?_)
          refine qo_q rfl (q_pickF rfl (by conv => lhs; whnf) ?_)
          refine qo_q rfl (q_move (by conv => lhs; whnf) ?_)
          refine qo_skip rfl ?_
          refine qo_skip rfl ?_
          refine qo_skip rfl ?_
          refine qo_skip rfl ?_
          refine qo_skip rfl ?_
          refine qo_skip rfl ?_
          refine qo_skip rfl ?_
          refine qo_skip rfl ?_
          refine qo_skip rfl ?_
          refine qo_skip rfl ?_
          refine qo_q rfl (q_pickT rfl (by conv => lhs; whnf) ?_)
          refine qo_q rfl (q_move (by conv => lhs; whnf) ?_)
          refine qo_skip rfl ?_
          refine qo_skip rfl ?_
          refine qo_skip rfl ?_
          refine qo_skip rfl ?_
          refine qo_skip rfl ?_
          refine qo_skip rfl ?_
          refine qo_skip rfl ?_
          refine qo_skip rfl ?_
          refine qo_skip rfl ?_
          refine qo_skip rfl ?_
          refine qo_skip rfl ?_
          refine qo_skip rfl ?_
          refine qo_skip rfl ?_
          refine qo_skip rfl ?_
          refine qo_skip rfl ?_
          refine qo_skip rfl ?_
          refine qo_q rfl (q_pickT rfl (by conv => lhs; whnf) ?_)
          refine qo_nil ?_
          refine ev_nil (hK12 _ ?_); clear hK12
          refine good_condT rfl ?_
          refine good_seq fun K16 hK16 => ?_
          refine good_region rfl ?_
          refine ev_q rfl (q_assign (by conv => lhs; whnf) ?_)
          refine ev_nil (hK16 _ ?_); clear hK16
          refine good_ret ?_
          repeat (first | refine thenQ_ret ?_ | refine blockQ_ret ?_)
          refine ret_tmp (st := _) rfl (by conv => lhs; whnf) rfl ?_
          clear hK2 hK11
          first | exact fT ((wave_iff (all_fin hJ (by omega))).1 (by omega)) | exact fF (fun h => absurd ((wave_iff (all_fin hJ (by omega))).2 h) (by omega)) | exact fF (wave_no hp (by simp only [okAt]; grind))
        · first | replace hb15 := dT hb15 | skip
          refine qo_q rfl (q_not rfl rfl ?_)
          refine qo_q rfl (q_pickF rfl (by conv => lhs; whnf) ?_)
          refine qo_q rfl (q_move (by conv => lhs; whnf) ?_)
          refine qo_q rfl (q_move (by conv => lhs; whnf) ?_)
          refine qo_q rfl (q_int rfl rfl ?_)
          intro b17 hb17; cases b17
          · replace hb17 := eqF hb17
            refine qo_q rfl (q_move (by conv => lhs; whnf) ?_)
            refine qo_skip rfl ?_
            refine qo_skip rfl ?_
            refine qo_skip rfl ?_
            refine qo_skip rfl ?_
            refine qo_skip rfl ?_
            refine qo_skip rfl ?_
            refine qo_q rfl (q_pickF rfl (by conv => lhs; whnf) ?_)
            refine qo_q rfl (q_pickF rfl (by conv => lhs; whnf) ?_)
            refine qo_q rfl (q_move (by conv => lhs; whnf) ?_)
            refine qo_q rfl (q_move (by conv => lhs; whnf) ?_)
            refine qo_q rfl (q_int rfl rfl ?_)
            intro b18 hb18; cases b18
            · replace hb18 := dF hb18
              refine qo_q rfl (q_move (by conv => lhs; whnf) ?_)
              refine qo_skip rfl ?_
              refine qo_skip rfl ?_
              refine qo_skip rfl ?_
              refine qo_skip rfl ?_
              refine qo_skip rfl ?_
              refine qo_skip rfl ?_
              refine qo_skip rfl ?_
              refine qo_skip rfl ?_
              refine qo_skip rfl ?_
              refine qo_skip rfl ?_
              refine qo_skip rfl ?_
              refine qo_skip rfl ?_
              refine qo_q rfl (q_pickF rfl (by conv => lhs; whnf) ?_)
              refine qo_q rfl (q_pickF rfl (by conv => lhs; whnf) ?_)
              refine qo_nil ?_
              refine ev_nil (hK12 _ ?_); clear hK12
              refine good_condF rfl ?_
              refine good_skip (hK11 _ ?_); clear hK11
              refine good_region rfl ?_
              refine ev_q rfl (q_move (by conv => lhs; whnf) ?_)
              refine ev_q rfl (q_int rfl rfl ?_)
              intro n19 hn19
              replace hn19 := in64 hn19 (by omega) (by omega)
              refine ev_q rfl (q_assign (by conv => lhs; whnf) ?_)
              refine ev_nil ?_
              clear hK2
              refine ⟨i + 1, ?_, ?_, ?_⟩
              · refine ⟨by omega, all_ext hJ hp ?_⟩
                refine ⟨by omega, by omega, by intro hz; grind, fun z hz0 hz => ?_⟩
                grind
              · first | omega | (simp only []; omega) | (dsimp only; omega)
              · refine sub_weak ?_ ?_
                · exact weakH_none _
                · refine weakE_upd ?e3 ?r3 (weakE_upd ?e0 ?r0 (weakE_junk _ _))
                  case e0 => first | rfl | exact fI (by omega) | (simp_all)
                  case r0 => intro h hh; cases hh
                  case e3 => first | rfl | exact fI (by omega) | (simp_all)
                  case r3 => intro h hh; cases hh
            · replace hb18 := dT hb18
              refine qo_q rfl (q_move (by conv => lhs; whnf) ?_)
              refine qo_q rfl (q_move (by conv => lhs; whnf) ?_)
              refine qo_q rfl (q_move (by conv => lhs; whnf) ?_)
              refine qo_q rfl (q_int rfl rfl ?_)
              intro n20 hn20
              replace hn20 := in64 hn20 (by omega) (by omega)
              obtain ⟨q, hq⟩ := getL (xs := xs) (n := n20) (by omega) (by omega)
              refine qo_q rfl (q_idx tE50 rfl rfl (by omega) (by exact map_get hq) rfl ?_)
              refine qo_q rfl (q_fieldAddr fO103_0 rfl rfl ?_)
              refine qo_q rfl (q_load tA2 rfl ?_)
              refine qo_q rfl (q_move (by conv => lhs; whnf) ?_)
              refine qo_q rfl (q_move (by conv => lhs; whnf) ?_)
              refine qo_q rfl (q_idx tE50 rfl rfl (by exact Int.natCast_nonneg _) (by exact map_get hp) rfl ?_)
              refine qo_q rfl (q_fieldAddr fO103_0 rfl rfl ?_)
              refine qo_q rfl (q_load tA2 rfl ?_)
              refine qo_q rfl (q_int rfl rfl ?_)
              intro b21 hb21; cases b21
              · replace hb21 := dF hb21
                refine qo_q rfl (q_pickT rfl (by conv => lhs; whnf) ?_)
                refine qo_q rfl (q_pickF rfl (by conv => lhs; whnf) ?_)
                refine qo_nil ?_
                refine ev_nil (hK12 _ ?_); clear hK12
                refine good_condF rfl ?_
                refine good_skip (hK11 _ ?_); clear hK11
                refine good_region rfl ?_
                refine ev_q rfl (q_move (by conv => lhs; whnf) ?_)
                refine ev_q rfl (q_int rfl rfl ?_)
                intro n22 hn22
                replace hn22 := in64 hn22 (by omega) (by omega)
                refine ev_q rfl (q_assign (by conv => lhs; whnf) ?_)
                refine ev_nil ?_
                clear hK2
                refine ⟨i + 1, ?_, ?_, ?_⟩
                · refine ⟨by omega, all_ext hJ hp ?_⟩
                  refine ⟨by omega, by omega, by intro hz; grind, fun z hz0 hz => ?_⟩
                  grind
                · first | omega | (simp only []; omega) | (dsimp only; omega)
                · refine sub_weak ?_ ?_
                  · exact weakH_none _
                  · refine weakE_upd ?e3 ?r3 (weakE_upd ?e0 ?r0 (weakE_junk _ _))
                    case e0 => first | rfl | exact fI (by omega) | (simp_all)
                    case r0 => intro h hh; cases hh
                    case e3 => first | rfl | exact fI (by omega) | (simp_all)
                    case r3 => intro h hh; cases hh
              · replace hb21 := dT hb21
                refine qo_q rfl (q_pickT rfl (by conv => lhs; whnf) ?_)
                refine qo_q rfl (q_pickF rfl (by conv => lhs; whnf) ?_)
                refine qo_nil ?_
                refine ev_nil (hK12 _ ?_); clear hK12
                refine good_condT rfl ?_
                refine good_seq fun K23 hK23 => ?_
                refine good_region rfl ?_
                refine ev_q rfl (q_assign (by conv => lhs; whnf) ?_)
                refine ev_nil (hK23 _ ?_); clear hK23
                refine good_ret ?_
                repeat (first | refine thenQ_ret ?_ | refine blockQ_ret ?_)
                refine ret_tmp (st := _) rfl (by conv => lhs; whnf) rfl ?_
                clear hK2 hK11
                first | exact fT ((wave_iff (all_fin hJ (by omega))).1 (by omega)) | exact fF (fun h => absurd ((wave_iff (all_fin hJ (by omega))).2 h) (by omega)) | exact fF (wave_no hp (by simp only [okAt]; grind))
          · replace hb17 := eqT hb17
            refine qo_q rfl (q_move (by conv => lhs; whnf) ?_)
            refine qo_q rfl (q_move (by conv => lhs; whnf) ?_)
            refine qo_q rfl (q_move (by conv => lhs; whnf) ?_)
            refine qo_q rfl (q_idx tE50 rfl rfl (by exact Int.natCast_nonneg _) (by exact map_get hp) rfl ?_)
            refine qo_q rfl (q_fieldAddr fO103_0 rfl rfl ?_)
            refine qo_q rfl (q_load tA2 rfl ?_)
            refine qo_q rfl (q_int rfl rfl ?_)
            intro b24 hb24; cases b24
            · replace hb24 := neF hb24
              refine qo_q rfl (q_pickT rfl (by conv => lhs; whnf) ?_)
              refine qo_q rfl (q_pickF rfl (by conv => lhs; whnf) ?_)
              refine qo_q rfl (q_move (by conv => lhs; whnf) ?_)
              refine qo_q rfl (q_move (by conv => lhs; whnf) ?_)
              refine qo_q rfl (q_int rfl rfl ?_)
              intro b25 hb25; cases b25
              · replace hb25 := dF hb25
                refine qo_q rfl (q_move (by conv => lhs; whnf) ?_)
                refine qo_skip rfl ?_
                refine qo_skip rfl ?_
                refine qo_skip rfl ?_
                refine qo_skip rfl ?_
                refine qo_skip rfl ?_
                refine qo_skip rfl ?_
                refine qo_skip rfl ?_
                refine qo_skip rfl ?_
                refine qo_skip rfl ?_
                refine qo_skip rfl ?_
                refine qo_skip rfl ?_
                refine qo_skip rfl ?_
                refine qo_q rfl (q_pickF rfl (by conv => lhs; whnf) ?_)
                refine qo_q rfl (q_pickF rfl (by conv => lhs; whnf) ?_)
                refine qo_nil ?_
                refine ev_nil (hK12 _ ?_); clear hK12
                refine good_condF rfl ?_
                refine good_skip (hK11 _ ?_); clear hK11
                refine good_region rfl ?_
                refine ev_q rfl (q_move (by conv => lhs; whnf) ?_)
                refine ev_q rfl (q_int rfl rfl ?_)
                intro n26 hn26
                replace hn26 := in64 hn26 (by omega) (by omega)
                refine ev_q rfl (q_assign (by conv => lhs; whnf) ?_)
                refine ev_nil ?_
                clear hK2
                refine ⟨i + 1, ?_, ?_, ?_⟩
                · refine ⟨by omega, all_ext hJ hp ?_⟩
                  refine ⟨by omega, by omega, by intro hz; grind, fun z hz0 hz => ?_⟩
                  grind
                · first | omega | (simp only []; omega) | (dsimp only; omega)
                · refine sub_weak ?_ ?_
                  · exact weakH_none _
                  · refine weakE_upd ?e3 ?r3 (weakE_upd ?e0 ?r0 (weakE_junk _ _))
                    case e0 => first | rfl | exact fI (by omega) | (simp_all)
                    case r0 => intro h hh; cases hh
                    case e3 => first | rfl | exact fI (by omega) | (simp_all)
                    case r3 => intro h hh; cases hh
              · replace hb25 := dT hb25
                refine qo_q rfl (q_move (by conv => lhs; whnf) ?_)
                refine qo_q rfl (q_move (by conv => lhs; whnf) ?_)
                refine qo_q rfl (q_move (by conv => lhs; whnf) ?_)
                refine qo_q rfl (q_int rfl rfl ?_)
                intro n27 hn27
                replace hn27 := in64 hn27 (by omega) (by omega)
                obtain ⟨q, hq⟩ := getL (xs := xs) (n := n27) (by omega) (by omega)
                refine qo_q rfl (q_idx tE50 rfl rfl (by omega) (by exact map_get hq) rfl ?_)
                refine qo_q rfl (q_fieldAddr fO103_0 rfl rfl ?_)
                refine qo_q rfl (q_load tA2 rfl ?_)
                refine qo_q rfl (q_move (by conv => lhs; whnf) ?_)
                refine qo_q rfl (q_move (by conv => lhs; whnf) ?_)
                refine qo_q rfl (q_idx tE50 rfl rfl (by exact Int.natCast_nonneg _) (by exact map_get hp) rfl ?_)
                refine qo_q rfl (q_fieldAddr fO103_0 rfl rfl ?_)
                refine qo_q rfl (q_load tA2 rfl ?_)
                refine qo_q rfl (q_int rfl rfl ?_)
                intro b28 hb28; cases b28
                · replace hb28 := dF hb28
                  refine qo_q rfl (q_pickT rfl (by conv => lhs; whnf) ?_)
                  refine qo_q rfl (q_pickF rfl (by conv => lhs; whnf) ?_)
                  refine qo_nil ?_
                  refine ev_nil (hK12 _ ?_); clear hK12
                  refine good_condF rfl ?_
                  refine good_skip (hK11 _ ?_); clear hK11
                  refine good_region rfl ?_
                  refine ev_q rfl (q_move (by conv => lhs; whnf) ?_)
                  refine ev_q rfl (q_int rfl rfl ?_)
                  intro n29 hn29
                  replace hn29 := in64 hn29 (by omega) (by omega)
                  refine ev_q rfl (q_assign (by conv => lhs; whnf) ?_)
                  refine ev_nil ?_
                  clear hK2
                  refine ⟨i + 1, ?_, ?_, ?_⟩
                  · refine ⟨by omega, all_ext hJ hp ?_⟩
                    refine ⟨by omega, by omega, by intro hz; grind, fun z hz0 hz => ?_⟩
                    grind
                  · first | omega | (simp only []; omega) | (dsimp only; omega)
                  · refine sub_weak ?_ ?_
                    · exact weakH_none _
                    · refine weakE_upd ?e3 ?r3 (weakE_upd ?e0 ?r0 (weakE_junk _ _))
                      case e0 => first | rfl | exact fI (by omega) | (simp_all)
                      case r0 => intro h hh; cases hh
                      case e3 => first | rfl | exact fI (by omega) | (simp_all)
                      case r3 => intro h hh; cases hh
                · replace hb28 := dT hb28
                  refine qo_q rfl (q_pickT rfl (by conv => lhs; whnf) ?_)
                  refine qo_q rfl (q_pickF rfl (by conv => lhs; whnf) ?_)
                  refine qo_nil ?_
                  refine ev_nil (hK12 _ ?_); clear hK12
                  refine good_condT rfl ?_
                  refine good_seq fun K30 hK30 => ?_
                  refine good_region rfl ?_
                  refine ev_q rfl (q_assign (by conv => lhs; whnf) ?_)
                  refine ev_nil (hK30 _ ?_); clear hK30
                  refine good_ret ?_
                  repeat (first | refine thenQ_ret ?_ | refine blockQ_ret ?_)
                  refine ret_tmp (st := _) rfl (by conv => lhs; whnf) rfl ?_
                  clear hK2 hK11
                  first | exact fT ((wave_iff (all_fin hJ (by omega))).1 (by omega)) | exact fF (fun h => absurd ((wave_iff (all_fin hJ (by omega))).2 h) (by omega)) | exact fF (wave_no hp (by simp only [okAt]; grind))
            · replace hb24 := neT hb24
              refine qo_q rfl (q_pickT rfl (by conv => lhs; whnf) ?_)
              refine qo_q rfl (q_pickF rfl (by conv => lhs; whnf) ?_)
              refine qo_q rfl (q_move (by conv => lhs; whnf) ?_)
              refine qo_skip rfl ?_
              refine qo_skip rfl ?_
              refine qo_skip rfl ?_
              refine qo_skip rfl ?_
              refine qo_skip rfl ?_
              refine qo_skip rfl ?_
              refine qo_skip rfl ?_
              refine qo_skip rfl ?_
              refine qo_skip rfl ?_
              refine qo_skip rfl ?_
              refine qo_skip rfl ?_
              refine qo_skip rfl ?_
              refine qo_skip rfl ?_
              refine qo_skip rfl ?_
              refine qo_skip rfl ?_
              refine qo_skip rfl ?_
              refine qo_q rfl (q_pickT rfl (by conv => lhs; whnf) ?_)
              refine qo_nil ?_
              refine ev_nil (hK12 _ ?_); clear hK12
              refine good_condT rfl ?_
              refine good_seq fun K31 hK31 => ?_
              refine good_region rfl ?_
              refine ev_q rfl (q_assign (by conv => lhs; whnf) ?_)
              refine ev_nil (hK31 _ ?_); clear hK31
              refine good_ret ?_
              repeat (first | refine thenQ_ret ?_ | refine blockQ_ret ?_)
              refine ret_tmp (st := _) rfl (by conv => lhs; whnf) rfl ?_
              clear hK2 hK11
              first | exact fT ((wave_iff (all_fin hJ (by omega))).1 (by omega)) | exact fF (fun h => absurd ((wave_iff (all_fin hJ (by omega))).2 h) (by omega)) | exact fF (wave_no hp (by simp only [okAt]; grind))

-- impl.ValidWave
set_option maxRecDepth 20000 in
set_option maxHeartbeats 2000000 in
theorem D_impl_ValidWave (xs : List (Int × Int)) (hx : xs.length ≤ 8796093022208) : Den Try.prog 89 [.lst 2 (xs.map stp)] (.s (.bool (decide (waveOk xs)))) := by
  refine den_of_good Try.func89 (by decide) rfl (Nat.le_of_ble_eq_true rfl) (Nat.le_of_ble_eq_true rfl) ?_
  refine good_seq fun K1 hK1 => ?_
  refine good_region rfl ?_
  refine ev_q rfl (q_assign (by conv => lhs; whnf) ?_)
  refine ev_nil (hK1 _ ?_); clear hK1
  refine good_seq fun K2 hK2 => ?_
  refine good_seq fun K3 hK3 => ?_
  refine good_region rfl ?_
  refine ev_q rfl (q_move (by conv => lhs; whnf) ?_)
  refine ev_q rfl (q_len tEs50 rfl ?_)
  intro n4 hn4
  try simp only [List.length_map] at hn4
  refine ev_q rfl (q_int rfl rfl ?_)
  intro b5 hb5; cases b5
  · replace hb5 := dF hb5
    refine ev_q rfl (q_move (by conv => lhs; whnf) ?_)
    refine ev_q rfl (q_move (by conv => lhs; whnf) ?_)
    refine ev_q rfl (q_len tEs50 rfl ?_)
    intro n6 hn6
    try simp only [List.length_map] at hn6
    refine ev_q rfl (q_int rfl rfl ?_)
    intro b7 hb7; cases b7
    · replace hb7 := dF hb7
      refine ev_q rfl (q_pickF rfl (by conv => lhs; whnf) ?_)
      refine ev_q rfl (q_move (by conv => lhs; whnf) ?_)
      refine ev_q rfl (q_move (by conv => lhs; whnf) ?_)
      obtain ⟨p0, hp0⟩ := getL (xs := xs) (n := 0) (by omega) (by omega)
      refine ev_q rfl (q_idx tE50 rfl rfl (by decide) (by exact map_get hp0) rfl ?_)
      refine ev_q rfl (q_fieldAddr fO103_0 rfl rfl ?_)
      refine ev_q rfl (q_load tA2 rfl ?_)
      refine ev_q rfl (q_int rfl rfl ?_)
      intro b8 hb8; cases b8
      · replace hb8 := neF hb8
        refine ev_q rfl (q_pickF rfl (by conv => lhs; whnf) ?_)
        refine ev_nil (hK3 _ ?_); clear hK3
        refine good_condF rfl ?_
        refine good_skip (hK2 _ ?_); clear hK2
        refine good_seq fun K9 hK9 => ?_
        refine good_seq fun K10 hK10 => ?_
        refine good_region rfl ?_
        refine ev_q rfl (q_move (by conv => lhs; whnf) ?_)
        refine ev_q rfl (q_len tEs50 rfl ?_)
        intro n11 hn11
        try simp only [List.length_map] at hn11
        refine ev_q rfl (q_move (by conv => lhs; whnf) ?_)
        refine ev_nil (hK10 _ ?_); clear hK10
        refine good_block ?_
        refine good_loop (α := Nat) (fun i => { env := upd (upd (upd (upd ((fun _ => .junk)) 0 (.lst 2 (xs.map stp))) 20 (.lst 2 (xs.map stp))) 21 (.s (.int .i64 ((xs.length : Int))))) 22 (.s (.int .i64 i)), H := fun _ => none }) (fun i => i ≤ xs.length ∧ ∀ j p, j < i → xs[j]? = some p → okAt xs j p) (fun i => xs.length - i) 0 ?_ ?_ ?_
        · exact ⟨by omega, fun j u hj => by omega⟩
        · refine sub_weak ?_ ?_
          · exact weakH_none _
          · refine weakE_upd ?e22 ?r22 (weakE_upd ?e21 ?r21 (weakE_upd ?e20 ?r20 (weakE_upd ?e0 ?r0 (weakE_junk _ _))))
            case e0 => first | rfl | exact fI (by omega) | (simp_all)
            case r0 => intro h hh; cases hh
            case e20 => first | rfl | exact fI (by omega) | (simp_all)
            case r20 => intro h hh; cases hh
            case e21 => first | rfl | exact fI (by omega) | (simp_all)
            case r21 => intro h hh; cases hh
            case e22 => first | rfl | exact fI (by omega) | (simp_all)
            case r22 => intro h hh; cases hh
        · rintro i ⟨hI, hJ⟩
          refine good_seq fun K12 hK12 => ?_
          refine good_region rfl ?_
          refine ev_q rfl (q_int rfl rfl ?_)
          intro b13 hb13; cases b13
          · replace hb13 := dF hb13
            refine ev_nil (hK12 _ ?_); clear hK12
            refine good_seq fun K14 hK14 => ?_
            refine good_condF rfl ?_
            refine good_exit ?_
            repeat (first | refine thenQ_exit ?_ | refine blockQ_pass rfl ?_)
            refine blockQ_exit (hK9 _ ?_); clear hK9
            refine good_seq fun K15 hK15 => ?_
            refine good_region rfl ?_
            refine ev_q rfl (q_assign (by conv => lhs; whnf) ?_)
            refine ev_nil (hK15 _ ?_); clear hK15
            refine good_ret ?_
            repeat (first | refine thenQ_ret ?_ | refine blockQ_ret ?_)
            refine ret_tmp (st := _) rfl (by conv => lhs; whnf) rfl ?_
            clear hK14
            first | exact fT ((wave_iff (all_fin hJ (by omega))).1 (by omega)) | exact fF (fun h => by have := h.1; omega) | exact fF (wave_no hp (by simp only [okAt]; grind)) | exact fF (wave_no hp0 (by simp only [okAt]; grind))
          · replace hb13 := dT hb13
            obtain ⟨p, hp⟩ := getL (xs := xs) (n := (i : Int)) (by omega) (by omega)
            replace hp : xs[i]? = some p := hp
            refine ev_nil (hK12 _ ?_); clear hK12
            refine good_seq fun K16 hK16 => ?_
            refine good_condT rfl ?_
            refine good_skip (hK16 _ ?_); clear hK16
            refine good_seq fun K17 hK17 => ?_
            refine good_block ?_
            refine good_seq fun K18 hK18 => ?_
            refine good_region rfl ?_
            refine ev_q rfl (q_move (by conv => lhs; whnf) ?_)
            refine ev_q rfl (q_idx tE50 rfl rfl (by exact Int.natCast_nonneg _) (by exact map_get hp) rfl ?_)
            refine ev_q rfl (q_loadA tA103 rfl rfl rfl ?_)
            refine ev_k rfl (k_alloc zA103 rfl ?_)
            refine ev_q rfl (q_assign (by conv => lhs; whnf) ?_)
            refine ev_k rfl (k_store sz103 rfl (by conv => lhs; whnf) rfl rfl rfl (Nat.le_of_ble_eq_true rfl) rfl ?_)
            refine ev_nil (hK18 _ ?_); clear hK18
            refine good_seq fun K19 hK19 => ?_
            refine good_draw 25 hmix (by kernel_rfl) rfl ?_
            refine qo_q rfl (q_fieldAddrP fO103_0 rfl rfl ?_)
            refine qo_q rfl (q_load tA2 rfl ?_)
            refine qo_q rfl (q_callB rfl rfl (rfl) (D_impl_timeOk ..) ?_)
            intro b20 hb20; cases b20
            · first | replace hb20 := dF hb20 | skip
              refine qo_q rfl (q_not rfl rfl ?_)
              refine qo_q rfl (q_move (by conv => lhs; whnf) ?_)
              refine qo_skip rfl ?_
              refine qo_skip rfl ?_
              refine qo_skip rfl ?_
              refine qo_skip rfl ?_
              refine qo_q rfl (q_pickT rfl (by conv => lhs; whnf) ?_)
              refine qo_q rfl (q_move (by conv => lhs; whnf) ?_)
              refine qo_skip rfl ?_
              refine qo_skip rfl ?_
              refine qo_skip rfl ?_
              refine qo_skip rfl ?_
              refine qo_skip rfl ?_
              refine qo_skip rfl ?_
              refine qo_skip rfl ?_
              refine qo_skip rfl ?_
              refine qo_skip rfl ?_
              refine qo_skip rfl ?_
              refine qo_skip rfl ?_
              refine qo_skip rfl ?_
              refine qo_skip rfl ?_
              refine qo_q rfl (q_pickT rfl (by conv => lhs; whnf) ?_)
              refine qo_nil ?_
              refine ev_nil (hK19 _ ?_); clear hK19
              refine good_condT rfl ?_
              refine good_seq fun K21 hK21 => ?_
              refine good_region rfl ?_
              refine ev_q rfl (q_assign (by conv => lhs; whnf) ?_)
              refine ev_nil (hK21 _ ?_); clear hK21
              refine good_ret ?_
              repeat (first | refine thenQ_ret ?_ | refine blockQ_ret ?_)
              refine ret_tmp (st := _) rfl (by conv => lhs; whnf) rfl ?_
              clear hK9 hK17
              first | exact fT ((wave_iff (all_fin hJ (by omega))).1 (by omega)) | exact fF (fun h => by have := h.1; omega) | exact fF (wave_no hp (by simp only [okAt]; grind)) | exact fF (wave_no hp0 (by simp only [okAt]; grind))
            · first | replace hb20 := dT hb20 | skip
              refine qo_q rfl (q_not rfl rfl ?_)
              refine qo_q rfl (q_move (by conv => lhs; whnf) ?_)
              refine qo_q rfl (q_fieldAddrP fO103_1 rfl rfl ?_)
              refine qo_q rfl (q_load tA2 rfl ?_)
              refine qo_q rfl (q_callB rfl rfl (rfl) (D_impl_degreesOk ..) ?_)
              intro b22 hb22; cases b22
              · first | replace hb22 := dF hb22 | skip
                refine qo_q rfl (q_not rfl rfl ?_)
                refine qo_q rfl (q_pickF rfl (by conv => lhs; whnf) ?_)
                refine qo_q rfl (q_move (by conv => lhs; whnf) ?_)
                refine qo_skip rfl ?_
                refine qo_skip rfl ?_
                refine qo_skip rfl ?_
                refine qo_skip rfl ?_
                refine qo_skip rfl ?_
                refine qo_skip rfl ?_
                refine qo_skip rfl ?_
                refine qo_skip rfl ?_
                refine qo_skip rfl ?_
                refine qo_skip rfl ?_
                refine qo_skip rfl ?_
                refine qo_skip rfl ?_
                refine qo_skip rfl ?_
                refine qo_q rfl (q_pickT rfl (by conv => lhs; whnf) ?_)
                refine qo_nil ?_
                refine ev_nil (hK19 _ ?_); clear hK19
                refine good_condT rfl ?_
                refine good_seq fun K23 hK23 => ?_
                refine good_region rfl ?_
                refine ev_q rfl (q_assign (by conv => lhs; whnf) ?_)
                refine ev_nil (hK23 _ ?_); clear hK23
                refine good_ret ?_
                repeat (first | refine thenQ_ret ?_ | refine blockQ_ret ?_)
                refine ret_tmp (st := _) rfl (by conv => lhs; whnf) rfl ?_
                clear hK9 hK17
                first | exact fT ((wave_iff (all_fin hJ (by omega))).1 (by omega)) | exact fF (fun h => by have := h.1; omega) | exact fF (wave_no hp (by simp only [okAt]; grind)) | exact fF (wave_no hp0 (by simp only [okAt]; grind))
              · first | replace hb22 := dT hb22 | skip
                refine qo_q rfl (q_not rfl rfl ?_)
                refine qo_q rfl (q_pickF rfl (by conv => lhs; whnf) ?_)
                refine qo_q rfl (q_move (by conv => lhs; whnf) ?_)
                refine qo_q rfl (q_move (by conv => lhs; whnf) ?_)
                refine qo_q rfl (q_int rfl rfl ?_)
                intro b24 hb24; cases b24
                · replace hb24 := dF hb24
                  refine qo_q rfl (q_move (by conv => lhs; whnf) ?_)
                  refine qo_skip rfl ?_
                  refine qo_skip rfl ?_
                  refine qo_skip rfl ?_
                  refine qo_skip rfl ?_
                  refine qo_skip rfl ?_
                  refine qo_skip rfl ?_
                  refine qo_skip rfl ?_
                  refine qo_skip rfl ?_
                  refine qo_skip rfl ?_
                  refine qo_q rfl (q_pickF rfl (by conv => lhs; whnf) ?_)
                  refine qo_q rfl (q_pickF rfl (by conv => lhs; whnf) ?_)
                  refine qo_nil ?_
                  refine ev_nil (hK19 _ ?_); clear hK19
                  refine good_condF rfl ?_
                  refine good_skip (hK17 _ ?_); clear hK17
                  refine good_region rfl ?_
                  refine ev_q rfl (q_int rfl rfl ?_)
                  intro n25 hn25
                  replace hn25 := in64 hn25 (by omega) (by omega)
                  refine ev_q rfl (q_move (by conv => lhs; whnf) ?_)
                  refine ev_nil ?_
                  clear hK9
                  refine ⟨i + 1, ?_, ?_, ?_⟩
                  · refine ⟨by omega, all_ext hJ hp ?_⟩
                    refine ⟨by omega, by omega, by intro hz; subst hz; have e : some p = some p0 := hp.symm.trans hp0; cases e; omega, fun z hz0 hz => ?_⟩
                    grind
                  · first | omega | (simp only []; omega) | (dsimp only; omega)
                  · refine sub_weak ?_ ?_
                    · exact weakH_none _
                    · refine weakE_upd ?e22 ?r22 (weakE_upd ?e21 ?r21 (weakE_upd ?e20 ?r20 (weakE_upd ?e0 ?r0 (weakE_junk _ _))))
                      case e0 => first | rfl | exact fI (by omega) | (simp_all)
                      case r0 => intro h hh; cases hh
                      case e20 => first | rfl | exact fI (by omega) | (simp_all)
                      case r20 => intro h hh; cases hh
                      case e21 => first | rfl | exact fI (by omega) | (simp_all)
                      case r21 => intro h hh; cases hh
                      case e22 => first | rfl | exact fI (by omega) | (simp_all)
                      case r22 => intro h hh; cases hh
                · replace hb24 := dT hb24
                  refine qo_q rfl (q_move (by conv => lhs; whnf) ?_)
                  refine qo_q rfl (q_fieldAddrP fO103_0 rfl rfl ?_)
                  refine qo_q rfl (q_load tA2 rfl ?_)
                  refine qo_q rfl (q_move (by conv => lhs; whnf) ?_)
                  refine qo_q rfl (q_move (by conv => lhs; whnf) ?_)
                  refine qo_q rfl (q_int rfl rfl ?_)
                  intro n26 hn26
                  replace hn26 := in64 hn26 (by omega) (by omega)
                  obtain ⟨q, hq⟩ := getL (xs := xs) (n := n26) (by omega) (by omega)
                  refine qo_q rfl (q_idx tE50 rfl rfl (by omega) (by exact map_get hq) rfl ?_)
                  refine qo_q rfl (q_fieldAddr fO103_0 rfl rfl ?_)
                  refine qo_q rfl (q_load tA2 rfl ?_)
                  refine qo_q rfl (q_int rfl rfl ?_)
                  intro b27 hb27; cases b27
                  · replace hb27 := dF hb27
                    refine qo_q rfl (q_pickT rfl (by conv => lhs; whnf) ?_)
                    refine qo_q rfl (q_pickF rfl (by conv => lhs; whnf) ?_)
                    refine qo_nil ?_
                    refine ev_nil (hK19 _ ?_); clear hK19
                    refine good_condF rfl ?_
                    refine good_skip (hK17 _ ?_); clear hK17
                    refine good_region rfl ?_
                    refine ev_q rfl (q_int rfl rfl ?_)
                    intro n28 hn28
                    replace hn28 := in64 hn28 (by omega) (by omega)
                    refine ev_q rfl (q_move (by conv => lhs; whnf) ?_)
                    refine ev_nil ?_
                    clear hK9
                    refine ⟨i + 1, ?_, ?_, ?_⟩
                    · refine ⟨by omega, all_ext hJ hp ?_⟩
                      refine ⟨by omega, by omega, by intro hz; subst hz; have e : some p = some p0 := hp.symm.trans hp0; cases e; omega, fun z hz0 hz => ?_⟩
                      grind
                    · first | omega | (simp only []; omega) | (dsimp only; omega)
                    · refine sub_weak ?_ ?_
                      · exact weakH_none _
                      · refine weakE_upd ?e22 ?r22 (weakE_upd ?e21 ?r21 (weakE_upd ?e20 ?r20 (weakE_upd ?e0 ?r0 (weakE_junk _ _))))
                        case e0 => first | rfl | exact fI (by omega) | (simp_all)
                        case r0 => intro h hh; cases hh
                        case e20 => first | rfl | exact fI (by omega) | (simp_all)
                        case r20 => intro h hh; cases hh
                        case e21 => first | rfl | exact fI (by omega) | (simp_all)
                        case r21 => intro h hh; cases hh
                        case e22 => first | rfl | exact fI (by omega) | (simp_all)
                        case r22 => intro h hh; cases hh
                  · replace hb27 := dT hb27
                    refine qo_q rfl (q_pickT rfl (by conv => lhs; whnf) ?_)
                    refine qo_q rfl (q_pickF rfl (by conv => lhs; whnf) ?_)
                    refine qo_nil ?_
                    refine ev_nil (hK19 _ ?_); clear hK19
                    refine good_condT rfl ?_
                    refine good_seq fun K29 hK29 => ?_
                    refine good_region rfl ?_
                    refine ev_q rfl (q_assign (by conv => lhs; whnf) ?_)
                    refine ev_nil (hK29 _ ?_); clear hK29
                    refine good_ret ?_
                    repeat (first | refine thenQ_ret ?_ | refine blockQ_ret ?_)
                    refine ret_tmp (st := _) rfl (by conv => lhs; whnf) rfl ?_
                    clear hK9 hK17
                    first | exact fT ((wave_iff (all_fin hJ (by omega))).1 (by omega)) | exact fF (fun h => by have := h.1; omega) | exact fF (wave_no hp (by simp only [okAt]; grind)) | exact fF (wave_no hp0 (by simp only [okAt]; grind))
      · replace hb8 := neT hb8
        refine ev_q rfl (q_pickF rfl (by conv => lhs; whnf) ?_)
        refine ev_nil (hK3 _ ?_); clear hK3
        refine good_condT rfl ?_
        refine good_seq fun K30 hK30 => ?_
        refine good_region rfl ?_
        refine ev_q rfl (q_assign (by conv => lhs; whnf) ?_)
        refine ev_nil (hK30 _ ?_); clear hK30
        refine good_ret ?_
        repeat (first | refine thenQ_ret ?_ | refine blockQ_ret ?_)
        refine ret_tmp (st := _) rfl (by conv => lhs; whnf) rfl ?_
        clear hK2
        first | exact fT ((wave_iff (all_fin hJ (by omega))).1 (by omega)) | exact fF (fun h => by have := h.1; omega) | exact fF (wave_no hp (by simp only [okAt]; grind)) | exact fF (wave_no hp0 (by simp only [okAt]; grind))
    · replace hb7 := dT hb7
      refine ev_q rfl (q_pickF rfl (by conv => lhs; whnf) ?_)
      refine ev_q rfl (q_move (by conv => lhs; whnf) ?_)
      refine ev_skip rfl ?_
      refine ev_skip rfl ?_
      refine ev_skip rfl ?_
      refine ev_skip rfl ?_
      refine ev_skip rfl ?_
      refine ev_q rfl (q_pickT rfl (by conv => lhs; whnf) ?_)
      refine ev_nil (hK3 _ ?_); clear hK3
      refine good_condT rfl ?_
      refine good_seq fun K31 hK31 => ?_
      refine good_region rfl ?_
      refine ev_q rfl (q_assign (by conv => lhs; whnf) ?_)
      refine ev_nil (hK31 _ ?_); clear hK31
      refine good_ret ?_
      repeat (first | refine thenQ_ret ?_ | refine blockQ_ret ?_)
      refine ret_tmp (st := _) rfl (by conv => lhs; whnf) rfl ?_
      clear hK2
      first | exact fT ((wave_iff (all_fin hJ (by omega))).1 (by omega)) | exact fF (fun h => by have := h.1; omega) | exact fF (wave_no hp (by simp only [okAt]; grind)) | exact fF (wave_no hp0 (by simp only [okAt]; grind))
  · replace hb5 := dT hb5
    refine ev_q rfl (q_move (by conv => lhs; whnf) ?_)
    refine ev_skip rfl ?_
    refine ev_skip rfl ?_
    refine ev_skip rfl ?_
    refine ev_q rfl (q_pickT rfl (by conv => lhs; whnf) ?_)
    refine ev_q rfl (q_move (by conv => lhs; whnf) ?_)
    refine ev_skip rfl ?_
    refine ev_skip rfl ?_
    refine ev_skip rfl ?_
    refine ev_skip rfl ?_
    refine ev_skip rfl ?_
    refine ev_q rfl (q_pickT rfl (by conv => lhs; whnf) ?_)
    refine ev_nil (hK3 _ ?_); clear hK3
    refine good_condT rfl ?_
    refine good_seq fun K32 hK32 => ?_
    refine good_region rfl ?_
    refine ev_q rfl (q_assign (by conv => lhs; whnf) ?_)
    refine ev_nil (hK32 _ ?_); clear hK32
    refine good_ret ?_
    repeat (first | refine thenQ_ret ?_ | refine blockQ_ret ?_)
    refine ret_tmp (st := _) rfl (by conv => lhs; whnf) rfl ?_
    clear hK2
    first | exact fT ((wave_iff (all_fin hJ (by omega))).1 (by omega)) | exact fF (fun h => by have := h.1; omega) | exact fF (wave_no hp (by simp only [okAt]; grind)) | exact fF (wave_no hp0 (by simp only [okAt]; grind))

-- laws.eqStep
set_option maxRecDepth 20000 in
set_option maxHeartbeats 2000000 in
theorem D_laws_eqStep (a b c d : Int)  : Den Try.prog 91 [.agg [.s (.int .i64 a), .s (.int .i64 b)], .agg [.s (.int .i64 c), .s (.int .i64 d)]] (.s (.bool (decide (a = c ∧ b = d)))) := by
  refine den_of_good Try.func91 (by decide) rfl (Nat.le_of_ble_eq_true rfl) (Nat.le_of_ble_eq_true rfl) ?_
  refine good_seq fun K1 hK1 => ?_
  refine good_region rfl ?_
  refine ev_k rfl (k_box (by conv => lhs; whnf) rfl rfl rfl ?_)
  refine ev_k rfl (k_box (by conv => lhs; whnf) rfl rfl rfl ?_)
  refine ev_q rfl (q_assign (by conv => lhs; whnf) ?_)
  refine ev_nil (hK1 _ ?_); clear hK1
  refine good_seq fun K2 hK2 => ?_
  refine good_seq fun K3 hK3 => ?_
  refine good_region rfl ?_
  refine ev_q rfl (q_fieldAddrP fO103_0 rfl rfl ?_)
  refine ev_q rfl (q_load tA2 rfl ?_)
  refine ev_q rfl (q_fieldAddrP fO103_0 rfl rfl ?_)
  refine ev_q rfl (q_load tA2 rfl ?_)
  refine ev_q rfl (q_int rfl rfl ?_)
  intro b4 hb4; cases b4
  · replace hb4 := neF hb4
    refine ev_nil (hK3 _ ?_); clear hK3
    refine good_condF rfl ?_
    refine good_skip (hK2 _ ?_); clear hK2
    refine good_seq fun K5 hK5 => ?_
    refine good_seq fun K6 hK6 => ?_
    refine good_region rfl ?_
    refine ev_q rfl (q_fieldAddrP fO103_1 rfl rfl ?_)
    refine ev_q rfl (q_load tA2 rfl ?_)
    refine ev_q rfl (q_fieldAddrP fO103_1 rfl rfl ?_)
    refine ev_q rfl (q_load tA2 rfl ?_)
    refine ev_q rfl (q_int rfl rfl ?_)
    intro b7 hb7; cases b7
    · replace hb7 := neF hb7
      refine ev_nil (hK6 _ ?_); clear hK6
      refine good_condF rfl ?_
      refine good_skip (hK5 _ ?_); clear hK5
      refine good_seq fun K8 hK8 => ?_
      refine good_region rfl ?_
      refine ev_q rfl (q_assign (by conv => lhs; whnf) ?_)
      refine ev_nil (hK8 _ ?_); clear hK8
      refine good_ret ?_
      repeat (first | refine thenQ_ret ?_ | refine blockQ_ret ?_)
      refine ret_tmp (st := _) rfl (by conv => lhs; whnf) rfl ?_
      first | rfl | exact fT (by first | omega | grind) | exact fF (by first | omega | grind) | exact fT' (by first | omega | grind) | (exfalso; first | omega | grind)
    · replace hb7 := neT hb7
      refine ev_nil (hK6 _ ?_); clear hK6
      refine good_condT rfl ?_
      refine good_seq fun K9 hK9 => ?_
      refine good_region rfl ?_
      refine ev_q rfl (q_assign (by conv => lhs; whnf) ?_)
      refine ev_nil (hK9 _ ?_); clear hK9
      refine good_ret ?_
      repeat (first | refine thenQ_ret ?_ | refine blockQ_ret ?_)
      refine ret_tmp (st := _) rfl (by conv => lhs; whnf) rfl ?_
      clear hK5
      first | rfl | exact fT (by first | omega | grind) | exact fF (by first | omega | grind) | exact fT' (by first | omega | grind) | (exfalso; first | omega | grind)
  · replace hb4 := neT hb4
    refine ev_nil (hK3 _ ?_); clear hK3
    refine good_condT rfl ?_
    refine good_seq fun K10 hK10 => ?_
    refine good_region rfl ?_
    refine ev_q rfl (q_assign (by conv => lhs; whnf) ?_)
    refine ev_nil (hK10 _ ?_); clear hK10
    refine good_ret ?_
    repeat (first | refine thenQ_ret ?_ | refine blockQ_ret ?_)
    refine ret_tmp (st := _) rfl (by conv => lhs; whnf) rfl ?_
    clear hK2
    first | rfl | exact fT (by first | omega | grind) | exact fF (by first | omega | grind) | exact fT' (by first | omega | grind) | (exfalso; first | omega | grind)

-- laws.eqStepS
set_option maxRecDepth 20000 in
set_option maxHeartbeats 2000000 in
theorem D_laws_eqStepS (xs : List (Int × Int)) (hx : xs.length ≤ 8796093022208) : Den Try.prog 35 [.lst 2 (xs.map stp), .lst 2 (xs.map stp)] (.s (.bool true)) := by
  refine den_of_good Try.func35 (by decide) rfl (Nat.le_of_ble_eq_true rfl) (Nat.le_of_ble_eq_true rfl) ?_
  refine good_seq fun K1 hK1 => ?_
  refine good_region rfl ?_
  refine ev_q rfl (q_assign (by conv => lhs; whnf) ?_)
  refine ev_nil (hK1 _ ?_); clear hK1
  refine good_seq fun K2 hK2 => ?_
  refine good_seq fun K3 hK3 => ?_
  refine good_region rfl ?_
  refine ev_q rfl (q_move (by conv => lhs; whnf) ?_)
  refine ev_q rfl (q_len tEs50 rfl ?_)
  intro n4 hn4
  try simp only [List.length_map] at hn4
  refine ev_q rfl (q_move (by conv => lhs; whnf) ?_)
  refine ev_q rfl (q_len tEs50 rfl ?_)
  intro n5 hn5
  try simp only [List.length_map] at hn5
  refine ev_q rfl (q_int rfl rfl ?_)
  intro b6 hb6; cases b6
  · replace hb6 := neF hb6
    refine ev_nil (hK3 _ ?_); clear hK3
    refine good_condF rfl ?_
    refine good_skip (hK2 _ ?_); clear hK2
    refine good_seq fun K7 hK7 => ?_
    refine good_seq fun K8 hK8 => ?_
    refine good_region rfl ?_
    refine ev_q rfl (q_assign (by conv => lhs; whnf) ?_)
    refine ev_nil (hK8 _ ?_); clear hK8
    refine good_block ?_
    refine good_loop (α := Nat) (fun i => { env := upd (upd (upd ((fun _ => .junk)) 0 (.lst 2 (xs.map stp))) 1 (.lst 2 (xs.map stp))) 5 (.s (.int .i64 i)), H := fun _ => none }) (fun i => i ≤ xs.length) (fun i => xs.length - i) 0 ?_ ?_ ?_
    · show 0 ≤ _; omega
    · refine sub_weak ?_ ?_
      · exact weakH_none _
      · refine weakE_upd ?e5 ?r5 (weakE_upd ?e1 ?r1 (weakE_upd ?e0 ?r0 (weakE_junk _ _)))
        case e0 => first | rfl | exact fI (by omega) | (simp_all)
        case r0 => intro h hh; cases hh
        case e1 => first | rfl | exact fI (by omega) | (simp_all)
        case r1 => intro h hh; cases hh
        case e5 => first | rfl | exact fI (by omega) | (simp_all)
        case r5 => intro h hh; cases hh
    · rintro i hI
      refine good_seq fun K9 hK9 => ?_
      refine good_seq fun K10 hK10 => ?_
      refine good_region rfl ?_
      refine ev_q rfl (q_move (by conv => lhs; whnf) ?_)
      refine ev_q rfl (q_move (by conv => lhs; whnf) ?_)
      refine ev_q rfl (q_len tEs50 rfl ?_)
      intro n11 hn11
      try simp only [List.length_map] at hn11
      refine ev_q rfl (q_int rfl rfl ?_)
      intro b12 hb12; cases b12
      · replace hb12 := dF hb12
        refine ev_nil (hK10 _ ?_); clear hK10
        refine good_condF rfl ?_
        refine good_exit ?_
        repeat (first | refine thenQ_exit ?_ | refine blockQ_pass rfl ?_)
        refine blockQ_exit (hK7 _ ?_); clear hK7
        refine good_seq fun K13 hK13 => ?_
        refine good_region rfl ?_
        refine ev_q rfl (q_assign (by conv => lhs; whnf) ?_)
        refine ev_nil (hK13 _ ?_); clear hK13
        refine good_ret ?_
        repeat (first | refine thenQ_ret ?_ | refine blockQ_ret ?_)
        refine ret_tmp (st := _) rfl (by conv => lhs; whnf) rfl ?_
        clear hK9
        first | rfl | (exfalso; omega)
      · replace hb12 := dT hb12
        obtain ⟨p, hp⟩ := getL (xs := xs) (n := (i : Int)) (by omega) (by omega)
        replace hp : xs[i]? = some p := hp
        refine ev_nil (hK10 _ ?_); clear hK10
        refine good_condT rfl ?_
        refine good_skip (hK9 _ ?_); clear hK9
        refine good_seq fun K14 hK14 => ?_
        refine good_block ?_
        refine good_seq fun K15 hK15 => ?_
        refine good_draw 10 hmix (by kernel_rfl) rfl ?_
        refine qo_q rfl (q_move (by conv => lhs; whnf) ?_)
        refine qo_q rfl (q_move (by conv => lhs; whnf) ?_)
        refine qo_q rfl (q_idx tE50 rfl rfl (by exact Int.natCast_nonneg _) (by exact map_get hp) rfl ?_)
        refine qo_q rfl (q_loadA tA103 rfl rfl rfl ?_)
        refine qo_q rfl (q_move (by conv => lhs; whnf) ?_)
        refine qo_q rfl (q_move (by conv => lhs; whnf) ?_)
        refine qo_q rfl (q_idx tE50 rfl rfl (by exact Int.natCast_nonneg _) (by exact map_get hp) rfl ?_)
        refine qo_q rfl (q_loadA tA103 rfl rfl rfl ?_)
        refine qo_q rfl (q_callB rfl rfl (rfl) (D_laws_eqStep ..) ?_)
        intro b16 hb16; cases b16
        · first | replace hb16 := dF hb16 | skip
          refine qo_q rfl (q_not rfl rfl ?_)
          refine qo_nil ?_
          refine ev_nil (hK15 _ ?_); clear hK15
          refine good_condT rfl ?_
          refine good_seq fun K17 hK17 => ?_
          refine good_region rfl ?_
          refine ev_q rfl (q_assign (by conv => lhs; whnf) ?_)
          refine ev_nil (hK17 _ ?_); clear hK17
          refine good_ret ?_
          repeat (first | refine thenQ_ret ?_ | refine blockQ_ret ?_)
          refine ret_tmp (st := _) rfl (by conv => lhs; whnf) rfl ?_
          clear hK7 hK14
          first | rfl | (exfalso; omega)
        · first | replace hb16 := dT hb16 | skip
          refine qo_q rfl (q_not rfl rfl ?_)
          refine qo_nil ?_
          refine ev_nil (hK15 _ ?_); clear hK15
          refine good_condF rfl ?_
          refine good_skip (hK14 _ ?_); clear hK14
          refine good_region rfl ?_
          refine ev_q rfl (q_move (by conv => lhs; whnf) ?_)
          refine ev_q rfl (q_int rfl rfl ?_)
          intro n18 hn18
          replace hn18 := in64 hn18 (by omega) (by omega)
          refine ev_q rfl (q_assign (by conv => lhs; whnf) ?_)
          refine ev_nil ?_
          clear hK7
          refine ⟨i + 1, ?_, ?_, ?_⟩
          · show _ ≤ _; omega
          · first | omega | (simp only []; omega) | (dsimp only; omega)
          · refine sub_weak ?_ ?_
            · exact weakH_none _
            · refine weakE_upd ?e5 ?r5 (weakE_upd ?e1 ?r1 (weakE_upd ?e0 ?r0 (weakE_junk _ _)))
              case e0 => first | rfl | exact fI (by omega) | (simp_all)
              case r0 => intro h hh; cases hh
              case e1 => first | rfl | exact fI (by omega) | (simp_all)
              case r1 => intro h hh; cases hh
              case e5 => first | rfl | exact fI (by omega) | (simp_all)
              case r5 => intro h hh; cases hh
  · replace hb6 := neT hb6
    refine ev_nil (hK3 _ ?_); clear hK3
    refine good_condT rfl ?_
    refine good_seq fun K19 hK19 => ?_
    refine good_region rfl ?_
    refine ev_q rfl (q_assign (by conv => lhs; whnf) ?_)
    refine ev_nil (hK19 _ ?_); clear hK19
    refine good_ret ?_
    repeat (first | refine thenQ_ret ?_ | refine blockQ_ret ?_)
    refine ret_tmp (st := _) rfl (by conv => lhs; whnf) rfl ?_
    clear hK2
    first | rfl | (exfalso; omega)

-- slices.Clone[[]impl.Step,impl.Step]
set_option maxRecDepth 20000 in
set_option maxHeartbeats 2000000 in
theorem D_slices_Clone_impl_Step_impl_Step_X (xs : List (Int × Int)) (hx : xs.length ≤ 8796093022208) : DenX Try.prog 128 [] [.lst 2 (xs.map stp)] [(7, .row 103 2 (xs.map stp))] (.own 7 xs.length) := by
  refine denX_of_good Try.func128 (by decide) rfl (Nat.le_of_ble_eq_true rfl) (Nat.le_of_ble_eq_true rfl) rfl ?_
  refine good_seq fun K1 hK1 => ?_
  refine good_region rfl ?_
  refine ev_q rfl (q_assign (by conv => lhs; whnf) ?_)
  refine ev_nil (hK1 _ ?_); clear hK1
  refine good_seq fun K2 hK2 => ?_
  refine good_seq fun K3 hK3 => ?_
  refine good_region rfl ?_
  refine ev_q rfl (q_move (by conv => lhs; whnf) ?_)
  refine ev_k rfl (k_nil tEs50 rfl ?_)
  intro b4 hb4; cases b4
  · refine ev_nil (hK3 _ ?_); clear hK3
    refine good_condF rfl ?_
    refine good_skip (hK2 _ ?_); clear hK2
    refine good_seq fun K5 hK5 => ?_
    refine good_region rfl ?_
    refine ev_k rfl (k_lit tE50 zA103 rfl rfl (by decide) (by decide) rfl rfl rfl ?_)
    refine ev_q rfl (q_move (by conv => lhs; whnf) ?_)
    refine ev_k rfl (k_app tApp50 rfl rfl (by rfl) rfl (.inl rfl) (by simp [maxLen]; omega) (by simp; omega) ?_)
    refine ev_q rfl (q_assign (by conv => lhs; whnf) ?_)
    refine ev_nil (hK5 _ ?_); clear hK5
    refine good_ret ?_
    repeat (first | refine thenQ_ret ?_ | refine blockQ_ret ?_)
    refine fx_tmp rfl (by conv => lhs; whnf) ?_
    exact ⟨_, conv_eq (by first | rfl | (rw [e]; done) | (rw [e]; rfl) | exact ownEq (by first | omega | simp_all)), weakH_row (rowEq (by first | rfl | (rw [e]; rfl))) (weakH_none _), refsIn_ok rfl⟩
  · replace hb4 := hb4 rfl
    have e := nilMap hb4
    refine ev_nil (hK3 _ ?_); clear hK3
    refine good_condT rfl ?_
    refine good_seq fun K6 hK6 => ?_
    refine good_region rfl ?_
    refine ev_q rfl (q_assign (by conv => lhs; whnf) ?_)
    refine ev_nil (hK6 _ ?_); clear hK6
    refine good_ret ?_
    repeat (first | refine thenQ_ret ?_ | refine blockQ_ret ?_)
    refine fx_tmp rfl (by conv => lhs; whnf) ?_
    clear hK2
    exact ⟨_, conv_nil rfl (by decide) (by rw [e]; rfl), weakH_row (rowEq (by first | rfl | (rw [e]; rfl))) (weakH_none _), refsIn_ok rfl⟩

-- slices.CompactFunc[[]impl.Step,impl.Step]
set_option maxRecDepth 20000 in
set_option maxHeartbeats 2000000 in
theorem D_slices_CompactFunc_impl_Step_impl_Step (f : Nat) (caps : List AV) (xs : List (Int × Int)) (hx : xs.length ≤ 8796093022208) (hf : ∀ a b : Int × Int, Den Try.prog f (stp a :: stp b :: caps) (.s (.bool (decide (a.2 = b.2))))) : DenX Try.prog 127 [(1000000, .row 103 2 (xs.map stp))] [.own 1000000 xs.length, .fn f caps] [(1000000, .row 103 2 (cpC xs))] (.own 1000000 (trG xs xs.length).length) := by
  refine denX_of_good Try.func127 (by decide) rfl (Nat.le_of_ble_eq_true rfl) (Nat.le_of_ble_eq_true rfl) rfl ?_
  refine good_seq fun K1 hK1 => ?_
  refine good_region rfl ?_
  refine ev_q rfl (q_assign (by conv => lhs; whnf) ?_)
  refine ev_nil (hK1 _ ?_); clear hK1
  refine good_seq fun K2 hK2 => ?_
  refine good_seq fun K3 hK3 => ?_
  refine good_region rfl ?_
  refine ev_q rfl (q_move (by conv => lhs; whnf) ?_)
  refine ev_q rfl (q_len tEs50 rfl ?_)
  intro n4 hn4
  try simp only [List.length_map] at hn4
  refine ev_q rfl (q_int rfl rfl ?_)
  intro b5 hb5; cases b5
  · replace hb5 := dF hb5
    refine ev_nil (hK3 _ ?_); clear hK3
    refine good_condF rfl ?_
    refine good_skip (hK2 _ ?_); clear hK2
    refine good_seq fun K6 hK6 => ?_
    refine good_seq fun K7 hK7 => ?_
    refine good_region rfl ?_
    refine ev_q rfl (q_assign (by conv => lhs; whnf) ?_)
    refine ev_nil (hK7 _ ?_); clear hK7
    refine good_block ?_
    refine good_loop (α := Nat) (fun i => { env := upd (upd (upd ((fun _ => .junk)) 0 (.own 1000000 xs.length)) 1 (.fn f caps)) 5 (.s (.int .i64 i)), H := upd ((fun _ => none)) 1000000 (some (.row 103 2 (xs.map stp))) }) (fun i => (1 ≤ i ∧ i ≤ xs.length) ∧ ∀ j, 1 ≤ j → j < i → trP xs j) (fun i => xs.length - i) 1 ?_ ?_ ?_
    · exact ⟨by omega, fun j h1 h2 => by omega⟩
    · refine sub_weak ?_ ?_
      · exact weakH_row (rowEq (rfl)) (weakH_none _)
      · refine weakE_upd ?e5 ?r5 (weakE_upd ?e1 ?r1 (weakE_upd ?e0 ?r0 (weakE_junk _ _)))
        case e0 => first | rfl | exact fI (by omega) | (simp_all)
        case r0 => intro h hh; simp [refs] at hh; subst hh; rfl
        case e1 => first | rfl | exact fI (by omega) | (simp_all)
        case r1 => intro h hh; cases hh
        case e5 => first | rfl | exact fI (by omega) | (simp_all)
        case r5 => intro h hh; cases hh
    · rintro i ⟨hI, hJ⟩
      refine good_seq fun K8 hK8 => ?_
      refine good_seq fun K9 hK9 => ?_
      refine good_region rfl ?_
      refine ev_q rfl (q_move (by conv => lhs; whnf) ?_)
      refine ev_q rfl (q_move (by conv => lhs; whnf) ?_)
      refine ev_q rfl (q_len tEs50 rfl ?_)
      intro n10 hn10
      try simp only [List.length_map] at hn10
      refine ev_q rfl (q_int rfl rfl ?_)
      intro b11 hb11; cases b11
      · replace hb11 := dF hb11
        refine ev_nil (hK9 _ ?_); clear hK9
        refine good_condF rfl ?_
        refine good_exit ?_
        repeat (first | refine thenQ_exit ?_ | refine blockQ_pass rfl ?_)
        refine blockQ_exit (hK6 _ ?_); clear hK6
        refine good_seq fun K12 hK12 => ?_
        refine good_region rfl ?_
        refine ev_q rfl (q_move (by conv => lhs; whnf) ?_)
        refine ev_q rfl (q_assign (by conv => lhs; whnf) ?_)
        refine ev_nil (hK12 _ ?_); clear hK12
        refine good_ret ?_
        repeat (first | refine thenQ_ret ?_ | refine blockQ_ret ?_)
        refine fx_tmp rfl (by conv => lhs; whnf) ?_
        clear hK8
        first | (have e : trG xs xs.length = xs := trG_self (fun j h1 h2 => by first | exact hJ j h1 (by omega) | omega)) | (have e : trG xs (i + k) = trG xs xs.length := by rw [en])
        exact ⟨_, conv_eq (by first | rfl | (rw [e]; done) | (rw [e]; rfl) | exact ownEq (by first | omega | simp_all)), weakH_row (rowEq (by first | exact (cpC_same e).symm | exact cpR_clr en rfl rfl)) (weakH_none _), refsIn_ok rfl⟩
      · replace hb11 := dT hb11
        obtain ⟨p, hp⟩ := getL (xs := xs) (n := (i : Int)) (by omega) (by omega)
        replace hp : xs[i]? = some p := hp
        refine ev_nil (hK9 _ ?_); clear hK9
        refine good_condT rfl ?_
        refine good_skip (hK8 _ ?_); clear hK8
        refine good_seq fun K13 hK13 => ?_
        refine good_block ?_
        refine good_seq fun K14 hK14 => ?_
        refine good_draw 11 hmix (by kernel_rfl) rfl ?_
        refine qo_q rfl (q_move (by conv => lhs; whnf) ?_)
        refine qo_q rfl (q_move (by conv => lhs; whnf) ?_)
        refine qo_q rfl (q_move (by conv => lhs; whnf) ?_)
        refine qo_q rfl (q_idxO tE50 rfl rfl rfl (by exact Int.natCast_nonneg _) (by omega) rfl ?_)
        refine qo_q rfl (q_loadEA tA103 rfl rfl (by exact map_get hp) rfl rfl ?_)
        refine qo_q rfl (q_move (by conv => lhs; whnf) ?_)
        refine qo_q rfl (q_move (by conv => lhs; whnf) ?_)
        refine qo_q rfl (q_int rfl rfl ?_)
        intro n15 hn15
        replace hn15 := in64 hn15 (by omega) (by omega)
        obtain ⟨q, hq⟩ := getL (xs := xs) (n := n15) (by omega) (by omega)
        refine qo_q rfl (q_idxO tE50 rfl rfl rfl (by omega) (by omega) rfl ?_)
        refine qo_q rfl (q_loadEA tA103 rfl rfl (by exact map_get hq) rfl rfl ?_)
        refine qo_q rfl (q_callB rfl rfl (rfl) (hf _ _) ?_)
        intro b16 hb16; cases b16
        · first | replace hb16 := dF hb16 | skip
          have hq1 : xs[i - 1]? = some q := by rw [← hq]; congr 1; omega
          have hti := trP_T hp hq1 hb16
          refine qo_nil ?_
          refine ev_nil (hK14 _ ?_); clear hK14
          refine good_condF rfl ?_
          refine good_skip (hK13 _ ?_); clear hK13
          refine good_region rfl ?_
          refine ev_q rfl (q_move (by conv => lhs; whnf) ?_)
          refine ev_q rfl (q_int rfl rfl ?_)
          intro n17 hn17
          replace hn17 := in64 hn17 (by omega) (by omega)
          refine ev_q rfl (q_assign (by conv => lhs; whnf) ?_)
          refine ev_nil ?_
          clear hK6
          refine ⟨i + 1, ?_, ?_, ?_⟩
          · exact ⟨by omega, trP_ext hJ hti⟩
          · first | omega | (simp only []; omega) | (dsimp only; omega)
          · refine sub_weak ?_ ?_
            · exact weakH_row (rowEq (rfl)) (weakH_none _)
            · refine weakE_upd ?e5 ?r5 (weakE_upd ?e1 ?r1 (weakE_upd ?e0 ?r0 (weakE_junk _ _)))
              case e0 => first | rfl | exact fI (by omega) | (simp_all)
              case r0 => intro h hh; simp [refs] at hh; subst hh; rfl
              case e1 => first | rfl | exact fI (by omega) | (simp_all)
              case r1 => intro h hh; cases hh
              case e5 => first | rfl | exact fI (by omega) | (simp_all)
              case r5 => intro h hh; cases hh
        · first | replace hb16 := dT hb16 | skip
          have hq1 : xs[i - 1]? = some q := by rw [← hq]; congr 1; omega
          have hni := trP_F hp hq1 (by omega) hb16
          have hti := trG_take i (by omega) hJ
          have hti2 : trG xs (i + 1) = xs.take i := by rw [trG_F hni, hti]
          have hl0 : (trG xs (i + 1)).length = i := by rw [hti2]; simp; omega
          refine qo_nil ?_
          refine ev_nil (hK14 _ ?_); clear hK14
          refine good_condT rfl ?_
          refine good_seq fun K18 hK18 => ?_
          refine good_region rfl ?_
          refine ev_q rfl (q_move (by conv => lhs; whnf) ?_)
          refine ev_q rfl (q_move (by conv => lhs; whnf) ?_)
          refine ev_q rfl (q_sliceO (j := i) (m := xs.length - i) tE50 rfl rfl rfl rfl (by omega) (by omega) (by omega) (by first | rfl | omega) (by first | rfl | omega) ?_)
          refine ev_q rfl (q_assign (by conv => lhs; whnf) ?_)
          refine ev_nil (hK18 _ ?_); clear hK18
          refine good_seq fun K19 hK19 => ?_
          refine good_seq fun K20 hK20 => ?_
          refine good_region rfl ?_
          refine ev_q rfl (q_assign (by conv => lhs; whnf) ?_)
          refine ev_nil (hK20 _ ?_); clear hK20
          refine good_block ?_
          refine good_loop (α := Nat) (fun k => { env := upd (upd (upd (upd (upd ((fun _ => .junk)) 0 (.own 1000000 xs.length)) 1 (.fn f caps)) 5 (.s (.int .i64 (((trG xs (i + k)).length : Int))))) 6 (.osl 1000000 i (xs.length - i))) 7 (.s (.int .i64 k)), H := upd ((fun _ => none)) 1000000 (some (.row 103 2 (cpR xs (i + k)))) }) (fun k => 1 ≤ k ∧ i + k ≤ xs.length) (fun k => xs.length - i - k) 1 ?_ ?_ ?_
          · show 1 ≤ 1 ∧ _ ≤ _; omega
          · refine sub_weak ?_ ?_
            · exact weakH_row (rowEq ((cpR_take hti2 (by omega)).symm)) (weakH_none _)
            · refine weakE_upd ?e7 ?r7 (weakE_upd ?e6 ?r6 (weakE_upd ?e5 ?r5 (weakE_upd ?e1 ?r1 (weakE_upd ?e0 ?r0 (weakE_junk _ _)))))
              case e0 => first | rfl | exact fI (by omega) | (simp_all)
              case r0 => intro h hh; simp [refs] at hh; subst hh; rfl
              case e1 => first | rfl | exact fI (by omega) | (simp_all)
              case r1 => intro h hh; cases hh
              case e5 => first | rfl | exact fI (by omega) | (first | exact fI (by rw [hl0]) | exact fI (by rw [show i + (k + 1) = i + k + 1 by omega, hst]; first | done | omega | (rw [List.length_append]; simp only [List.length_cons, List.length_nil]; omega)))
              case r5 => intro h hh; cases hh
              case e6 => first | rfl | exact fI (by omega) | (simp_all)
              case r6 => intro h hh; simp [refs] at hh; subst hh; rfl
              case e7 => first | rfl | exact fI (by omega) | (simp_all)
              case r7 => intro h hh; cases hh
          · rintro k hK
            refine good_seq fun K21 hK21 => ?_
            refine good_seq fun K22 hK22 => ?_
            refine good_region rfl ?_
            refine ev_q rfl (q_move (by conv => lhs; whnf) ?_)
            refine ev_q rfl (q_move (by conv => lhs; whnf) ?_)
            refine ev_q rfl (q_len tEs50 rfl ?_)
            intro n23 hn23
            try simp only [List.length_map] at hn23
            refine ev_q rfl (q_int rfl rfl ?_)
            intro b24 hb24; cases b24
            · replace hb24 := dF hb24
              have en : i + k = xs.length := by omega
              have hle := trG_len (xs := xs) (i + k)
              refine ev_nil (hK22 _ ?_); clear hK22
              refine good_condF rfl ?_
              refine good_exit ?_
              repeat (first | refine thenQ_exit ?_ | refine blockQ_pass rfl ?_)
              refine blockQ_exit (hK19 _ ?_); clear hK19
              refine good_seq fun K25 hK25 => ?_
              refine good_region rfl ?_
              refine ev_q rfl (q_move (by conv => lhs; whnf) ?_)
              refine ev_q rfl (q_move (by conv => lhs; whnf) ?_)
              refine ev_q rfl (q_sliceO (j := (trG xs (i + k)).length) (m := xs.length - (trG xs (i + k)).length) tE50 rfl rfl rfl rfl (by omega) (by omega) (by omega) (by first | rfl | omega) (by first | rfl | omega) ?_)
              refine ev_k rfl (k_clear tE50 rfl rfl zA103 rfl ?_)
              refine ev_nil (hK25 _ ?_); clear hK25
              refine good_seq fun K26 hK26 => ?_
              refine good_region rfl ?_
              refine ev_q rfl (q_move (by conv => lhs; whnf) ?_)
              refine ev_q rfl (q_move (by conv => lhs; whnf) ?_)
              refine ev_q rfl (q_sliceP (m := (trG xs (i + k)).length) tE50 rfl rfl rfl (by omega) (by omega) (by first | rfl | omega) ?_)
              refine ev_q rfl (q_assign (by conv => lhs; whnf) ?_)
              refine ev_nil (hK26 _ ?_); clear hK26
              refine good_ret ?_
              repeat (first | refine thenQ_ret ?_ | refine blockQ_ret ?_)
              refine fx_tmp rfl (by conv => lhs; whnf) ?_
              clear hK6 hK13 hK21
              first | (have e : trG xs xs.length = xs := trG_self (fun j h1 h2 => by first | exact hJ j h1 (by omega) | omega)) | (have e : trG xs (i + k) = trG xs xs.length := by rw [en])
              exact ⟨_, conv_eq (by first | rfl | (rw [e]; done) | (rw [e]; rfl) | exact ownEq (by first | omega | simp_all)), weakH_row (rowEq (by first | exact (cpC_same e).symm | exact cpR_clr en rfl rfl)) (weakH_none _), refsIn_ok rfl⟩
            · replace hb24 := dT hb24
              obtain ⟨p2, hp2⟩ := getL (xs := xs) (n := ((i + k : Nat) : Int)) (by omega) (by omega)
              replace hp2 : xs[i + k]? = some p2 := hp2
              obtain ⟨q2, hq2⟩ := getL (xs := xs) (n := ((i + (k - 1) : Nat) : Int)) (by omega) (by omega)
              replace hq2 : xs[i + (k - 1)]? = some q2 := hq2
              have hlt := trG_lt hni (i + k) (by omega)
              have hle := trG_len (xs := xs) (i + k)
              obtain ⟨pw, hw⟩ := getL (xs := xs) (n := (((trG xs (i + k)).length : Nat) : Int)) (by omega) (by omega)
              replace hw : xs[(trG xs (i + k)).length]? = some pw := hw
              have hq3 : xs[i + k - 1]? = some q2 := by rw [← hq2]; congr 1; omega
              refine ev_nil (hK22 _ ?_); clear hK22
              refine good_condT rfl ?_
              refine good_skip (hK21 _ ?_); clear hK21
              refine good_seq fun K27 hK27 => ?_
              refine good_block ?_
              refine good_seq fun K28 hK28 => ?_
              refine good_draw 12 hmix (by kernel_rfl) rfl ?_
              refine qo_q rfl (q_move (by conv => lhs; whnf) ?_)
              refine qo_q rfl (q_move (by conv => lhs; whnf) ?_)
              refine qo_q rfl (q_move (by conv => lhs; whnf) ?_)
              refine qo_q rfl (q_idxL (j := i + k) tE50 rfl rfl rfl (by exact Int.natCast_nonneg _) (by omega) (by omega) ?_)
              refine qo_q rfl (q_loadEA tA103 rfl rfl (by exact cpR_get hp2 (by omega)) rfl rfl ?_)
              refine qo_q rfl (q_move (by conv => lhs; whnf) ?_)
              refine qo_q rfl (q_move (by conv => lhs; whnf) ?_)
              refine qo_q rfl (q_int rfl rfl ?_)
              intro n29 hn29
              replace hn29 := in64 hn29 (by omega) (by omega)
              refine qo_q rfl (q_idxL (j := i + (k - 1)) tE50 rfl rfl rfl (by omega) (by omega) (by omega) ?_)
              refine qo_q rfl (q_loadEA tA103 rfl rfl (by exact cpR_get hq2 (by omega)) rfl rfl ?_)
              refine qo_q rfl (q_callB rfl rfl (rfl) (hf _ _) ?_)
              intro b30 hb30; cases b30
              · first | replace hb30 := dF hb30 | skip
                have htk := trP_T hp2 hq3 hb30
                have hst := trG_T hp2 htk
                refine qo_q rfl (q_not rfl rfl ?_)
                refine qo_nil ?_
                refine ev_nil (hK28 _ ?_); clear hK28
                refine good_condT rfl ?_
                refine good_seq fun K31 hK31 => ?_
                refine good_region rfl ?_
                refine ev_q rfl (q_move (by conv => lhs; whnf) ?_)
                refine ev_q rfl (q_move (by conv => lhs; whnf) ?_)
                refine ev_q rfl (q_move (by conv => lhs; whnf) ?_)
                refine ev_q rfl (q_move (by conv => lhs; whnf) ?_)
                refine ev_q rfl (q_idxL (j := i + k) tE50 rfl rfl rfl (by exact Int.natCast_nonneg _) (by omega) (by omega) ?_)
                refine ev_q rfl (q_loadEA tA103 rfl rfl (by exact cpR_get hp2 (by omega)) rfl rfl ?_)
                refine ev_q rfl (q_idxO tE50 rfl rfl rfl (by exact Int.natCast_nonneg _) (by omega) rfl ?_)
                refine ev_k rfl (k_storeE sz103 rfl (by conv => lhs; whnf) rfl rfl rfl (Nat.le_of_ble_eq_true rfl) rfl (by first | exact cpR_get hw (by omega) | exact cpR_get hw (Nat.le_refl _)) (Nat.le_of_ble_eq_true rfl) rfl ?_)
                refine ev_nil (hK31 _ ?_); clear hK31
                refine good_region rfl ?_
                refine ev_q rfl (q_move (by conv => lhs; whnf) ?_)
                refine ev_q rfl (q_int rfl rfl ?_)
                intro n32 hn32
                replace hn32 := in64 hn32 (by omega) (by omega)
                refine ev_q rfl (q_assign (by conv => lhs; whnf) ?_)
                refine ev_nil (hK27 _ ?_); clear hK27
                refine good_region rfl ?_
                refine ev_q rfl (q_move (by conv => lhs; whnf) ?_)
                refine ev_q rfl (q_int rfl rfl ?_)
                intro n33 hn33
                replace hn33 := in64 hn33 (by omega) (by omega)
                refine ev_q rfl (q_assign (by conv => lhs; whnf) ?_)
                refine ev_nil ?_
                clear hK6 hK13 hK19
                refine ⟨k + 1, ?_, ?_, ?_⟩
                · show 1 ≤ _ ∧ _ ≤ _; omega
                · first | omega | (simp only []; omega) | (dsimp only; omega)
                · refine sub_weak ?_ ?_
                  · exact weakH_row (rowEq (by first | exact cpR_F htk | exact cpR_set hp2 htk rfl)) (weakH_none _)
                  · refine weakE_upd ?e7 ?r7 (weakE_upd ?e6 ?r6 (weakE_upd ?e5 ?r5 (weakE_upd ?e1 ?r1 (weakE_upd ?e0 ?r0 (weakE_junk _ _)))))
                    case e0 => first | rfl | exact fI (by omega) | (simp_all)
                    case r0 => intro h hh; simp [refs] at hh; subst hh; rfl
                    case e1 => first | rfl | exact fI (by omega) | (simp_all)
                    case r1 => intro h hh; cases hh
                    case e5 => first | rfl | exact fI (by omega) | (first | exact fI (by rw [hl0]) | exact fI (by rw [show i + (k + 1) = i + k + 1 by omega, hst]; first | done | omega | (rw [List.length_append]; simp only [List.length_cons, List.length_nil]; omega)))
                    case r5 => intro h hh; cases hh
                    case e6 => first | rfl | exact fI (by omega) | (simp_all)
                    case r6 => intro h hh; simp [refs] at hh; subst hh; rfl
                    case e7 => first | rfl | exact fI (by omega) | (simp_all)
                    case r7 => intro h hh; cases hh
              · first | replace hb30 := dT hb30 | skip
                have htk := trP_F hp2 hq3 (by omega) hb30
                have hst := trG_F htk
                refine qo_q rfl (q_not rfl rfl ?_)
                refine qo_nil ?_
                refine ev_nil (hK28 _ ?_); clear hK28
                refine good_condF rfl ?_
                refine good_skip (hK27 _ ?_); clear hK27
                refine good_region rfl ?_
                refine ev_q rfl (q_move (by conv => lhs; whnf) ?_)
                refine ev_q rfl (q_int rfl rfl ?_)
                intro n34 hn34
                replace hn34 := in64 hn34 (by omega) (by omega)
                refine ev_q rfl (q_assign (by conv => lhs; whnf) ?_)
                refine ev_nil ?_
                clear hK6 hK13 hK19
                refine ⟨k + 1, ?_, ?_, ?_⟩
                · show 1 ≤ _ ∧ _ ≤ _; omega
                · first | omega | (simp only []; omega) | (dsimp only; omega)
                · refine sub_weak ?_ ?_
                  · exact weakH_row (rowEq (by first | exact cpR_F htk | exact cpR_set hp2 htk rfl)) (weakH_none _)
                  · refine weakE_upd ?e7 ?r7 (weakE_upd ?e6 ?r6 (weakE_upd ?e5 ?r5 (weakE_upd ?e1 ?r1 (weakE_upd ?e0 ?r0 (weakE_junk _ _)))))
                    case e0 => first | rfl | exact fI (by omega) | (simp_all)
                    case r0 => intro h hh; simp [refs] at hh; subst hh; rfl
                    case e1 => first | rfl | exact fI (by omega) | (simp_all)
                    case r1 => intro h hh; cases hh
                    case e5 => first | rfl | exact fI (by omega) | (first | exact fI (by rw [hl0]) | exact fI (by rw [show i + (k + 1) = i + k + 1 by omega, hst]; first | done | omega | (rw [List.length_append]; simp only [List.length_cons, List.length_nil]; omega)))
                    case r5 => intro h hh; cases hh
                    case e6 => first | rfl | exact fI (by omega) | (simp_all)
                    case r6 => intro h hh; simp [refs] at hh; subst hh; rfl
                    case e7 => first | rfl | exact fI (by omega) | (simp_all)
                    case r7 => intro h hh; cases hh
  · replace hb5 := dT hb5
    refine ev_nil (hK3 _ ?_); clear hK3
    refine good_condT rfl ?_
    refine good_seq fun K35 hK35 => ?_
    refine good_region rfl ?_
    refine ev_q rfl (q_move (by conv => lhs; whnf) ?_)
    refine ev_q rfl (q_assign (by conv => lhs; whnf) ?_)
    refine ev_nil (hK35 _ ?_); clear hK35
    refine good_ret ?_
    repeat (first | refine thenQ_ret ?_ | refine blockQ_ret ?_)
    refine fx_tmp rfl (by conv => lhs; whnf) ?_
    clear hK2
    first | (have e : trG xs xs.length = xs := trG_self (fun j h1 h2 => by first | exact hJ j h1 (by omega) | omega)) | (have e : trG xs (i + k) = trG xs xs.length := by rw [en])
    exact ⟨_, conv_eq (by first | rfl | (rw [e]; done) | (rw [e]; rfl) | exact ownEq (by first | omega | simp_all)), weakH_row (rowEq (by first | exact (cpC_same e).symm | exact cpR_clr en rfl rfl)) (weakH_none _), refsIn_ok rfl⟩

-- slices.IndexFunc[[]impl.Step,impl.Step]
set_option maxRecDepth 20000 in
set_option maxHeartbeats 2000000 in
theorem D_slices_IndexFunc_impl_Step_impl_Step (f : Nat) (caps : List AV) (p : Int × Int → Prop) [DecidablePred p] (xs : List (Int × Int)) (hx : xs.length ≤ 8796093022208) (hf : ∀ x ∈ xs, Den Try.prog f (stp x :: caps) (.s (.bool (decide (p x))))) : Den Try.prog 153 [.lst 2 (xs.map stp), .fn f caps] (.s (.int .i64 ((match xs.findIdx? (fun x => decide (p x)) with | some j => (j : Int) | none => -1)))) := by
  refine den_of_good Try.func153 (by decide) rfl (Nat.le_of_ble_eq_true rfl) (Nat.le_of_ble_eq_true rfl) ?_
  refine good_seq fun K1 hK1 => ?_
  refine good_region rfl ?_
  refine ev_q rfl (q_assign (by conv => lhs; whnf) ?_)
  refine ev_nil (hK1 _ ?_); clear hK1
  refine good_seq fun K2 hK2 => ?_
  refine good_seq fun K3 hK3 => ?_
  refine good_region rfl ?_
  refine ev_q rfl (q_move (by conv => lhs; whnf) ?_)
  refine ev_q rfl (q_len tEs50 rfl ?_)
  intro n4 hn4
  try simp only [List.length_map] at hn4
  refine ev_q rfl (q_move (by conv => lhs; whnf) ?_)
  refine ev_nil (hK3 _ ?_); clear hK3
  refine good_block ?_
  refine good_loop (α := Nat) (fun i => { env := upd (upd (upd (upd ((fun _ => .junk)) 0 (.lst 2 (xs.map stp))) 1 (.fn f caps)) 7 (.s (.int .i64 ((xs.length : Int))))) 8 (.s (.int .i64 i)), H := fun _ => none }) (fun i => i ≤ xs.length ∧ ∀ j q, j < i → xs[j]? = some q → ¬ p q) (fun i => xs.length - i) 0 ?_ ?_ ?_
  · exact ⟨by omega, fun j u hj => by omega⟩
  · refine sub_weak ?_ ?_
    · exact weakH_none _
    · refine weakE_upd ?e8 ?r8 (weakE_upd ?e7 ?r7 (weakE_upd ?e1 ?r1 (weakE_upd ?e0 ?r0 (weakE_junk _ _))))
      case e0 => first | rfl | exact fI (by omega) | (simp_all)
      case r0 => intro h hh; cases hh
      case e1 => first | rfl | exact fI (by omega) | (simp_all)
      case r1 => intro h hh; cases hh
      case e7 => first | rfl | exact fI (by omega) | (simp_all)
      case r7 => intro h hh; cases hh
      case e8 => first | rfl | exact fI (by omega) | (simp_all)
      case r8 => intro h hh; cases hh
  · rintro i ⟨hI, hJ⟩
    refine good_seq fun K5 hK5 => ?_
    refine good_region rfl ?_
    refine ev_q rfl (q_int rfl rfl ?_)
    intro b6 hb6; cases b6
    · replace hb6 := dF hb6
      refine ev_nil (hK5 _ ?_); clear hK5
      refine good_seq fun K7 hK7 => ?_
      refine good_condF rfl ?_
      refine good_exit ?_
      repeat (first | refine thenQ_exit ?_ | refine blockQ_pass rfl ?_)
      refine blockQ_exit (hK2 _ ?_); clear hK2
      refine good_seq fun K8 hK8 => ?_
      refine good_region rfl ?_
      refine ev_q rfl (q_assign (by conv => lhs; whnf) ?_)
      refine ev_nil (hK8 _ ?_); clear hK8
      refine good_ret ?_
      repeat (first | refine thenQ_ret ?_ | refine blockQ_ret ?_)
      refine ret_tmp (st := _) rfl (by conv => lhs; whnf) rfl ?_
      clear hK7
      first | exact fI (by have e := fi_some (i := i) hq hJ (by assumption); simp only [e]) | exact fI (by have e := fi_none (all_finI (Q := fun _ q => ¬ p q) hJ (by omega)); simp only [e])
    · replace hb6 := dT hb6
      obtain ⟨q, hq⟩ := getL (xs := xs) (n := (i : Int)) (by omega) (by omega)
      replace hq : xs[i]? = some q := hq
      refine ev_nil (hK5 _ ?_); clear hK5
      refine good_seq fun K9 hK9 => ?_
      refine good_condT rfl ?_
      refine good_skip (hK9 _ ?_); clear hK9
      refine good_seq fun K10 hK10 => ?_
      refine good_block ?_
      refine good_seq fun K11 hK11 => ?_
      refine good_region rfl ?_
      refine ev_q rfl (q_move (by conv => lhs; whnf) ?_)
      refine ev_q rfl (q_assign (by conv => lhs; whnf) ?_)
      refine ev_nil (hK11 _ ?_); clear hK11
      refine good_seq fun K12 hK12 => ?_
      refine good_region rfl ?_
      refine ev_q rfl (q_move (by conv => lhs; whnf) ?_)
      refine ev_q rfl (q_move (by conv => lhs; whnf) ?_)
      refine ev_q rfl (q_move (by conv => lhs; whnf) ?_)
      refine ev_q rfl (q_idx tE50 rfl rfl (by exact Int.natCast_nonneg _) (by exact map_get hq) rfl ?_)
      refine ev_q rfl (q_loadA tA103 rfl rfl rfl ?_)
      refine ev_q rfl (q_callB rfl rfl (rfl) (hf _ (List.mem_of_getElem? hq)) ?_)
      intro b13 hb13; cases b13
      · first | replace hb13 := dF hb13 | skip
        refine ev_nil (hK12 _ ?_); clear hK12
        refine good_condF rfl ?_
        refine good_skip (hK10 _ ?_); clear hK10
        refine good_region rfl ?_
        refine ev_q rfl (q_int rfl rfl ?_)
        intro n14 hn14
        replace hn14 := in64 hn14 (by omega) (by omega)
        refine ev_q rfl (q_move (by conv => lhs; whnf) ?_)
        refine ev_nil ?_
        clear hK2
        refine ⟨i + 1, ?_, ?_, ?_⟩
        · exact ⟨by omega, all_extI (Q := fun _ q => ¬ p q) hJ hq (by assumption)⟩
        · first | omega | (simp only []; omega) | (dsimp only; omega)
        · refine sub_weak ?_ ?_
          · exact weakH_none _
          · refine weakE_upd ?e8 ?r8 (weakE_upd ?e7 ?r7 (weakE_upd ?e1 ?r1 (weakE_upd ?e0 ?r0 (weakE_junk _ _))))
            case e0 => first | rfl | exact fI (by omega) | (simp_all)
            case r0 => intro h hh; cases hh
            case e1 => first | rfl | exact fI (by omega) | (simp_all)
            case r1 => intro h hh; cases hh
            case e7 => first | rfl | exact fI (by omega) | (simp_all)
            case r7 => intro h hh; cases hh
            case e8 => first | rfl | exact fI (by omega) | (simp_all)
            case r8 => intro h hh; cases hh
      · first | replace hb13 := dT hb13 | skip
        refine ev_nil (hK12 _ ?_); clear hK12
        refine good_condT rfl ?_
        refine good_seq fun K15 hK15 => ?_
        refine good_region rfl ?_
        refine ev_q rfl (q_move (by conv => lhs; whnf) ?_)
        refine ev_q rfl (q_assign (by conv => lhs; whnf) ?_)
        refine ev_nil (hK15 _ ?_); clear hK15
        refine good_ret ?_
        repeat (first | refine thenQ_ret ?_ | refine blockQ_ret ?_)
        refine ret_tmp (st := _) rfl (by conv => lhs; whnf) rfl ?_
        clear hK2 hK10
        first | exact fI (by have e := fi_some (i := i) hq hJ (by assumption); simp only [e]) | exact fI (by have e := fi_none (all_finI (Q := fun _ q => ¬ p q) hJ (by omega)); simp only [e])

-- slices.ContainsFunc[[]impl.Step,impl.Step]
set_option maxRecDepth 20000 in
set_option maxHeartbeats 2000000 in
theorem D_slices_ContainsFunc_impl_Step_impl_Step (f : Nat) (caps : List AV) (p : Int × Int → Prop) [DecidablePred p] (xs : List (Int × Int)) [Decidable (∃ x ∈ xs, p x)] (hx : xs.length ≤ 8796093022208) (hf : ∀ x ∈ xs, Den Try.prog f (stp x :: caps) (.s (.bool (decide (p x))))) : Den Try.prog 130 [.lst 2 (xs.map stp), .fn f caps] (.s (.bool (decide (∃ x ∈ xs, p x)))) := by
  refine den_of_good Try.func130 (by decide) rfl (Nat.le_of_ble_eq_true rfl) (Nat.le_of_ble_eq_true rfl) ?_
  refine good_seq fun K1 hK1 => ?_
  refine good_region rfl ?_
  refine ev_q rfl (q_assign (by conv => lhs; whnf) ?_)
  refine ev_nil (hK1 _ ?_); clear hK1
  refine good_seq fun K2 hK2 => ?_
  refine good_region rfl ?_
  refine ev_q rfl (q_move (by conv => lhs; whnf) ?_)
  refine ev_q rfl (q_move (by conv => lhs; whnf) ?_)
  refine ev_q rfl (q_callI rfl rfl (rfl) (D_slices_IndexFunc_impl_Step_impl_Step f caps p xs hx hf) ?_)
  intro n3 hn3
  refine ev_q rfl (q_int rfl rfl ?_)
  intro b4 hb4; cases b4
  · replace hb4 := dF hb4
    refine ev_q rfl (q_assign (by conv => lhs; whnf) ?_)
    refine ev_nil (hK2 _ ?_); clear hK2
    refine good_ret ?_
    repeat (first | refine thenQ_ret ?_ | refine blockQ_ret ?_)
    refine ret_tmp (st := _) rfl (by conv => lhs; whnf) rfl ?_
    first | exact fT (fi_any.1 (by omega)) | exact fF (fun h => absurd (fi_any.2 h) (by omega))
  · replace hb4 := dT hb4
    refine ev_q rfl (q_assign (by conv => lhs; whnf) ?_)
    refine ev_nil (hK2 _ ?_); clear hK2
    refine good_ret ?_
    repeat (first | refine thenQ_ret ?_ | refine blockQ_ret ?_)
    refine ret_tmp (st := _) rfl (by conv => lhs; whnf) rfl ?_
    first | exact fT (fi_any.1 (by omega)) | exact fF (fun h => absurd (fi_any.2 h) (by omega))

-- impl.trimmedWave$1
set_option maxRecDepth 20000 in
set_option maxHeartbeats 2000000 in
theorem D_impl_trimmedWave_1 (p q : Int × Int)  : Den Try.prog 129 [(stp p), (stp q)] (.s (.bool (decide (p.2 = q.2)))) := by
  refine den_of_good Try.func129 (by decide) rfl (Nat.le_of_ble_eq_true rfl) (Nat.le_of_ble_eq_true rfl) ?_
  refine good_seq fun K1 hK1 => ?_
  refine good_region rfl ?_
  refine ev_k rfl (k_box (by conv => lhs; whnf) rfl rfl rfl ?_)
  refine ev_k rfl (k_box (by conv => lhs; whnf) rfl rfl rfl ?_)
  refine ev_q rfl (q_assign (by conv => lhs; whnf) ?_)
  refine ev_nil (hK1 _ ?_); clear hK1
  refine good_seq fun K2 hK2 => ?_
  refine good_region rfl ?_
  refine ev_q rfl (q_fieldAddrP fO103_1 rfl rfl ?_)
  refine ev_q rfl (q_load tA2 rfl ?_)
  refine ev_q rfl (q_fieldAddrP fO103_1 rfl rfl ?_)
  refine ev_q rfl (q_load tA2 rfl ?_)
  refine ev_q rfl (q_int rfl rfl ?_)
  intro b3 hb3; cases b3
  · replace hb3 := eqF hb3
    refine ev_q rfl (q_assign (by conv => lhs; whnf) ?_)
    refine ev_nil (hK2 _ ?_); clear hK2
    refine good_ret ?_
    repeat (first | refine thenQ_ret ?_ | refine blockQ_ret ?_)
    refine ret_tmp (st := _) rfl (by conv => lhs; whnf) rfl ?_
    first | rfl | exact fT (by first | omega | grind) | exact fF (by first | omega | grind) | exact fT' (by first | omega | grind) | (exfalso; first | omega | grind)
  · replace hb3 := eqT hb3
    refine ev_q rfl (q_assign (by conv => lhs; whnf) ?_)
    refine ev_nil (hK2 _ ?_); clear hK2
    refine good_ret ?_
    repeat (first | refine thenQ_ret ?_ | refine blockQ_ret ?_)
    refine ret_tmp (st := _) rfl (by conv => lhs; whnf) rfl ?_
    first | rfl | exact fT (by first | omega | grind) | exact fF (by first | omega | grind) | exact fT' (by first | omega | grind) | (exfalso; first | omega | grind)

-- impl.trimmedWave$2
set_option maxRecDepth 20000 in
set_option maxHeartbeats 2000000 in
theorem D_impl_trimmedWave_2 (p : Int × Int)  : Den Try.prog 131 [(stp p)] (.s (.bool (decide (¬ (0 ≤ p.1 ∧ p.1 ≤ 1000000))))) := by
  refine den_of_good Try.func131 (by decide) rfl (Nat.le_of_ble_eq_true rfl) (Nat.le_of_ble_eq_true rfl) ?_
  refine good_seq fun K1 hK1 => ?_
  refine good_region rfl ?_
  refine ev_k rfl (k_box (by conv => lhs; whnf) rfl rfl rfl ?_)
  refine ev_q rfl (q_assign (by conv => lhs; whnf) ?_)
  refine ev_nil (hK1 _ ?_); clear hK1
  refine good_seq fun K2 hK2 => ?_
  refine good_region rfl ?_
  refine ev_q rfl (q_fieldAddrP fO103_0 rfl rfl ?_)
  refine ev_q rfl (q_load tA2 rfl ?_)
  refine ev_q rfl (q_callB rfl rfl (rfl) (D_impl_timeOk ..) ?_)
  intro b3 hb3; cases b3
  · first | replace hb3 := dF hb3 | skip
    refine ev_q rfl (q_not rfl rfl ?_)
    refine ev_q rfl (q_assign (by conv => lhs; whnf) ?_)
    refine ev_nil (hK2 _ ?_); clear hK2
    refine good_ret ?_
    repeat (first | refine thenQ_ret ?_ | refine blockQ_ret ?_)
    refine ret_tmp (st := _) rfl (by conv => lhs; whnf) rfl ?_
    first | rfl | exact fT (by first | omega | grind) | exact fF (by first | omega | grind) | exact fT' (by first | omega | grind) | (exfalso; first | omega | grind)
  · first | replace hb3 := dT hb3 | skip
    refine ev_q rfl (q_not rfl rfl ?_)
    refine ev_q rfl (q_assign (by conv => lhs; whnf) ?_)
    refine ev_nil (hK2 _ ?_); clear hK2
    refine good_ret ?_
    repeat (first | refine thenQ_ret ?_ | refine blockQ_ret ?_)
    refine ret_tmp (st := _) rfl (by conv => lhs; whnf) rfl ?_
    first | rfl | exact fT (by first | omega | grind) | exact fF (by first | omega | grind) | exact fT' (by first | omega | grind) | (exfalso; first | omega | grind)

-- impl.trimmedWave
set_option maxRecDepth 20000 in
set_option maxHeartbeats 2000000 in
theorem D_impl_trimmedWave_X (xs : List (Int × Int)) (hx : xs.length ≤ 8796093022208) : DenX Try.prog 90 [] [.lst 2 (xs.map stp)] [(900004, .row 103 2 ((tmR xs).map stp))] (.tup [.own 900004 (tmR xs).length, .s (.int .i64 (tmC xs))]) := by
  have hln := trG_len (xs := xs) xs.length
  refine denX_of_good Try.func90 (by decide) rfl (Nat.le_of_ble_eq_true rfl) (Nat.le_of_ble_eq_true rfl) rfl ?_
  refine good_seq fun K1 hK1 => ?_
  refine good_region rfl ?_
  refine ev_q rfl (q_assign (by conv => lhs; whnf) ?_)
  refine ev_q rfl (q_assign (by conv => lhs; whnf) ?_)
  refine ev_nil (hK1 _ ?_); clear hK1
  refine good_seq fun K2 hK2 => ?_
  refine good_region rfl ?_
  refine ev_q rfl (q_move (by conv => lhs; whnf) ?_)
  refine ev_k rfl (k_callX [(7, 900001)] (D_slices_Clone_impl_Step_impl_Step_X xs hx) rfl (rfl) (rfl) trivial ⟨⟨rfl, show (900001 : Nat) < 1000000 by decide⟩, trivial⟩ rfl rfl rfl ?_)
  refine ev_k rfl (k_callX [(1000000, 900001)] (D_slices_CompactFunc_impl_Step_impl_Step _ _ xs hx (fun a b => D_impl_trimmedWave_1 a b)) rfl (rfl) (rfl) ⟨rfl, trivial⟩ ⟨rfl, ⟨rfl, rfl, by rw [cpC_len]; simp⟩, trivial⟩ rfl rfl rfl ?_)
  refine ev_q rfl (q_assign (by conv => lhs; whnf) ?_)
  refine ev_nil (hK2 _ ?_); clear hK2
  refine good_seq fun K3 hK3 => ?_
  refine good_block ?_
  refine good_seq fun K4 hK4 => ?_
  refine good_weak (sub_shrE 4 900001 900003 rfl rfl rfl (by decide) cpC_take) ?_
  refine good_region rfl ?_
  refine ev_q rfl (q_move (by conv => lhs; whnf) ?_)
  refine ev_q rfl (q_callB rfl rfl (by change ([.lst 2 (List.take (trG xs xs.length).length ((trG xs xs.length).map stp)), .fn 131 []] : List AV) = _; simp only [takeMap]) (D_slices_ContainsFunc_impl_Step_impl_Step _ _ (fun p => ¬ (0 ≤ p.1 ∧ p.1 ≤ 1000000)) (trG xs xs.length) (by omega) (fun x _ => D_impl_trimmedWave_2 x)) ?_)
  intro b5 hb5; cases b5
  · first | replace hb5 := dF hb5 | skip
    have hnb : ¬ tmB xs := hb5
    refine ev_q rfl (q_assign (by conv => lhs; whnf) ?_)
    refine ev_nil (hK4 _ ?_); clear hK4
    refine good_condF rfl ?_
    refine good_seq fun K6 hK6 => ?_
    refine good_region rfl ?_
    refine ev_q rfl (q_move (by conv => lhs; whnf) ?_)
    refine ev_q rfl (q_len tEs50 rfl ?_)
    intro n7 hn7
    try simp only [List.length_map] at hn7
    refine ev_q rfl (q_int rfl rfl ?_)
    intro b8 hb8; cases b8
    · replace hb8 := dF hb8
      have e2 := tmC_0 hnb (by omega)
      refine ev_q rfl (q_assign (by conv => lhs; whnf) ?_)
      refine ev_nil (hK6 _ ?_); clear hK6
      refine good_condF rfl ?_
      refine good_skip (hK3 _ ?_); clear hK3
      refine good_seq fun K9 hK9 => ?_
      refine good_region rfl ?_
      refine ev_q rfl (q_move (by conv => lhs; whnf) ?_)
      refine ev_q rfl (q_assign (by conv => lhs; whnf) ?_)
      refine ev_q rfl (q_assign (by conv => lhs; whnf) ?_)
      refine ev_nil (hK9 _ ?_); clear hK9
      first | refine good_weak (sub_move 2 900003 900004 rfl rfl rfl (by decide)) ?_ | skip
      refine good_ret ?_
      repeat (first | refine thenQ_ret ?_ | refine blockQ_ret ?_)
      refine fx_many rfl ?_
      refine fxs_tmp (by conv => lhs; whnf) ?_
      refine fxs_tmp (by conv => lhs; whnf) ?_
      refine fx_nil ?_
      first | (have e : tmR xs = [] := tmR_no (by omega)) | (have e : tmR xs = trG xs xs.length := tmR_ok e2)
      exact ⟨_, .tup (.cons (conv_eq (by first | rfl | (rw [e]; done) | (rw [e]; rfl) | exact ownEq (by first | omega | simp_all))) (.cons (conv_eq (by first | rfl | exact fI (by omega) | (exfalso; first | omega | grind))) (.nil))), weakH_row (rowEq (by first | rfl | (rw [e]; done) | (rw [e]; rfl) | (simp_all; done))) (weakH_none _), refsIn_ok rfl⟩
    · replace hb8 := dT hb8
      have e2 := tmC_5 hnb (by omega)
      refine ev_q rfl (q_assign (by conv => lhs; whnf) ?_)
      refine ev_nil (hK6 _ ?_); clear hK6
      refine good_condT rfl ?_
      refine good_seq fun K10 hK10 => ?_
      refine good_region rfl ?_
      refine ev_q rfl (q_assign (by conv => lhs; whnf) ?_)
      refine ev_q rfl (q_assign (by conv => lhs; whnf) ?_)
      refine ev_nil (hK10 _ ?_); clear hK10
      first | refine good_weak (sub_move 2 900003 900004 rfl rfl rfl (by decide)) ?_ | skip
      refine good_ret ?_
      repeat (first | refine thenQ_ret ?_ | refine blockQ_ret ?_)
      refine fx_many rfl ?_
      refine fxs_tmp (by conv => lhs; whnf) ?_
      refine fxs_tmp (by conv => lhs; whnf) ?_
      refine fx_nil ?_
      clear hK3
      first | (have e : tmR xs = [] := tmR_no (by omega)) | (have e : tmR xs = trG xs xs.length := tmR_ok e2)
      exact ⟨_, .tup (.cons (conv_nil rfl (by decide) (by rw [e]; rfl)) (.cons (conv_eq (by first | rfl | exact fI (by omega) | (exfalso; first | omega | grind))) (.nil))), weakH_row (rowEq (by first | rfl | (rw [e]; done) | (rw [e]; rfl) | (simp_all; done))) (weakH_none _), refsIn_ok rfl⟩
  · first | replace hb5 := dT hb5 | skip
    have e2 := tmC_6 (xs := xs) hb5
    refine ev_q rfl (q_assign (by conv => lhs; whnf) ?_)
    refine ev_nil (hK4 _ ?_); clear hK4
    refine good_condT rfl ?_
    refine good_seq fun K11 hK11 => ?_
    refine good_region rfl ?_
    refine ev_q rfl (q_assign (by conv => lhs; whnf) ?_)
    refine ev_q rfl (q_assign (by conv => lhs; whnf) ?_)
    refine ev_nil (hK11 _ ?_); clear hK11
    first | refine good_weak (sub_move 2 900003 900004 rfl rfl rfl (by decide)) ?_ | skip
    refine good_ret ?_
    repeat (first | refine thenQ_ret ?_ | refine blockQ_ret ?_)
    refine fx_many rfl ?_
    refine fxs_tmp (by conv => lhs; whnf) ?_
    refine fxs_tmp (by conv => lhs; whnf) ?_
    refine fx_nil ?_
    clear hK3
    first | (have e : tmR xs = [] := tmR_no (by omega)) | (have e : tmR xs = trG xs xs.length := tmR_ok e2)
    exact ⟨_, .tup (.cons (conv_nil rfl (by decide) (by rw [e]; rfl)) (.cons (conv_eq (by first | rfl | exact fI (by omega) | (exfalso; first | omega | grind))) (.nil))), weakH_row (rowEq (by first | rfl | (rw [e]; done) | (rw [e]; rfl) | (simp_all; done))) (weakH_none _), refsIn_ok rfl⟩

-- spec.l09Trim
set_option maxRecDepth 20000 in
set_option maxHeartbeats 2000000 in
theorem D_spec_l09Trim_X (xs : List (Int × Int)) (hx : xs.length ≤ 8796093022208) : DenX Try.prog 87 [] [.lst 2 (xs.map stp)] [(36, .row 103 2 ((trG xs xs.length).map stp))] (.own 36 (trG xs xs.length).length) := by
  refine denX_of_good Try.func87 (by decide) rfl (Nat.le_of_ble_eq_true rfl) (Nat.le_of_ble_eq_true rfl) rfl ?_
  refine good_seq fun K1 hK1 => ?_
  refine good_region rfl ?_
  refine ev_q rfl (q_assign (by conv => lhs; whnf) ?_)
  refine ev_nil (hK1 _ ?_); clear hK1
  refine good_seq fun K2 hK2 => ?_
  refine good_region rfl ?_
  refine ev_k rfl (k_lit tE50 zA103 rfl rfl (by decide) (by decide) rfl rfl rfl ?_)
  refine ev_q rfl (q_assign (by conv => lhs; whnf) ?_)
  refine ev_nil (hK2 _ ?_); clear hK2
  refine good_seq fun K3 hK3 => ?_
  refine good_seq fun K4 hK4 => ?_
  refine good_region rfl ?_
  refine ev_q rfl (q_assign (by conv => lhs; whnf) ?_)
  refine ev_nil (hK4 _ ?_); clear hK4
  refine good_block ?_
  refine good_loop (α := Nat) (fun i => { env := upd (upd (upd ((fun _ => .junk)) 0 (.lst 2 (xs.map stp))) 3 (.own 36 (trG xs i).length)) 4 (.s (.int .i64 i)), H := upd ((fun _ => none)) 36 (some (.row 103 2 ((trG xs i).map stp))) }) (fun i => i ≤ xs.length) (fun i => xs.length - i) 0 ?_ ?_ ?_
  · show 0 ≤ _; omega
  · refine Sub.trans (sub_move 3 5 36 rfl rfl rfl (by decide)) ?_
    refine sub_weak ?_ ?_
    · exact weakH_row (rowEq (rfl)) (weakH_none _)
    · refine weakE_upd ?e4 ?r4 (weakE_upd ?e3 ?r3 (weakE_upd ?e0 ?r0 (weakE_junk _ _)))
      case e0 => first | rfl | exact fI (by omega) | (simp_all)
      case r0 => intro h hh; cases hh
      case e3 => first | rfl | exact fI (by omega) | (first | rfl | (rw [hst]; done) | (rw [hst]; exact ownEq (by simp)))
      case r3 => intro h hh; simp [refs] at hh; subst hh; rfl
      case e4 => first | rfl | exact fI (by omega) | (simp_all)
      case r4 => intro h hh; cases hh
  · rintro i hI
    refine good_seq fun K5 hK5 => ?_
    refine good_seq fun K6 hK6 => ?_
    refine good_region rfl ?_
    refine ev_q rfl (q_move (by conv => lhs; whnf) ?_)
    refine ev_q rfl (q_move (by conv => lhs; whnf) ?_)
    refine ev_q rfl (q_len tEs50 rfl ?_)
    intro n7 hn7
    try simp only [List.length_map] at hn7
    refine ev_q rfl (q_int rfl rfl ?_)
    intro b8 hb8; cases b8
    · replace hb8 := dF hb8
      refine ev_nil (hK6 _ ?_); clear hK6
      refine good_condF rfl ?_
      refine good_exit ?_
      repeat (first | refine thenQ_exit ?_ | refine blockQ_pass rfl ?_)
      refine blockQ_exit (hK3 _ ?_); clear hK3
      refine good_seq fun K9 hK9 => ?_
      refine good_region rfl ?_
      refine ev_q rfl (q_move (by conv => lhs; whnf) ?_)
      refine ev_q rfl (q_assign (by conv => lhs; whnf) ?_)
      refine ev_nil (hK9 _ ?_); clear hK9
      refine good_ret ?_
      repeat (first | refine thenQ_ret ?_ | refine blockQ_ret ?_)
      refine fx_tmp rfl (by conv => lhs; whnf) ?_
      clear hK5
      have e : trG xs xs.length = trG xs i := by rw [show xs.length = i by omega]
      exact ⟨_, conv_eq (by first | rfl | (rw [e]; done) | (rw [e]; rfl) | exact ownEq (by first | omega | simp_all)), weakH_row (rowEq (by first | rfl | (rw [e]; done) | (rw [e]; rfl) | (simp_all; done))) (weakH_none _), refsIn_ok rfl⟩
    · replace hb8 := dT hb8
      obtain ⟨p, hp⟩ := getL (xs := xs) (n := (i : Int)) (by omega) (by omega)
      replace hp : xs[i]? = some p := hp
      have hdp := dgA_eq hp
      have hle := trG_len (xs := xs) i
      refine ev_nil (hK6 _ ?_); clear hK6
      refine good_condT rfl ?_
      refine good_skip (hK5 _ ?_); clear hK5
      refine good_seq fun K10 hK10 => ?_
      refine good_block ?_
      refine good_seq fun K11 hK11 => ?_
      refine good_draw 18 hmix (by kernel_rfl) rfl ?_
      refine qo_q rfl (q_move (by conv => lhs; whnf) ?_)
      refine qo_q rfl (q_len tEs50 rfl ?_)
      intro n12 hn12
      try simp only [List.length_map] at hn12
      refine qo_q rfl (q_int rfl rfl ?_)
      intro b13 hb13; cases b13
      · replace hb13 := eqF hb13
        have h0 : 1 ≤ i := by omega
        have hlast := trG_last (xs := xs) i h0 (by omega)
        refine qo_q rfl (q_move (by conv => lhs; whnf) ?_)
        refine qo_q rfl (q_move (by conv => lhs; whnf) ?_)
        refine qo_q rfl (q_move (by conv => lhs; whnf) ?_)
        refine qo_q rfl (q_len tEs50 rfl ?_)
        intro n14 hn14
        try simp only [List.length_map] at hn14
        refine qo_q rfl (q_int rfl rfl ?_)
        intro n15 hn15
        replace hn15 := in64 hn15 (by omega) (by omega)
        obtain ⟨l, hl⟩ := getL (xs := trG xs i) (n := n15) (by omega) (by omega)
        have hl2 : (trG xs i)[(trG xs i).length - 1]? = some l := by rw [← hl]; congr 1; omega
        refine qo_q rfl (q_idxO tE50 rfl rfl rfl (by omega) (by omega) rfl ?_)
        refine qo_q rfl (q_fieldAddrE fO103_1 rfl rfl ?_)
        refine qo_q rfl (q_loadE tA2 rfl rfl (by exact map_get hl) rfl ?_)
        refine qo_q rfl (q_move (by conv => lhs; whnf) ?_)
        refine qo_q rfl (q_move (by conv => lhs; whnf) ?_)
        refine qo_q rfl (q_idx tE50 rfl rfl (by exact Int.natCast_nonneg _) (by exact map_get hp) rfl ?_)
        refine qo_q rfl (q_fieldAddr fO103_1 rfl rfl ?_)
        refine qo_q rfl (q_load tA2 rfl ?_)
        refine qo_q rfl (q_int rfl rfl ?_)
        intro b16 hb16; cases b16
        · replace hb16 := neF hb16
          have htk : ¬ trP xs i := fun h => h.elim (by omega) (fun hc => hc (by rw [hdp]; have := hlast.2 l hl2; omega))
          have hst := trG_F htk
          refine qo_q rfl (q_pickF rfl (by conv => lhs; whnf) ?_)
          refine qo_nil ?_
          refine ev_nil (hK11 _ ?_); clear hK11
          refine good_condF rfl ?_
          refine good_skip (hK10 _ ?_); clear hK10
          refine good_region rfl ?_
          refine ev_q rfl (q_move (by conv => lhs; whnf) ?_)
          refine ev_q rfl (q_int rfl rfl ?_)
          intro n17 hn17
          replace hn17 := in64 hn17 (by omega) (by omega)
          refine ev_q rfl (q_assign (by conv => lhs; whnf) ?_)
          refine ev_nil ?_
          clear hK3
          refine ⟨i + 1, ?_, ?_, ?_⟩
          · show _ ≤ _; omega
          · first | omega | (simp only []; omega) | (dsimp only; omega)
          · refine sub_weak ?_ ?_
            · exact weakH_row (rowEq (by first | exact appS hst rfl | rw [hst])) (weakH_none _)
            · refine weakE_upd ?e4 ?r4 (weakE_upd ?e3 ?r3 (weakE_upd ?e0 ?r0 (weakE_junk _ _)))
              case e0 => first | rfl | exact fI (by omega) | (simp_all)
              case r0 => intro h hh; cases hh
              case e3 => first | rfl | exact fI (by omega) | (first | rfl | (rw [hst]; done) | (rw [hst]; exact ownEq (by simp)))
              case r3 => intro h hh; simp [refs] at hh; subst hh; rfl
              case e4 => first | rfl | exact fI (by omega) | (simp_all)
              case r4 => intro h hh; cases hh
        · replace hb16 := neT hb16
          have htk : trP xs i := .inr (by rw [hdp]; intro hc; have := hlast.2 l hl2; omega)
          have hst := trG_T hp htk
          refine qo_q rfl (q_pickF rfl (by conv => lhs; whnf) ?_)
          refine qo_nil ?_
          refine ev_nil (hK11 _ ?_); clear hK11
          refine good_condT rfl ?_
          refine good_region rfl ?_
          refine ev_q rfl (q_move (by conv => lhs; whnf) ?_)
          refine ev_q rfl (q_move (by conv => lhs; whnf) ?_)
          refine ev_q rfl (q_move (by conv => lhs; whnf) ?_)
          refine ev_q rfl (q_idx tE50 rfl rfl (by exact Int.natCast_nonneg _) (by exact map_get hp) rfl ?_)
          refine ev_q rfl (q_loadA tA103 rfl rfl rfl ?_)
          refine ev_k rfl (k_lit tE50 zA103 rfl rfl (by decide) (by decide) rfl rfl rfl ?_)
          refine ev_k rfl (k_app tApp50 rfl rfl (by simp) rfl (.inr rfl) (by have := trG_len (xs := xs) i; simp [maxLen]; omega) (by have := trG_len (xs := xs) i; simp; omega) ?_)
          refine ev_q rfl (q_assign (by conv => lhs; whnf) ?_)
          refine ev_nil (hK10 _ ?_); clear hK10
          refine good_region rfl ?_
          refine ev_q rfl (q_move (by conv => lhs; whnf) ?_)
          refine ev_q rfl (q_int rfl rfl ?_)
          intro n18 hn18
          replace hn18 := in64 hn18 (by omega) (by omega)
          refine ev_q rfl (q_assign (by conv => lhs; whnf) ?_)
          refine ev_nil ?_
          clear hK3
          refine ⟨i + 1, ?_, ?_, ?_⟩
          · show _ ≤ _; omega
          · first | omega | (simp only []; omega) | (dsimp only; omega)
          · refine sub_weak ?_ ?_
            · exact weakH_row (rowEq (by first | exact appS hst rfl | rw [hst])) (weakH_none _)
            · refine weakE_upd ?e4 ?r4 (weakE_upd ?e3 ?r3 (weakE_upd ?e0 ?r0 (weakE_junk _ _)))
              case e0 => first | rfl | exact fI (by omega) | (simp_all)
              case r0 => intro h hh; cases hh
              case e3 => first | rfl | exact fI (by omega) | (first | rfl | (rw [hst]; done) | (rw [hst]; exact ownEq (by simp)))
              case r3 => intro h hh; simp [refs] at hh; subst hh; rfl
              case e4 => first | rfl | exact fI (by omega) | (simp_all)
              case r4 => intro h hh; cases hh
      · replace hb13 := eqT hb13
        have h0 : i = 0 := by apply Classical.byContradiction; intro hc; have := (trG_last (xs := xs) i (by omega) (by omega)).1; omega
        have htk : trP xs i := .inl h0
        have hst := trG_T hp htk
        refine qo_q rfl (q_move (by conv => lhs; whnf) ?_)
        refine qo_skip rfl ?_
        refine qo_skip rfl ?_
        refine qo_skip rfl ?_
        refine qo_skip rfl ?_
        refine qo_skip rfl ?_
        refine qo_skip rfl ?_
        refine qo_skip rfl ?_
        refine qo_skip rfl ?_
        refine qo_skip rfl ?_
        refine qo_skip rfl ?_
        refine qo_skip rfl ?_
        refine qo_skip rfl ?_
        refine qo_skip rfl ?_
        refine qo_q rfl (q_pickT rfl (by conv => lhs; whnf) ?_)
        refine qo_nil ?_
        refine ev_nil (hK11 _ ?_); clear hK11
        refine good_condT rfl ?_
        refine good_region rfl ?_
        refine ev_q rfl (q_move (by conv => lhs; whnf) ?_)
        refine ev_q rfl (q_move (by conv => lhs; whnf) ?_)
        refine ev_q rfl (q_move (by conv => lhs; whnf) ?_)
        refine ev_q rfl (q_idx tE50 rfl rfl (by exact Int.natCast_nonneg _) (by exact map_get hp) rfl ?_)
        refine ev_q rfl (q_loadA tA103 rfl rfl rfl ?_)
        refine ev_k rfl (k_lit tE50 zA103 rfl rfl (by decide) (by decide) rfl rfl rfl ?_)
        refine ev_k rfl (k_app tApp50 rfl rfl (by simp) rfl (.inr rfl) (by have := trG_len (xs := xs) i; simp [maxLen]; omega) (by have := trG_len (xs := xs) i; simp; omega) ?_)
        refine ev_q rfl (q_assign (by conv => lhs; whnf) ?_)
        refine ev_nil (hK10 _ ?_); clear hK10
        refine good_region rfl ?_
        refine ev_q rfl (q_move (by conv => lhs; whnf) ?_)
        refine ev_q rfl (q_int rfl rfl ?_)
        intro n19 hn19
        replace hn19 := in64 hn19 (by omega) (by omega)
        refine ev_q rfl (q_assign (by conv => lhs; whnf) ?_)
        refine ev_nil ?_
        clear hK3
        refine ⟨i + 1, ?_, ?_, ?_⟩
        · show _ ≤ _; omega
        · first | omega | (simp only []; omega) | (dsimp only; omega)
        · refine sub_weak ?_ ?_
          · exact weakH_row (rowEq (by first | exact appS hst rfl | rw [hst])) (weakH_none _)
          · refine weakE_upd ?e4 ?r4 (weakE_upd ?e3 ?r3 (weakE_upd ?e0 ?r0 (weakE_junk _ _)))
            case e0 => first | rfl | exact fI (by omega) | (simp_all)
            case r0 => intro h hh; cases hh
            case e3 => first | rfl | exact fI (by omega) | (first | rfl | (rw [hst]; done) | (rw [hst]; exact ownEq (by simp)))
            case r3 => intro h hh; simp [refs] at hh; subst hh; rfl
            case e4 => first | rfl | exact fI (by omega) | (simp_all)
            case r4 => intro h hh; cases hh

-- laws.markStepS
set_option maxRecDepth 20000 in
set_option maxHeartbeats 2000000 in
theorem D_laws_markStepS (xs : List (Int × Int)) (k : Int) (hx : xs.length ≤ 8796093022208) (hk : 0 ≤ k ∧ k ≤ 1000000000000) : DenX Try.prog 36 [(1000000, .row 103 2 (xs.map stp))] [.own 1000000 xs.length, .s (.int .i64 k)] [(1000000, .row 103 2 (mkW k xs xs.length))] (.s (.int .i64 (k + 2 * xs.length))) := by
  refine denX_of_good Try.func36 (by decide) rfl (Nat.le_of_ble_eq_true rfl) (Nat.le_of_ble_eq_true rfl) rfl ?_
  refine good_seq fun K1 hK1 => ?_
  refine good_region rfl ?_
  refine ev_q rfl (q_assign (by conv => lhs; whnf) ?_)
  refine ev_nil (hK1 _ ?_); clear hK1
  refine good_seq fun K2 hK2 => ?_
  refine good_seq fun K3 hK3 => ?_
  refine good_region rfl ?_
  refine ev_q rfl (q_assign (by conv => lhs; whnf) ?_)
  refine ev_nil (hK3 _ ?_); clear hK3
  refine good_block ?_
  refine good_loop (α := Nat) (fun i => { env := upd (upd (upd ((fun _ => .junk)) 0 (.own 1000000 xs.length)) 1 (.s (.int .i64 (k + 2 * i)))) 5 (.s (.int .i64 i)), H := upd ((fun _ => none)) 1000000 (some (.row 103 2 (mkW k xs i))) }) (fun i => i ≤ xs.length) (fun i => xs.length - i) 0 ?_ ?_ ?_
  · show 0 ≤ _; omega
  · refine sub_weak ?_ ?_
    · exact weakH_row (rowEq (mkW0.symm)) (weakH_none _)
    · refine weakE_upd ?e5 ?r5 (weakE_upd ?e1 ?r1 (weakE_upd ?e0 ?r0 (weakE_junk _ _)))
      case e0 => first | rfl | exact fI (by omega) | (simp_all)
      case r0 => intro h hh; simp [refs] at hh; subst hh; rfl
      case e1 => first | rfl | exact fI (by omega) | (simp_all)
      case r1 => intro h hh; cases hh
      case e5 => first | rfl | exact fI (by omega) | (simp_all)
      case r5 => intro h hh; cases hh
  · rintro i hI
    refine good_seq fun K4 hK4 => ?_
    refine good_seq fun K5 hK5 => ?_
    refine good_region rfl ?_
    refine ev_q rfl (q_move (by conv => lhs; whnf) ?_)
    refine ev_q rfl (q_move (by conv => lhs; whnf) ?_)
    refine ev_q rfl (q_len tEs50 rfl ?_)
    intro n6 hn6
    try simp only [List.length_map] at hn6
    refine ev_q rfl (q_int rfl rfl ?_)
    intro b7 hb7; cases b7
    · replace hb7 := dF hb7
      refine ev_nil (hK5 _ ?_); clear hK5
      refine good_condF rfl ?_
      refine good_exit ?_
      repeat (first | refine thenQ_exit ?_ | refine blockQ_pass rfl ?_)
      refine blockQ_exit (hK2 _ ?_); clear hK2
      refine good_seq fun K8 hK8 => ?_
      refine good_region rfl ?_
      refine ev_q rfl (q_move (by conv => lhs; whnf) ?_)
      refine ev_q rfl (q_assign (by conv => lhs; whnf) ?_)
      refine ev_nil (hK8 _ ?_); clear hK8
      refine good_ret ?_
      repeat (first | refine thenQ_ret ?_ | refine blockQ_ret ?_)
      refine fx_tmp rfl (by conv => lhs; whnf) ?_
      clear hK4
      exact ⟨_, conv_eq (by first | rfl | exact fI (by first | omega | grind) | (exfalso; first | omega | grind)), weakH_row (rowEq (by rw [show i = xs.length by omega])) (weakH_none _), refsIn_ok rfl⟩
    · replace hb7 := dT hb7
      obtain ⟨p, hp⟩ := getL (xs := xs) (n := (i : Int)) (by omega) (by omega)
      replace hp : xs[i]? = some p := hp
      refine ev_nil (hK5 _ ?_); clear hK5
      refine good_condT rfl ?_
      refine good_skip (hK4 _ ?_); clear hK4
      refine good_seq fun K9 hK9 => ?_
      refine good_block ?_
      refine good_seq fun K10 hK10 => ?_
      refine good_region rfl ?_
      refine ev_q rfl (q_move (by conv => lhs; whnf) ?_)
      refine ev_q rfl (q_move (by conv => lhs; whnf) ?_)
      refine ev_q rfl (q_move (by conv => lhs; whnf) ?_)
      refine ev_q rfl (q_idxO tE50 rfl rfl rfl (by exact Int.natCast_nonneg _) (by omega) rfl ?_)
      refine ev_q rfl (q_fieldAddrE fO103_0 rfl rfl ?_)
      refine ev_k rfl (k_storeE sz2 rfl (by conv => lhs; whnf) rfl rfl rfl (Nat.le_of_ble_eq_true rfl) rfl (by first | exact mkW_get hp | exact setGet (by (try simp only [List.length_set]); rw [mkW_len (by omega)]; omega)) (Nat.le_of_ble_eq_true rfl) rfl ?_)
      refine ev_nil (hK10 _ ?_); clear hK10
      refine good_seq fun K11 hK11 => ?_
      refine good_region rfl ?_
      refine ev_q rfl (q_move (by conv => lhs; whnf) ?_)
      refine ev_q rfl (q_int rfl rfl ?_)
      intro n12 hn12
      replace hn12 := in64 hn12 (by omega) (by omega)
      refine ev_q rfl (q_assign (by conv => lhs; whnf) ?_)
      refine ev_nil (hK11 _ ?_); clear hK11
      refine good_seq fun K13 hK13 => ?_
      refine good_region rfl ?_
      refine ev_q rfl (q_move (by conv => lhs; whnf) ?_)
      refine ev_q rfl (q_move (by conv => lhs; whnf) ?_)
      refine ev_q rfl (q_move (by conv => lhs; whnf) ?_)
      refine ev_q rfl (q_idxO tE50 rfl rfl rfl (by exact Int.natCast_nonneg _) (by omega) rfl ?_)
      refine ev_q rfl (q_fieldAddrE fO103_1 rfl rfl ?_)
      refine ev_k rfl (k_storeE sz2 rfl (by conv => lhs; whnf) rfl rfl rfl (Nat.le_of_ble_eq_true rfl) rfl (by first | exact mkW_get hp | exact setGet (by (try simp only [List.length_set]); rw [mkW_len (by omega)]; omega)) (Nat.le_of_ble_eq_true rfl) rfl ?_)
      refine ev_nil (hK13 _ ?_); clear hK13
      refine good_region rfl ?_
      refine ev_q rfl (q_move (by conv => lhs; whnf) ?_)
      refine ev_q rfl (q_int rfl rfl ?_)
      intro n14 hn14
      replace hn14 := in64 hn14 (by omega) (by omega)
      refine ev_q rfl (q_assign (by conv => lhs; whnf) ?_)
      refine ev_nil (hK9 _ ?_); clear hK9
      refine good_region rfl ?_
      refine ev_q rfl (q_move (by conv => lhs; whnf) ?_)
      refine ev_q rfl (q_int rfl rfl ?_)
      intro n15 hn15
      replace hn15 := in64 hn15 (by omega) (by omega)
      refine ev_q rfl (q_assign (by conv => lhs; whnf) ?_)
      refine ev_nil ?_
      clear hK2
      refine ⟨i + 1, ?_, ?_, ?_⟩
      · show _ ≤ _; omega
      · first | omega | (simp only []; omega) | (dsimp only; omega)
      · refine sub_weak ?_ ?_
        · exact weakH_row (rowEq (mkW_step (by omega) (by omega))) (weakH_none _)
        · refine weakE_upd ?e5 ?r5 (weakE_upd ?e1 ?r1 (weakE_upd ?e0 ?r0 (weakE_junk _ _)))
          case e0 => first | rfl | exact fI (by omega) | (simp_all)
          case r0 => intro h hh; simp [refs] at hh; subst hh; rfl
          case e1 => first | rfl | exact fI (by omega) | (simp_all)
          case r1 => intro h hh; cases hh
          case e5 => first | rfl | exact fI (by omega) | (simp_all)
          case r5 => intro h hh; cases hh

-- laws.heldStepS
set_option maxRecDepth 20000 in
set_option maxHeartbeats 2000000 in
theorem D_laws_heldStepS (xs : List (Int × Int)) (k : Int) (hx : xs.length ≤ 8796093022208) (hk : 0 ≤ k ∧ k ≤ 1000000000000) : Den Try.prog 37 [.lst 2 (mkW k xs xs.length), .s (.int .i64 k)] (.s (.int .i64 (k + 2 * xs.length))) := by
  have hln := mkW_len (k := k) (xs := xs) (Nat.le_refl _)
  refine den_of_good Try.func37 (by decide) rfl (Nat.le_of_ble_eq_true rfl) (Nat.le_of_ble_eq_true rfl) ?_
  refine good_seq fun K1 hK1 => ?_
  refine good_region rfl ?_
  refine ev_q rfl (q_assign (by conv => lhs; whnf) ?_)
  refine ev_nil (hK1 _ ?_); clear hK1
  refine good_seq fun K2 hK2 => ?_
  refine good_seq fun K3 hK3 => ?_
  refine good_region rfl ?_
  refine ev_q rfl (q_assign (by conv => lhs; whnf) ?_)
  refine ev_nil (hK3 _ ?_); clear hK3
  refine good_block ?_
  refine good_loop (α := Nat) (fun i => { env := upd (upd (upd ((fun _ => .junk)) 0 (.lst 2 (mkW k xs xs.length))) 1 (.s (.int .i64 (k + 2 * i)))) 5 (.s (.int .i64 i)), H := fun _ => none }) (fun i => i ≤ xs.length) (fun i => xs.length - i) 0 ?_ ?_ ?_
  · show 0 ≤ _; omega
  · refine sub_weak ?_ ?_
    · exact weakH_none _
    · refine weakE_upd ?e5 ?r5 (weakE_upd ?e1 ?r1 (weakE_upd ?e0 ?r0 (weakE_junk _ _)))
      case e0 => first | rfl | exact fI (by omega) | (simp_all)
      case r0 => intro h hh; cases hh
      case e1 => first | rfl | exact fI (by omega) | (simp_all)
      case r1 => intro h hh; cases hh
      case e5 => first | rfl | exact fI (by omega) | (simp_all)
      case r5 => intro h hh; cases hh
  · rintro i hI
    refine good_seq fun K4 hK4 => ?_
    refine good_seq fun K5 hK5 => ?_
    refine good_region rfl ?_
    refine ev_q rfl (q_move (by conv => lhs; whnf) ?_)
    refine ev_q rfl (q_move (by conv => lhs; whnf) ?_)
    refine ev_q rfl (q_len tEs50 rfl ?_)
    intro n6 hn6
    try simp only [List.length_map] at hn6
    rw [hln] at hn6
    refine ev_q rfl (q_int rfl rfl ?_)
    intro b7 hb7; cases b7
    · replace hb7 := dF hb7
      refine ev_nil (hK5 _ ?_); clear hK5
      refine good_condF rfl ?_
      refine good_exit ?_
      repeat (first | refine thenQ_exit ?_ | refine blockQ_pass rfl ?_)
      refine blockQ_exit (hK2 _ ?_); clear hK2
      refine good_seq fun K8 hK8 => ?_
      refine good_region rfl ?_
      refine ev_q rfl (q_move (by conv => lhs; whnf) ?_)
      refine ev_q rfl (q_assign (by conv => lhs; whnf) ?_)
      refine ev_nil (hK8 _ ?_); clear hK8
      refine good_ret ?_
      repeat (first | refine thenQ_ret ?_ | refine blockQ_ret ?_)
      refine ret_tmp (st := _) rfl (by conv => lhs; whnf) rfl ?_
      clear hK4
      first | exact fI (by omega) | (exfalso; first | omega | contradiction)
    · replace hb7 := dT hb7
      refine ev_nil (hK5 _ ?_); clear hK5
      refine good_condT rfl ?_
      refine good_skip (hK4 _ ?_); clear hK4
      refine good_seq fun K9 hK9 => ?_
      refine good_block ?_
      refine good_seq fun K10 hK10 => ?_
      refine good_seq fun K11 hK11 => ?_
      refine good_region rfl ?_
      refine ev_q rfl (q_move (by conv => lhs; whnf) ?_)
      refine ev_q rfl (q_move (by conv => lhs; whnf) ?_)
      refine ev_q rfl (q_idx tE50 rfl rfl (by exact Int.natCast_nonneg _) (by exact mkW_at (by omega)) rfl ?_)
      refine ev_q rfl (q_fieldAddr fO103_0 rfl rfl ?_)
      refine ev_q rfl (q_load tA2 rfl ?_)
      refine ev_q rfl (q_move (by conv => lhs; whnf) ?_)
      refine ev_q rfl (q_int rfl rfl ?_)
      intro b12 hb12; cases b12
      · replace hb12 := neF hb12
        refine ev_nil (hK11 _ ?_); clear hK11
        refine good_condF rfl ?_
        refine good_skip (hK10 _ ?_); clear hK10
        refine good_seq fun K13 hK13 => ?_
        refine good_region rfl ?_
        refine ev_q rfl (q_move (by conv => lhs; whnf) ?_)
        refine ev_q rfl (q_int rfl rfl ?_)
        intro n14 hn14
        replace hn14 := in64 hn14 (by omega) (by omega)
        refine ev_q rfl (q_assign (by conv => lhs; whnf) ?_)
        refine ev_nil (hK13 _ ?_); clear hK13
        refine good_seq fun K15 hK15 => ?_
        refine good_seq fun K16 hK16 => ?_
        refine good_region rfl ?_
        refine ev_q rfl (q_move (by conv => lhs; whnf) ?_)
        refine ev_q rfl (q_move (by conv => lhs; whnf) ?_)
        refine ev_q rfl (q_idx tE50 rfl rfl (by exact Int.natCast_nonneg _) (by exact mkW_at (by omega)) rfl ?_)
        refine ev_q rfl (q_fieldAddr fO103_1 rfl rfl ?_)
        refine ev_q rfl (q_load tA2 rfl ?_)
        refine ev_q rfl (q_move (by conv => lhs; whnf) ?_)
        refine ev_q rfl (q_int rfl rfl ?_)
        intro b17 hb17; cases b17
        · replace hb17 := neF hb17
          refine ev_nil (hK16 _ ?_); clear hK16
          refine good_condF rfl ?_
          refine good_skip (hK15 _ ?_); clear hK15
          refine good_region rfl ?_
          refine ev_q rfl (q_move (by conv => lhs; whnf) ?_)
          refine ev_q rfl (q_int rfl rfl ?_)
          intro n18 hn18
          replace hn18 := in64 hn18 (by omega) (by omega)
          refine ev_q rfl (q_assign (by conv => lhs; whnf) ?_)
          refine ev_nil (hK9 _ ?_); clear hK9
          refine good_region rfl ?_
          refine ev_q rfl (q_move (by conv => lhs; whnf) ?_)
          refine ev_q rfl (q_int rfl rfl ?_)
          intro n19 hn19
          replace hn19 := in64 hn19 (by omega) (by omega)
          refine ev_q rfl (q_assign (by conv => lhs; whnf) ?_)
          refine ev_nil ?_
          clear hK2
          refine ⟨i + 1, ?_, ?_, ?_⟩
          · show _ ≤ _; omega
          · first | omega | (simp only []; omega) | (dsimp only; omega)
          · refine sub_weak ?_ ?_
            · exact weakH_none _
            · refine weakE_upd ?e5 ?r5 (weakE_upd ?e1 ?r1 (weakE_upd ?e0 ?r0 (weakE_junk _ _)))
              case e0 => first | rfl | exact fI (by omega) | (simp_all)
              case r0 => intro h hh; cases hh
              case e1 => first | rfl | exact fI (by omega) | (simp_all)
              case r1 => intro h hh; cases hh
              case e5 => first | rfl | exact fI (by omega) | (simp_all)
              case r5 => intro h hh; cases hh
        · replace hb17 := neT hb17
          refine ev_nil (hK16 _ ?_); clear hK16
          refine good_condT rfl ?_
          refine good_seq fun K20 hK20 => ?_
          refine good_region rfl ?_
          refine ev_q rfl (q_assign (by conv => lhs; whnf) ?_)
          refine ev_nil (hK20 _ ?_); clear hK20
          refine good_ret ?_
          repeat (first | refine thenQ_ret ?_ | refine blockQ_ret ?_)
          refine ret_tmp (st := _) rfl (by conv => lhs; whnf) rfl ?_
          clear hK2 hK9 hK15
          first | exact fI (by omega) | (exfalso; first | omega | contradiction)
      · replace hb12 := neT hb12
        refine ev_nil (hK11 _ ?_); clear hK11
        refine good_condT rfl ?_
        refine good_seq fun K21 hK21 => ?_
        refine good_region rfl ?_
        refine ev_q rfl (q_assign (by conv => lhs; whnf) ?_)
        refine ev_nil (hK21 _ ?_); clear hK21
        refine good_ret ?_
        repeat (first | refine thenQ_ret ?_ | refine blockQ_ret ?_)
        refine ret_tmp (st := _) rfl (by conv => lhs; whnf) rfl ?_
        clear hK2 hK9 hK10
        first | exact fI (by omega) | (exfalso; first | omega | contradiction)

-- impl.delayed
set_option maxRecDepth 20000 in
set_option maxHeartbeats 2000000 in
theorem D_impl_delayed (xs : List (Int × Int)) (d b : Int) (hx : xs.length ≤ 8796093022000) (hd : 0 ≤ d ∧ d ≤ 1000000) (ok : waveOk xs) : Den Try.prog 96 [.lst 2 (xs.map stp), .s (.int .i64 d), .s (.int .i64 b)] (.lst 2 ((lateL xs d b).map stp)) := by
  refine den_of_good Try.func96 (by decide) rfl (Nat.le_of_ble_eq_true rfl) (Nat.le_of_ble_eq_true rfl) ?_
  refine good_seq fun K1 hK1 => ?_
  refine good_region rfl ?_
  refine ev_q rfl (q_assign (by conv => lhs; whnf) ?_)
  refine ev_nil (hK1 _ ?_); clear hK1
  refine good_seq fun K2 hK2 => ?_
  refine good_seq fun K3 hK3 => ?_
  refine good_region rfl ?_
  refine ev_q rfl (q_move (by conv => lhs; whnf) ?_)
  refine ev_q rfl (q_int rfl rfl ?_)
  intro b4 hb4; cases b4
  · replace hb4 := eqF hb4
    refine ev_nil (hK3 _ ?_); clear hK3
    refine good_condF rfl ?_
    refine good_skip (hK2 _ ?_); clear hK2
    refine good_seq fun K5 hK5 => ?_
    refine good_region rfl ?_
    refine ev_q rfl (q_move (by conv => lhs; whnf) ?_)
    refine ev_k rfl (k_build zA103 pl103 (rfl) ?_)
    refine ev_k rfl (k_lit tE50 zA103 rfl rfl (by decide) (by decide) rfl rfl rfl ?_)
    refine ev_q rfl (q_assign (by conv => lhs; whnf) ?_)
    refine ev_nil (hK5 _ ?_); clear hK5
    refine good_seq fun K6 hK6 => ?_
    refine good_seq fun K7 hK7 => ?_
    refine good_region rfl ?_
    refine ev_q rfl (q_move (by conv => lhs; whnf) ?_)
    refine ev_q rfl (q_len tEs50 rfl ?_)
    intro n8 hn8
    try simp only [List.length_map] at hn8
    refine ev_q rfl (q_move (by conv => lhs; whnf) ?_)
    refine ev_nil (hK7 _ ?_); clear hK7
    refine good_block ?_
    refine good_loop (α := Nat) (fun i => { env := upd (upd (upd (upd (upd ((fun _ => .junk)) 1 (.s (.int .i64 d))) 7 (.own 31 (lateG xs d b i).length)) 16 (.lst 2 (xs.map stp))) 17 (.s (.int .i64 ((xs.length : Int))))) 18 (.s (.int .i64 i)), H := upd ((fun _ => none)) 31 (some (.row 103 2 ((lateG xs d b i).map stp))) }) (fun i => i ≤ xs.length) (fun i => xs.length - i) 0 ?_ ?_ ?_
    · show 0 ≤ _; omega
    · refine Sub.trans (sub_move 7 15 31 rfl rfl rfl (by decide)) ?_
      refine sub_weak ?_ ?_
      · exact weakH_row (rowEq (by first | (rw [lateG_0 (by omega)]; rfl) | (rw [lateG_n (by omega)]; rfl))) (weakH_none _)
      · refine weakE_upd ?e18 ?r18 (weakE_upd ?e17 ?r17 (weakE_upd ?e16 ?r16 (weakE_upd ?e7 ?r7 (weakE_upd ?e1 ?r1 (weakE_junk _ _)))))
        case e1 => first | rfl | exact fI (by omega) | (simp_all)
        case r1 => intro h hh; cases hh
        case e7 => first | rfl | exact fI (by omega) | (first | rfl | (rw [lateG_0 (by omega)]; done) | (rw [lateG_n (by omega)]; done) | exact ownEq (by rw [lateG_0 (by omega)]; rfl) | exact ownEq (by rw [lateG_n (by omega)]; rfl) | (rw [hst]; exact ownEq (by simp)))
        case r7 => intro h hh; simp [refs] at hh; subst hh; rfl
        case e16 => first | rfl | exact fI (by omega) | (simp_all)
        case r16 => intro h hh; cases hh
        case e17 => first | rfl | exact fI (by omega) | (simp_all)
        case r17 => intro h hh; cases hh
        case e18 => first | rfl | exact fI (by omega) | (simp_all)
        case r18 => intro h hh; cases hh
    · rintro i hI
      refine good_seq fun K9 hK9 => ?_
      refine good_region rfl ?_
      refine ev_q rfl (q_int rfl rfl ?_)
      intro b10 hb10; cases b10
      · replace hb10 := dF hb10
        refine ev_nil (hK9 _ ?_); clear hK9
        refine good_seq fun K11 hK11 => ?_
        refine good_condF rfl ?_
        refine good_exit ?_
        repeat (first | refine thenQ_exit ?_ | refine blockQ_pass rfl ?_)
        refine blockQ_exit (hK6 _ ?_); clear hK6
        refine good_seq fun K12 hK12 => ?_
        refine good_region rfl ?_
        refine ev_q rfl (q_move (by conv => lhs; whnf) ?_)
        refine ev_q rfl (q_assign (by conv => lhs; whnf) ?_)
        refine ev_nil (hK12 _ ?_); clear hK12
        refine good_ret ?_
        repeat (first | refine thenQ_ret ?_ | refine blockQ_ret ?_)
        refine ret_tmp (st := _) rfl (by conv => lhs; whnf) rfl ?_
        clear hK11
        first | (rw [show d = 0 by omega, late0]; done) | (have hd0 : d = 0 := (by omega); subst hd0; exact lstEq (by rw [List.take_of_length_le (by simp)]; rw [show i = xs.length by omega]; exact congrArg (List.map stp) late0)) | exact lstEq (by rw [List.take_of_length_le (by simp)]; unfold lateL; rw [show xs.length = i by omega])
      · replace hb10 := dT hb10
        obtain ⟨p, hp⟩ := getL (xs := xs) (n := (i : Int)) (by omega) (by omega)
        replace hp : xs[i]? = some p := hp
        have hpb := (ok.2 i p hp).1
        have hst := lateG_s (d := d) (b := b) hp
        have hle := lateG_len (xs := xs) (d := d) (b := b) (i := i)
        refine ev_nil (hK9 _ ?_); clear hK9
        refine good_seq fun K13 hK13 => ?_
        refine good_condT rfl ?_
        refine good_skip (hK13 _ ?_); clear hK13
        refine good_seq fun K14 hK14 => ?_
        refine good_block ?_
        refine good_seq fun K15 hK15 => ?_
        refine good_region rfl ?_
        refine ev_q rfl (q_idx tE50 rfl rfl (by exact Int.natCast_nonneg _) (by exact map_get hp) rfl ?_)
        refine ev_q rfl (q_loadA tA103 rfl rfl rfl ?_)
        refine ev_k rfl (k_alloc zA103 rfl ?_)
        refine ev_k rfl (k_store sz103 rfl (by conv => lhs; whnf) rfl rfl rfl (Nat.le_of_ble_eq_true rfl) rfl ?_)
        refine ev_nil (hK15 _ ?_); clear hK15
        refine good_region rfl ?_
        refine ev_q rfl (q_move (by conv => lhs; whnf) ?_)
        refine ev_q rfl (q_fieldAddrP fO103_0 rfl rfl ?_)
        refine ev_q rfl (q_load tA2 rfl ?_)
        refine ev_q rfl (q_move (by conv => lhs; whnf) ?_)
        refine ev_q rfl (q_int rfl rfl ?_)
        intro n16 hn16
        replace hn16 := in64 hn16 (by omega) (by omega)
        refine ev_q rfl (q_fieldAddrP fO103_1 rfl rfl ?_)
        refine ev_q rfl (q_load tA2 rfl ?_)
        refine ev_k rfl (k_build zA103 pl103 (rfl) ?_)
        refine ev_k rfl (k_lit tE50 zA103 rfl rfl (by decide) (by decide) rfl rfl rfl ?_)
        refine ev_k rfl (k_app tApp50 rfl rfl (by simp) rfl (.inr rfl) (by first | (simp [maxLen]; done) | (simp [maxLen]; omega)) (by first | (simp; done) | (simp; omega)) ?_)
        refine ev_q rfl (q_assign (by conv => lhs; whnf) ?_)
        refine ev_nil (hK14 _ ?_); clear hK14
        refine good_region rfl ?_
        refine ev_q rfl (q_int rfl rfl ?_)
        intro n17 hn17
        replace hn17 := in64 hn17 (by omega) (by omega)
        refine ev_q rfl (q_move (by conv => lhs; whnf) ?_)
        refine ev_nil ?_
        clear hK6
        refine ⟨i + 1, ?_, ?_, ?_⟩
        · show _ ≤ _; omega
        · first | omega | (simp only []; omega) | (dsimp only; omega)
        · refine sub_weak ?_ ?_
          · exact weakH_row (rowEq (appS hst (stpE (by omega) rfl))) (weakH_none _)
          · refine weakE_upd ?e18 ?r18 (weakE_upd ?e17 ?r17 (weakE_upd ?e16 ?r16 (weakE_upd ?e7 ?r7 (weakE_upd ?e1 ?r1 (weakE_junk _ _)))))
            case e1 => first | rfl | exact fI (by omega) | (simp_all)
            case r1 => intro h hh; cases hh
            case e7 => first | rfl | exact fI (by omega) | (first | rfl | (rw [lateG_0 (by omega)]; done) | (rw [lateG_n (by omega)]; done) | exact ownEq (by rw [lateG_0 (by omega)]; rfl) | exact ownEq (by rw [lateG_n (by omega)]; rfl) | (rw [hst]; exact ownEq (by simp)))
            case r7 => intro h hh; simp [refs] at hh; subst hh; rfl
            case e16 => first | rfl | exact fI (by omega) | (simp_all)
            case r16 => intro h hh; cases hh
            case e17 => first | rfl | exact fI (by omega) | (simp_all)
            case r17 => intro h hh; cases hh
            case e18 => first | rfl | exact fI (by omega) | (simp_all)
            case r18 => intro h hh; cases hh
  · replace hb4 := eqT hb4
    refine ev_nil (hK3 _ ?_); clear hK3
    refine good_condT rfl ?_
    refine good_seq fun K18 hK18 => ?_
    refine good_region rfl ?_
    refine ev_q rfl (q_move (by conv => lhs; whnf) ?_)
    refine ev_q rfl (q_assign (by conv => lhs; whnf) ?_)
    refine ev_nil (hK18 _ ?_); clear hK18
    refine good_ret ?_
    repeat (first | refine thenQ_ret ?_ | refine blockQ_ret ?_)
    refine ret_tmp (st := _) rfl (by conv => lhs; whnf) rfl ?_
    clear hK2
    first | (rw [show d = 0 by omega, late0]; done) | (have hd0 : d = 0 := (by omega); subst hd0; exact lstEq (by rw [List.take_of_length_le (by simp)]; rw [show i = xs.length by omega]; exact congrArg (List.map stp) late0)) | exact lstEq (by rw [List.take_of_length_le (by simp)]; unfold lateL; rw [show xs.length = i by omega])

-- spec.l09Late
set_option maxRecDepth 20000 in
set_option maxHeartbeats 2000000 in
theorem D_spec_l09Late (xs : List (Int × Int)) (d b : Int) (hx : xs.length ≤ 8796093022000) (hd : 0 ≤ d ∧ d ≤ 1000000) (ok : waveOk xs) : Den Try.prog 94 [.lst 2 (xs.map stp), .s (.int .i64 d), .s (.int .i64 b)] (.lst 2 ((lateL xs d b).map stp)) := by
  refine den_of_good Try.func94 (by decide) rfl (Nat.le_of_ble_eq_true rfl) (Nat.le_of_ble_eq_true rfl) ?_
  refine good_seq fun K1 hK1 => ?_
  refine good_region rfl ?_
  refine ev_q rfl (q_assign (by conv => lhs; whnf) ?_)
  refine ev_nil (hK1 _ ?_); clear hK1
  refine good_seq fun K2 hK2 => ?_
  refine good_region rfl ?_
  refine ev_k rfl (k_lit tE50 zA103 rfl rfl (by decide) (by decide) rfl rfl rfl ?_)
  refine ev_q rfl (q_assign (by conv => lhs; whnf) ?_)
  refine ev_nil (hK2 _ ?_); clear hK2
  refine good_seq fun K3 hK3 => ?_
  refine good_seq fun K4 hK4 => ?_
  refine good_region rfl ?_
  refine ev_q rfl (q_move (by conv => lhs; whnf) ?_)
  refine ev_q rfl (q_int rfl rfl ?_)
  intro b5 hb5; cases b5
  · replace hb5 := dF hb5
    refine ev_nil (hK4 _ ?_); clear hK4
    refine good_condF rfl ?_
    refine good_skip (hK3 _ ?_); clear hK3
    refine good_seq fun K6 hK6 => ?_
    refine good_seq fun K7 hK7 => ?_
    first | refine good_weak (sub_move 7 9 38 rfl rfl rfl (by decide)) ?_ | refine good_weak (sub_move 7 16 38 rfl rfl rfl (by decide)) ?_
    refine good_region rfl ?_
    refine ev_q rfl (q_assign (by conv => lhs; whnf) ?_)
    refine ev_nil (hK7 _ ?_); clear hK7
    refine good_block ?_
    refine good_loop (α := Nat) (fun i => { env := upd (upd (upd (upd ((fun _ => .junk)) 0 (.lst 2 (xs.map stp))) 1 (.s (.int .i64 d))) 7 (.own 38 (lateG xs d b i).length)) 8 (.s (.int .i64 i)), H := upd ((fun _ => none)) 38 (some (.row 103 2 ((lateG xs d b i).map stp))) }) (fun i => i ≤ xs.length) (fun i => xs.length - i) 0 ?_ ?_ ?_
    · show 0 ≤ _; omega
    · refine sub_weak ?_ ?_
      · exact weakH_row (rowEq (by first | (rw [lateG_0 (by omega)]; rfl) | (rw [lateG_n (by omega)]; rfl))) (weakH_none _)
      · refine weakE_upd ?e8 ?r8 (weakE_upd ?e7 ?r7 (weakE_upd ?e1 ?r1 (weakE_upd ?e0 ?r0 (weakE_junk _ _))))
        case e0 => first | rfl | exact fI (by omega) | (simp_all)
        case r0 => intro h hh; cases hh
        case e1 => first | rfl | exact fI (by omega) | (simp_all)
        case r1 => intro h hh; cases hh
        case e7 => first | rfl | exact fI (by omega) | (first | rfl | (rw [lateG_0 (by omega)]; done) | (rw [lateG_n (by omega)]; done) | exact ownEq (by rw [lateG_0 (by omega)]; rfl) | exact ownEq (by rw [lateG_n (by omega)]; rfl) | (rw [hst]; exact ownEq (by simp)))
        case r7 => intro h hh; simp [refs] at hh; subst hh; rfl
        case e8 => first | rfl | exact fI (by omega) | (simp_all)
        case r8 => intro h hh; cases hh
    · rintro i hI
      refine good_seq fun K8 hK8 => ?_
      refine good_seq fun K9 hK9 => ?_
      refine good_region rfl ?_
      refine ev_q rfl (q_move (by conv => lhs; whnf) ?_)
      refine ev_q rfl (q_move (by conv => lhs; whnf) ?_)
      refine ev_q rfl (q_len tEs50 rfl ?_)
      intro n10 hn10
      try simp only [List.length_map] at hn10
      refine ev_q rfl (q_int rfl rfl ?_)
      intro b11 hb11; cases b11
      · replace hb11 := dF hb11
        refine ev_nil (hK9 _ ?_); clear hK9
        refine good_condF rfl ?_
        refine good_exit ?_
        repeat (first | refine thenQ_exit ?_ | refine blockQ_pass rfl ?_)
        refine blockQ_exit (hK6 _ ?_); clear hK6
        refine good_seq fun K12 hK12 => ?_
        refine good_region rfl ?_
        refine ev_q rfl (q_move (by conv => lhs; whnf) ?_)
        refine ev_q rfl (q_assign (by conv => lhs; whnf) ?_)
        refine ev_nil (hK12 _ ?_); clear hK12
        refine good_ret ?_
        repeat (first | refine thenQ_ret ?_ | refine blockQ_ret ?_)
        refine ret_tmp (st := _) rfl (by conv => lhs; whnf) rfl ?_
        clear hK8
        first | (rw [show d = 0 by omega, late0]; done) | (have hd0 : d = 0 := (by omega); subst hd0; exact lstEq (by rw [List.take_of_length_le (by simp)]; rw [show i = xs.length by omega]; exact congrArg (List.map stp) late0)) | exact lstEq (by rw [List.take_of_length_le (by simp)]; unfold lateL; rw [show xs.length = i by omega])
      · replace hb11 := dT hb11
        obtain ⟨p, hp⟩ := getL (xs := xs) (n := (i : Int)) (by omega) (by omega)
        replace hp : xs[i]? = some p := hp
        have hpb := (ok.2 i p hp).1
        have hst := lateG_s (d := d) (b := b) hp
        have hle := lateG_len (xs := xs) (d := d) (b := b) (i := i)
        refine ev_nil (hK9 _ ?_); clear hK9
        refine good_condT rfl ?_
        refine good_skip (hK8 _ ?_); clear hK8
        refine good_seq fun K13 hK13 => ?_
        refine good_block ?_
        refine good_any 17 (listed := #[false, false, false, false, false, false, false, false, false, false, false, false, false, false, false, false, false]) rfl rfl hmix rfl ?_
        refine tn_first_q (i := 0) (listed' := #[true, false, false, false, false, false, false, false, false, false, false, false, false, false, false, false, false]) rfl rfl (by kernel_rfl) rfl (q_move (by conv => lhs; whnf) ?_)
        refine tn_first_q (i := 1) (listed' := #[true, true, false, false, false, false, false, false, false, false, false, false, false, false, false, false, false]) rfl rfl (by kernel_rfl) rfl (q_move (by conv => lhs; whnf) ?_)
        refine tn_first_q (i := 2) (listed' := #[true, true, true, false, false, false, false, false, false, false, false, false, false, false, false, false, false]) rfl rfl (by kernel_rfl) rfl (q_move (by conv => lhs; whnf) ?_)
        refine tn_first_q (i := 3) (listed' := #[true, true, true, true, false, false, false, false, false, false, false, false, false, false, false, false, false]) rfl rfl (by kernel_rfl) rfl (q_idx tE50 rfl rfl (by exact Int.natCast_nonneg _) (by exact map_get hp) rfl ?_)
        refine tn_first_q (i := 4) (listed' := #[true, true, true, true, true, false, false, false, false, false, false, false, false, false, false, false, false]) rfl rfl (by kernel_rfl) rfl (q_fieldAddr fO103_0 rfl rfl ?_)
        refine tn_first_q (i := 5) (listed' := #[true, true, true, true, true, true, false, false, false, false, false, false, false, false, false, false, false]) rfl rfl (by kernel_rfl) rfl (q_load tA2 rfl ?_)
        refine tn_first_q (i := 6) (listed' := #[true, true, true, true, true, true, true, false, false, false, false, false, false, false, false, false, false]) rfl rfl (by kernel_rfl) rfl (q_move (by conv => lhs; whnf) ?_)
        refine tn_first_q (i := 7) (listed' := #[true, true, true, true, true, true, true, true, false, false, false, false, false, false, false, false, false]) rfl rfl (by kernel_rfl) rfl (q_int rfl rfl ?_)
        intro n14 hn14
        replace hn14 := in64 hn14 (by omega) (by omega)
        refine tn_first_q (i := 8) (listed' := #[true, true, true, true, true, true, true, true, true, false, false, false, false, false, false, false, false]) rfl rfl (by kernel_rfl) rfl (q_move (by conv => lhs; whnf) ?_)
        refine tn_first_q (i := 9) (listed' := #[true, true, true, true, true, true, true, true, true, true, false, false, false, false, false, false, false]) rfl rfl (by kernel_rfl) rfl (q_move (by conv => lhs; whnf) ?_)
        refine tn_first_q (i := 10) (listed' := #[true, true, true, true, true, true, true, true, true, true, true, false, false, false, false, false, false]) rfl rfl (by kernel_rfl) rfl (q_idx tE50 rfl rfl (by exact Int.natCast_nonneg _) (by exact map_get hp) rfl ?_)
        refine tn_first_q (i := 11) (listed' := #[true, true, true, true, true, true, true, true, true, true, true, true, false, false, false, false, false]) rfl rfl (by kernel_rfl) rfl (q_fieldAddr fO103_1 rfl rfl ?_)
        refine tn_first_q (i := 12) (listed' := #[true, true, true, true, true, true, true, true, true, true, true, true, true, false, false, false, false]) rfl rfl (by kernel_rfl) rfl (q_load tA2 rfl ?_)
        refine tn_step [13] (by kernel_rfl) rfl ?_
        refine ⟨?_, trivial⟩
        · refine tn_k (listed' := #[true, true, true, true, true, true, true, true, true, true, true, true, true, true, false, false, false]) rfl rfl rfl rfl (k_build zA103 pl103 (rfl) ?_)
          refine tn_step [14] (by kernel_rfl) rfl ?_
          refine ⟨?_, trivial⟩
          · refine tn_k (listed' := #[true, true, true, true, true, true, true, true, true, true, true, true, true, true, true, false, false]) rfl rfl rfl rfl (k_lit tE50 zA103 rfl rfl (by decide) (by decide) rfl rfl rfl ?_)
            refine tn_step [15] (by kernel_rfl) rfl ?_
            refine ⟨?_, trivial⟩
            · refine tn_k (listed' := #[true, true, true, true, true, true, true, true, true, true, true, true, true, true, true, true, false]) rfl rfl rfl rfl (k_app tApp50 rfl rfl (by simp) rfl (.inr rfl) (by first | (simp [maxLen]; done) | (simp [maxLen]; omega)) (by first | (simp; done) | (simp; omega)) ?_)
              refine tn_first_q (i := 16) (listed' := #[true, true, true, true, true, true, true, true, true, true, true, true, true, true, true, true, true]) rfl rfl (by kernel_rfl) rfl (q_assign (by conv => lhs; whnf) ?_)
              refine tn_end (by kernel_rfl) (hK13 _ ?_); clear hK13
              refine good_region rfl ?_
              refine ev_q rfl (q_move (by conv => lhs; whnf) ?_)
              refine ev_q rfl (q_int rfl rfl ?_)
              intro n15 hn15
              replace hn15 := in64 hn15 (by omega) (by omega)
              refine ev_q rfl (q_assign (by conv => lhs; whnf) ?_)
              refine ev_nil ?_
              clear hK6
              refine ⟨i + 1, ?_, ?_, ?_⟩
              · show _ ≤ _; omega
              · first | omega | (simp only []; omega) | (dsimp only; omega)
              · refine sub_weak ?_ ?_
                · exact weakH_row (rowEq (appS hst (stpE (by omega) rfl))) (weakH_none _)
                · refine weakE_upd ?e8 ?r8 (weakE_upd ?e7 ?r7 (weakE_upd ?e1 ?r1 (weakE_upd ?e0 ?r0 (weakE_junk _ _))))
                  case e0 => first | rfl | exact fI (by omega) | (simp_all)
                  case r0 => intro h hh; cases hh
                  case e1 => first | rfl | exact fI (by omega) | (simp_all)
                  case r1 => intro h hh; cases hh
                  case e7 => first | rfl | exact fI (by omega) | (first | rfl | (rw [lateG_0 (by omega)]; done) | (rw [lateG_n (by omega)]; done) | exact ownEq (by rw [lateG_0 (by omega)]; rfl) | exact ownEq (by rw [lateG_n (by omega)]; rfl) | (rw [hst]; exact ownEq (by simp)))
                  case r7 => intro h hh; simp [refs] at hh; subst hh; rfl
                  case e8 => first | rfl | exact fI (by omega) | (simp_all)
                  case r8 => intro h hh; cases hh
  · replace hb5 := dT hb5
    refine ev_nil (hK4 _ ?_); clear hK4
    refine good_condT rfl ?_
    refine good_region rfl ?_
    refine ev_q rfl (q_move (by conv => lhs; whnf) ?_)
    refine ev_q rfl (q_move (by conv => lhs; whnf) ?_)
    refine ev_k rfl (k_build zA103 pl103 (rfl) ?_)
    refine ev_k rfl (k_lit tE50 zA103 rfl rfl (by decide) (by decide) rfl rfl rfl ?_)
    refine ev_k rfl (k_app tApp50 rfl rfl (by simp) rfl (.inl rfl) (by first | (simp [maxLen]; done) | (simp [maxLen]; omega)) (by first | (simp; done) | (simp; omega)) ?_)
    refine ev_q rfl (q_assign (by conv => lhs; whnf) ?_)
    refine ev_nil (hK3 _ ?_); clear hK3
    refine good_seq fun K16 hK16 => ?_
    refine good_seq fun K17 hK17 => ?_
    first | refine good_weak (sub_move 7 9 38 rfl rfl rfl (by decide)) ?_ | refine good_weak (sub_move 7 16 38 rfl rfl rfl (by decide)) ?_
    refine good_region rfl ?_
    refine ev_q rfl (q_assign (by conv => lhs; whnf) ?_)
    refine ev_nil (hK17 _ ?_); clear hK17
    refine good_block ?_
    refine good_loop (α := Nat) (fun i => { env := upd (upd (upd (upd ((fun _ => .junk)) 0 (.lst 2 (xs.map stp))) 1 (.s (.int .i64 d))) 7 (.own 38 (lateG xs d b i).length)) 8 (.s (.int .i64 i)), H := upd ((fun _ => none)) 38 (some (.row 103 2 ((lateG xs d b i).map stp))) }) (fun i => i ≤ xs.length) (fun i => xs.length - i) 0 ?_ ?_ ?_
    · show 0 ≤ _; omega
    · refine sub_weak ?_ ?_
      · exact weakH_row (rowEq (by first | (rw [lateG_0 (by omega)]; rfl) | (rw [lateG_n (by omega)]; rfl))) (weakH_none _)
      · refine weakE_upd ?e8 ?r8 (weakE_upd ?e7 ?r7 (weakE_upd ?e1 ?r1 (weakE_upd ?e0 ?r0 (weakE_junk _ _))))
        case e0 => first | rfl | exact fI (by omega) | (simp_all)
        case r0 => intro h hh; cases hh
        case e1 => first | rfl | exact fI (by omega) | (simp_all)
        case r1 => intro h hh; cases hh
        case e7 => first | rfl | exact fI (by omega) | (first | rfl | (rw [lateG_0 (by omega)]; done) | (rw [lateG_n (by omega)]; done) | exact ownEq (by rw [lateG_0 (by omega)]; rfl) | exact ownEq (by rw [lateG_n (by omega)]; rfl) | (rw [hst]; exact ownEq (by simp)))
        case r7 => intro h hh; simp [refs] at hh; subst hh; rfl
        case e8 => first | rfl | exact fI (by omega) | (simp_all)
        case r8 => intro h hh; cases hh
    · rintro i hI
      refine good_seq fun K18 hK18 => ?_
      refine good_seq fun K19 hK19 => ?_
      refine good_region rfl ?_
      refine ev_q rfl (q_move (by conv => lhs; whnf) ?_)
      refine ev_q rfl (q_move (by conv => lhs; whnf) ?_)
      refine ev_q rfl (q_len tEs50 rfl ?_)
      intro n20 hn20
      try simp only [List.length_map] at hn20
      refine ev_q rfl (q_int rfl rfl ?_)
      intro b21 hb21; cases b21
      · replace hb21 := dF hb21
        refine ev_nil (hK19 _ ?_); clear hK19
        refine good_condF rfl ?_
        refine good_exit ?_
        repeat (first | refine thenQ_exit ?_ | refine blockQ_pass rfl ?_)
        refine blockQ_exit (hK16 _ ?_); clear hK16
        refine good_seq fun K22 hK22 => ?_
        refine good_region rfl ?_
        refine ev_q rfl (q_move (by conv => lhs; whnf) ?_)
        refine ev_q rfl (q_assign (by conv => lhs; whnf) ?_)
        refine ev_nil (hK22 _ ?_); clear hK22
        refine good_ret ?_
        repeat (first | refine thenQ_ret ?_ | refine blockQ_ret ?_)
        refine ret_tmp (st := _) rfl (by conv => lhs; whnf) rfl ?_
        clear hK18
        first | (rw [show d = 0 by omega, late0]; done) | (have hd0 : d = 0 := (by omega); subst hd0; exact lstEq (by rw [List.take_of_length_le (by simp)]; rw [show i = xs.length by omega]; exact congrArg (List.map stp) late0)) | exact lstEq (by rw [List.take_of_length_le (by simp)]; unfold lateL; rw [show xs.length = i by omega])
      · replace hb21 := dT hb21
        obtain ⟨p, hp⟩ := getL (xs := xs) (n := (i : Int)) (by omega) (by omega)
        replace hp : xs[i]? = some p := hp
        have hpb := (ok.2 i p hp).1
        have hst := lateG_s (d := d) (b := b) hp
        have hle := lateG_len (xs := xs) (d := d) (b := b) (i := i)
        refine ev_nil (hK19 _ ?_); clear hK19
        refine good_condT rfl ?_
        refine good_skip (hK18 _ ?_); clear hK18
        refine good_seq fun K23 hK23 => ?_
        refine good_block ?_
        refine good_any 17 (listed := #[false, false, false, false, false, false, false, false, false, false, false, false, false, false, false, false, false]) rfl rfl hmix rfl ?_
        refine tn_first_q (i := 0) (listed' := #[true, false, false, false, false, false, false, false, false, false, false, false, false, false, false, false, false]) rfl rfl (by kernel_rfl) rfl (q_move (by conv => lhs; whnf) ?_)
        refine tn_first_q (i := 1) (listed' := #[true, true, false, false, false, false, false, false, false, false, false, false, false, false, false, false, false]) rfl rfl (by kernel_rfl) rfl (q_move (by conv => lhs; whnf) ?_)
        refine tn_first_q (i := 2) (listed' := #[true, true, true, false, false, false, false, false, false, false, false, false, false, false, false, false, false]) rfl rfl (by kernel_rfl) rfl (q_move (by conv => lhs; whnf) ?_)
        refine tn_first_q (i := 3) (listed' := #[true, true, true, true, false, false, false, false, false, false, false, false, false, false, false, false, false]) rfl rfl (by kernel_rfl) rfl (q_idx tE50 rfl rfl (by exact Int.natCast_nonneg _) (by exact map_get hp) rfl ?_)
        refine tn_first_q (i := 4) (listed' := #[true, true, true, true, true, false, false, false, false, false, false, false, false, false, false, false, false]) rfl rfl (by kernel_rfl) rfl (q_fieldAddr fO103_0 rfl rfl ?_)
        refine tn_first_q (i := 5) (listed' := #[true, true, true, true, true, true, false, false, false, false, false, false, false, false, false, false, false]) rfl rfl (by kernel_rfl) rfl (q_load tA2 rfl ?_)
        refine tn_first_q (i := 6) (listed' := #[true, true, true, true, true, true, true, false, false, false, false, false, false, false, false, false, false]) rfl rfl (by kernel_rfl) rfl (q_move (by conv => lhs; whnf) ?_)
        refine tn_first_q (i := 7) (listed' := #[true, true, true, true, true, true, true, true, false, false, false, false, false, false, false, false, false]) rfl rfl (by kernel_rfl) rfl (q_int rfl rfl ?_)
        intro n24 hn24
        replace hn24 := in64 hn24 (by omega) (by omega)
        refine tn_first_q (i := 8) (listed' := #[true, true, true, true, true, true, true, true, true, false, false, false, false, false, false, false, false]) rfl rfl (by kernel_rfl) rfl (q_move (by conv => lhs; whnf) ?_)
        refine tn_first_q (i := 9) (listed' := #[true, true, true, true, true, true, true, true, true, true, false, false, false, false, false, false, false]) rfl rfl (by kernel_rfl) rfl (q_move (by conv => lhs; whnf) ?_)
        refine tn_first_q (i := 10) (listed' := #[true, true, true, true, true, true, true, true, true, true, true, false, false, false, false, false, false]) rfl rfl (by kernel_rfl) rfl (q_idx tE50 rfl rfl (by exact Int.natCast_nonneg _) (by exact map_get hp) rfl ?_)
        refine tn_first_q (i := 11) (listed' := #[true, true, true, true, true, true, true, true, true, true, true, true, false, false, false, false, false]) rfl rfl (by kernel_rfl) rfl (q_fieldAddr fO103_1 rfl rfl ?_)
        refine tn_first_q (i := 12) (listed' := #[true, true, true, true, true, true, true, true, true, true, true, true, true, false, false, false, false]) rfl rfl (by kernel_rfl) rfl (q_load tA2 rfl ?_)
        refine tn_step [13] (by kernel_rfl) rfl ?_
        refine ⟨?_, trivial⟩
        · refine tn_k (listed' := #[true, true, true, true, true, true, true, true, true, true, true, true, true, true, false, false, false]) rfl rfl rfl rfl (k_build zA103 pl103 (rfl) ?_)
          refine tn_step [14] (by kernel_rfl) rfl ?_
          refine ⟨?_, trivial⟩
          · refine tn_k (listed' := #[true, true, true, true, true, true, true, true, true, true, true, true, true, true, true, false, false]) rfl rfl rfl rfl (k_lit tE50 zA103 rfl rfl (by decide) (by decide) rfl rfl rfl ?_)
            refine tn_step [15] (by kernel_rfl) rfl ?_
            refine ⟨?_, trivial⟩
            · refine tn_k (listed' := #[true, true, true, true, true, true, true, true, true, true, true, true, true, true, true, true, false]) rfl rfl rfl rfl (k_app tApp50 rfl rfl (by simp) rfl (.inr rfl) (by first | (simp [maxLen]; done) | (simp [maxLen]; omega)) (by first | (simp; done) | (simp; omega)) ?_)
              refine tn_first_q (i := 16) (listed' := #[true, true, true, true, true, true, true, true, true, true, true, true, true, true, true, true, true]) rfl rfl (by kernel_rfl) rfl (q_assign (by conv => lhs; whnf) ?_)
              refine tn_end (by kernel_rfl) (hK23 _ ?_); clear hK23
              refine good_region rfl ?_
              refine ev_q rfl (q_move (by conv => lhs; whnf) ?_)
              refine ev_q rfl (q_int rfl rfl ?_)
              intro n25 hn25
              replace hn25 := in64 hn25 (by omega) (by omega)
              refine ev_q rfl (q_assign (by conv => lhs; whnf) ?_)
              refine ev_nil ?_
              clear hK16
              refine ⟨i + 1, ?_, ?_, ?_⟩
              · show _ ≤ _; omega
              · first | omega | (simp only []; omega) | (dsimp only; omega)
              · refine sub_weak ?_ ?_
                · exact weakH_row (rowEq (appS hst (stpE (by omega) rfl))) (weakH_none _)
                · refine weakE_upd ?e8 ?r8 (weakE_upd ?e7 ?r7 (weakE_upd ?e1 ?r1 (weakE_upd ?e0 ?r0 (weakE_junk _ _))))
                  case e0 => first | rfl | exact fI (by omega) | (simp_all)
                  case r0 => intro h hh; cases hh
                  case e1 => first | rfl | exact fI (by omega) | (simp_all)
                  case r1 => intro h hh; cases hh
                  case e7 => first | rfl | exact fI (by omega) | (first | rfl | (rw [lateG_0 (by omega)]; done) | (rw [lateG_n (by omega)]; done) | exact ownEq (by rw [lateG_0 (by omega)]; rfl) | exact ownEq (by rw [lateG_n (by omega)]; rfl) | (rw [hst]; exact ownEq (by simp)))
                  case r7 => intro h hh; simp [refs] at hh; subst hh; rfl
                  case e8 => first | rfl | exact fI (by omega) | (simp_all)
                  case r8 => intro h hh; cases hh

-- spec.l09Done
set_option maxRecDepth 20000 in
set_option maxHeartbeats 2000000 in
theorem D_spec_l09Done_X (xs : List (Int × Int)) (hx : xs.length ≤ 8796093022208) : DenX Try.prog 93 [] [.lst 2 (xs.map stp)] [(900004, .row 103 2 ((tmR xs).map stp))] (.tup [.own 900004 (tmR xs).length, .s (.int .i64 (tmC xs))]) := by
  have hln := trG_len (xs := xs) xs.length
  refine denX_of_good Try.func93 (by decide) rfl (Nat.le_of_ble_eq_true rfl) (Nat.le_of_ble_eq_true rfl) rfl ?_
  refine good_seq fun K1 hK1 => ?_
  refine good_region rfl ?_
  refine ev_q rfl (q_assign (by conv => lhs; whnf) ?_)
  refine ev_q rfl (q_assign (by conv => lhs; whnf) ?_)
  refine ev_nil (hK1 _ ?_); clear hK1
  refine good_seq fun K2 hK2 => ?_
  refine good_region rfl ?_
  refine ev_q rfl (q_move (by conv => lhs; whnf) ?_)
  refine ev_k rfl (k_callX [(36, 900001)] (D_spec_l09Trim_X xs hx) rfl (rfl) (rfl) trivial ⟨⟨rfl, show (900001 : Nat) < 1000000 by decide⟩, trivial⟩ rfl rfl rfl ?_)
  refine ev_q rfl (q_assign (by conv => lhs; whnf) ?_)
  refine ev_nil (hK2 _ ?_); clear hK2
  refine good_seq fun K3 hK3 => ?_
  refine good_seq fun K4 hK4 => ?_
  refine good_region rfl ?_
  refine ev_q rfl (q_assign (by conv => lhs; whnf) ?_)
  refine ev_nil (hK4 _ ?_); clear hK4
  refine good_block ?_
  refine good_loop (α := Nat) (fun i => { env := upd (upd ((fun _ => .junk)) 4 (.own 900001 (trG xs xs.length).length)) 5 (.s (.int .i64 i)), H := upd ((fun _ => none)) 900001 (some (.row 103 2 ((trG xs xs.length).map stp))) }) (fun i => i ≤ (trG xs xs.length).length ∧ ∀ j q, j < i → (trG xs xs.length)[j]? = some q → 0 ≤ q.1 ∧ q.1 ≤ 1000000) (fun i => (trG xs xs.length).length - i) 0 ?_ ?_ ?_
  · exact ⟨Nat.zero_le _, fun j u hj => by omega⟩
  · refine sub_weak ?_ ?_
    · exact weakH_row (rowEq (rfl)) (weakH_none _)
    · refine weakE_upd ?e5 ?r5 (weakE_upd ?e4 ?r4 (weakE_junk _ _))
      case e4 => first | rfl | exact fI (by omega) | (simp_all)
      case r4 => intro h hh; simp [refs] at hh; subst hh; rfl
      case e5 => first | rfl | exact fI (by omega) | (simp_all)
      case r5 => intro h hh; cases hh
  · rintro i ⟨hI, hJ⟩
    refine good_seq fun K5 hK5 => ?_
    refine good_seq fun K6 hK6 => ?_
    refine good_region rfl ?_
    refine ev_q rfl (q_move (by conv => lhs; whnf) ?_)
    refine ev_q rfl (q_move (by conv => lhs; whnf) ?_)
    refine ev_q rfl (q_len tEs50 rfl ?_)
    intro n7 hn7
    try simp only [List.length_map] at hn7
    refine ev_q rfl (q_int rfl rfl ?_)
    intro b8 hb8; cases b8
    · replace hb8 := dF hb8
      refine ev_nil (hK6 _ ?_); clear hK6
      refine good_condF rfl ?_
      refine good_exit ?_
      repeat (first | refine thenQ_exit ?_ | refine blockQ_pass rfl ?_)
      refine blockQ_exit (hK3 _ ?_); clear hK3
      refine good_seq fun K9 hK9 => ?_
      refine good_seq fun K10 hK10 => ?_
      refine good_region rfl ?_
      refine ev_q rfl (q_move (by conv => lhs; whnf) ?_)
      refine ev_q rfl (q_len tEs50 rfl ?_)
      intro n11 hn11
      try simp only [List.length_map] at hn11
      refine ev_q rfl (q_int rfl rfl ?_)
      intro b12 hb12; cases b12
      · replace hb12 := dF hb12
        have e2 := tmC_0 (tmB_all hJ (by omega)) (by omega)
        refine ev_nil (hK10 _ ?_); clear hK10
        refine good_condF rfl ?_
        refine good_skip (hK9 _ ?_); clear hK9
        refine good_seq fun K13 hK13 => ?_
        refine good_region rfl ?_
        refine ev_q rfl (q_move (by conv => lhs; whnf) ?_)
        refine ev_q rfl (q_assign (by conv => lhs; whnf) ?_)
        refine ev_q rfl (q_assign (by conv => lhs; whnf) ?_)
        refine ev_nil (hK13 _ ?_); clear hK13
        first | refine good_weak (sub_move 2 900001 900004 rfl rfl rfl (by decide)) ?_ | skip
        refine good_ret ?_
        repeat (first | refine thenQ_ret ?_ | refine blockQ_ret ?_)
        refine fx_many rfl ?_
        refine fxs_tmp (by conv => lhs; whnf) ?_
        refine fxs_tmp (by conv => lhs; whnf) ?_
        refine fx_nil ?_
        clear hK5
        first | (have e : tmR xs = [] := tmR_no (by omega)) | (have e : tmR xs = trG xs xs.length := tmR_ok e2)
        exact ⟨_, .tup (.cons (conv_eq (by first | rfl | (rw [e]; done) | (rw [e]; rfl) | exact ownEq (by first | omega | simp_all))) (.cons (conv_eq (by first | rfl | exact fI (by omega) | (exfalso; first | omega | grind))) (.nil))), weakH_row (rowEq (by first | rfl | (rw [e]; done) | (rw [e]; rfl) | (simp_all; done))) (weakH_none _), refsIn_ok rfl⟩
      · replace hb12 := dT hb12
        have e2 := tmC_5 (tmB_all hJ (by omega)) (by omega)
        refine ev_nil (hK10 _ ?_); clear hK10
        refine good_condT rfl ?_
        refine good_seq fun K14 hK14 => ?_
        refine good_region rfl ?_
        refine ev_q rfl (q_assign (by conv => lhs; whnf) ?_)
        refine ev_q rfl (q_assign (by conv => lhs; whnf) ?_)
        refine ev_nil (hK14 _ ?_); clear hK14
        first | refine good_weak (sub_move 2 900001 900004 rfl rfl rfl (by decide)) ?_ | skip
        refine good_ret ?_
        repeat (first | refine thenQ_ret ?_ | refine blockQ_ret ?_)
        refine fx_many rfl ?_
        refine fxs_tmp (by conv => lhs; whnf) ?_
        refine fxs_tmp (by conv => lhs; whnf) ?_
        refine fx_nil ?_
        clear hK5 hK9
        first | (have e : tmR xs = [] := tmR_no (by omega)) | (have e : tmR xs = trG xs xs.length := tmR_ok e2)
        exact ⟨_, .tup (.cons (conv_nil rfl (by decide) (by rw [e]; rfl)) (.cons (conv_eq (by first | rfl | exact fI (by omega) | (exfalso; first | omega | grind))) (.nil))), weakH_row (rowEq (by first | rfl | (rw [e]; done) | (rw [e]; rfl) | (simp_all; done))) (weakH_none _), refsIn_ok rfl⟩
    · replace hb8 := dT hb8
      obtain ⟨q, hq⟩ := getL (xs := (trG xs xs.length)) (n := (i : Int)) (by omega) (by omega)
      replace hq : (trG xs xs.length)[i]? = some q := hq
      refine ev_nil (hK6 _ ?_); clear hK6
      refine good_condT rfl ?_
      refine good_skip (hK5 _ ?_); clear hK5
      refine good_seq fun K15 hK15 => ?_
      refine good_block ?_
      refine good_seq fun K16 hK16 => ?_
      refine good_region rfl ?_
      refine ev_q rfl (q_move (by conv => lhs; whnf) ?_)
      refine ev_q rfl (q_move (by conv => lhs; whnf) ?_)
      refine ev_q rfl (q_idxO tE50 rfl rfl rfl (by exact Int.natCast_nonneg _) (by omega) rfl ?_)
      refine ev_q rfl (q_fieldAddrE fO103_0 rfl rfl ?_)
      refine ev_q rfl (q_loadE tA2 rfl rfl (by exact map_get hq) rfl ?_)
      refine ev_q rfl (q_callB rfl rfl (rfl) (D_spec_l09Time ..) ?_)
      intro b17 hb17; cases b17
      · first | replace hb17 := dF hb17 | skip
        have e2 := tmC_6 (xs := xs) ⟨q, List.mem_of_getElem? hq, hb17⟩
        refine ev_q rfl (q_not rfl rfl ?_)
        refine ev_nil (hK16 _ ?_); clear hK16
        refine good_condT rfl ?_
        refine good_seq fun K18 hK18 => ?_
        refine good_region rfl ?_
        refine ev_q rfl (q_assign (by conv => lhs; whnf) ?_)
        refine ev_q rfl (q_assign (by conv => lhs; whnf) ?_)
        refine ev_nil (hK18 _ ?_); clear hK18
        first | refine good_weak (sub_move 2 900001 900004 rfl rfl rfl (by decide)) ?_ | skip
        refine good_ret ?_
        repeat (first | refine thenQ_ret ?_ | refine blockQ_ret ?_)
        refine fx_many rfl ?_
        refine fxs_tmp (by conv => lhs; whnf) ?_
        refine fxs_tmp (by conv => lhs; whnf) ?_
        refine fx_nil ?_
        clear hK3 hK15
        first | (have e : tmR xs = [] := tmR_no (by omega)) | (have e : tmR xs = trG xs xs.length := tmR_ok e2)
        exact ⟨_, .tup (.cons (conv_nil rfl (by decide) (by rw [e]; rfl)) (.cons (conv_eq (by first | rfl | exact fI (by omega) | (exfalso; first | omega | grind))) (.nil))), weakH_row (rowEq (by first | rfl | (rw [e]; done) | (rw [e]; rfl) | (simp_all; done))) (weakH_none _), refsIn_ok rfl⟩
      · first | replace hb17 := dT hb17 | skip
        have hqb := hb17
        refine ev_q rfl (q_not rfl rfl ?_)
        refine ev_nil (hK16 _ ?_); clear hK16
        refine good_condF rfl ?_
        refine good_skip (hK15 _ ?_); clear hK15
        refine good_region rfl ?_
        refine ev_q rfl (q_move (by conv => lhs; whnf) ?_)
        refine ev_q rfl (q_int rfl rfl ?_)
        intro n19 hn19
        replace hn19 := in64 hn19 (by omega) (by omega)
        refine ev_q rfl (q_assign (by conv => lhs; whnf) ?_)
        refine ev_nil ?_
        clear hK3
        refine ⟨i + 1, ?_, ?_, ?_⟩
        · exact ⟨by omega, all_extI (Q := fun _ (q : Int × Int) => 0 ≤ q.1 ∧ q.1 ≤ 1000000) hJ hq hqb⟩
        · first | omega | (simp only []; omega) | (dsimp only; omega)
        · refine sub_weak ?_ ?_
          · exact weakH_row (rowEq (rfl)) (weakH_none _)
          · refine weakE_upd ?e5 ?r5 (weakE_upd ?e4 ?r4 (weakE_junk _ _))
            case e4 => first | rfl | exact fI (by omega) | (simp_all)
            case r4 => intro h hh; simp [refs] at hh; subst hh; rfl
            case e5 => first | rfl | exact fI (by omega) | (simp_all)
            case r5 => intro h hh; cases hh

-- impl.DelayWave
set_option maxRecDepth 20000 in
set_option maxHeartbeats 2000000 in
theorem D_impl_DelayWave_X (xs : List (Int × Int)) (d b : Int) (hx : xs.length ≤ 8796093022000) : DenX Try.prog 39 [] [.lst 2 (xs.map stp), .s (.int .i64 d), .s (.int .i64 b)] [(900005, .row 103 2 ((dwR xs d b).map stp))] (.tup [.own 900005 (dwR xs d b).length, .s (.int .i64 (dwC xs d b))]) := by
  refine denX_of_good Try.func39 (by decide) rfl (Nat.le_of_ble_eq_true rfl) (Nat.le_of_ble_eq_true rfl) rfl ?_
  refine good_seq fun K1 hK1 => ?_
  refine good_region rfl ?_
  refine ev_q rfl (q_assign (by conv => lhs; whnf) ?_)
  refine ev_q rfl (q_assign (by conv => lhs; whnf) ?_)
  refine ev_nil (hK1 _ ?_); clear hK1
  refine good_seq fun K2 hK2 => ?_
  refine good_block ?_
  refine good_seq fun K3 hK3 => ?_
  refine good_region rfl ?_
  refine ev_q rfl (q_move (by conv => lhs; whnf) ?_)
  refine ev_q rfl (q_callB rfl rfl (rfl) (D_impl_ValidWave _ (by omega)) ?_)
  intro b4 hb4; cases b4
  · first | replace hb4 := dF hb4 | skip
    refine ev_q rfl (q_not rfl rfl ?_)
    refine ev_q rfl (q_assign (by conv => lhs; whnf) ?_)
    refine ev_nil (hK3 _ ?_); clear hK3
    refine good_condT rfl ?_
    refine good_seq fun K5 hK5 => ?_
    refine good_region rfl ?_
    refine ev_q rfl (q_assign (by conv => lhs; whnf) ?_)
    refine ev_q rfl (q_assign (by conv => lhs; whnf) ?_)
    refine ev_nil (hK5 _ ?_); clear hK5
    refine good_ret ?_
    repeat (first | refine thenQ_ret ?_ | refine blockQ_ret ?_)
    refine fx_many rfl ?_
    refine fxs_tmp (by conv => lhs; whnf) ?_
    refine fxs_tmp (by conv => lhs; whnf) ?_
    refine fx_nil ?_
    clear hK2
    first | (have hdw := dwR_1 (xs := xs) (d := d) (b := b) (by assumption)) | (have hdw := dwR_ok (xs := xs) (d := d) (b := b) (by assumption) (by omega)) | (have hdw := dwR_2 (xs := xs) (d := d) (b := b) (by assumption) (by omega))
    obtain ⟨e2, e⟩ := hdw
    exact ⟨_, .tup (.cons (conv_nil rfl (by decide) (by rw [e]; rfl)) (.cons (conv_eq (by first | rfl | exact fI (by omega) | (exfalso; first | omega | grind))) (.nil))), weakH_row (rowEq (by first | rfl | (rw [e]; done) | (rw [e]; rfl) | (simp_all; done))) (weakH_none _), refsIn_ok rfl⟩
  · first | replace hb4 := dT hb4 | skip
    refine ev_q rfl (q_not rfl rfl ?_)
    refine ev_q rfl (q_assign (by conv => lhs; whnf) ?_)
    refine ev_nil (hK3 _ ?_); clear hK3
    refine good_condF rfl ?_
    refine good_seq fun K6 hK6 => ?_
    refine good_region rfl ?_
    refine ev_q rfl (q_move (by conv => lhs; whnf) ?_)
    refine ev_q rfl (q_callB rfl rfl (rfl) (D_impl_timeOk ..) ?_)
    intro b7 hb7; cases b7
    · first | replace hb7 := dF hb7 | skip
      refine ev_q rfl (q_not rfl rfl ?_)
      refine ev_q rfl (q_move (by conv => lhs; whnf) ?_)
      refine ev_skip rfl ?_
      refine ev_skip rfl ?_
      refine ev_skip rfl ?_
      refine ev_q rfl (q_pickT rfl (by conv => lhs; whnf) ?_)
      refine ev_q rfl (q_assign (by conv => lhs; whnf) ?_)
      refine ev_nil (hK6 _ ?_); clear hK6
      refine good_condT rfl ?_
      refine good_seq fun K8 hK8 => ?_
      refine good_region rfl ?_
      refine ev_q rfl (q_assign (by conv => lhs; whnf) ?_)
      refine ev_q rfl (q_assign (by conv => lhs; whnf) ?_)
      refine ev_nil (hK8 _ ?_); clear hK8
      refine good_ret ?_
      repeat (first | refine thenQ_ret ?_ | refine blockQ_ret ?_)
      refine fx_many rfl ?_
      refine fxs_tmp (by conv => lhs; whnf) ?_
      refine fxs_tmp (by conv => lhs; whnf) ?_
      refine fx_nil ?_
      clear hK2
      first | (have hdw := dwR_1 (xs := xs) (d := d) (b := b) (by assumption)) | (have hdw := dwR_ok (xs := xs) (d := d) (b := b) (by assumption) (by omega)) | (have hdw := dwR_2 (xs := xs) (d := d) (b := b) (by assumption) (by omega))
      obtain ⟨e2, e⟩ := hdw
      exact ⟨_, .tup (.cons (conv_nil rfl (by decide) (by rw [e]; rfl)) (.cons (conv_eq (by first | rfl | exact fI (by omega) | (exfalso; first | omega | grind))) (.nil))), weakH_row (rowEq (by first | rfl | (rw [e]; done) | (rw [e]; rfl) | (simp_all; done))) (weakH_none _), refsIn_ok rfl⟩
    · first | replace hb7 := dT hb7 | skip
      refine ev_q rfl (q_not rfl rfl ?_)
      refine ev_q rfl (q_move (by conv => lhs; whnf) ?_)
      refine ev_q rfl (q_move (by conv => lhs; whnf) ?_)
      refine ev_q rfl (q_callB rfl rfl (rfl) (D_impl_degreesOk ..) ?_)
      intro b9 hb9; cases b9
      · first | replace hb9 := dF hb9 | skip
        refine ev_q rfl (q_not rfl rfl ?_)
        refine ev_q rfl (q_pickF rfl (by conv => lhs; whnf) ?_)
        refine ev_q rfl (q_assign (by conv => lhs; whnf) ?_)
        refine ev_nil (hK6 _ ?_); clear hK6
        refine good_condT rfl ?_
        refine good_seq fun K10 hK10 => ?_
        refine good_region rfl ?_
        refine ev_q rfl (q_assign (by conv => lhs; whnf) ?_)
        refine ev_q rfl (q_assign (by conv => lhs; whnf) ?_)
        refine ev_nil (hK10 _ ?_); clear hK10
        refine good_ret ?_
        repeat (first | refine thenQ_ret ?_ | refine blockQ_ret ?_)
        refine fx_many rfl ?_
        refine fxs_tmp (by conv => lhs; whnf) ?_
        refine fxs_tmp (by conv => lhs; whnf) ?_
        refine fx_nil ?_
        clear hK2
        first | (have hdw := dwR_1 (xs := xs) (d := d) (b := b) (by assumption)) | (have hdw := dwR_ok (xs := xs) (d := d) (b := b) (by assumption) (by omega)) | (have hdw := dwR_2 (xs := xs) (d := d) (b := b) (by assumption) (by omega))
        obtain ⟨e2, e⟩ := hdw
        exact ⟨_, .tup (.cons (conv_nil rfl (by decide) (by rw [e]; rfl)) (.cons (conv_eq (by first | rfl | exact fI (by omega) | (exfalso; first | omega | grind))) (.nil))), weakH_row (rowEq (by first | rfl | (rw [e]; done) | (rw [e]; rfl) | (simp_all; done))) (weakH_none _), refsIn_ok rfl⟩
      · first | replace hb9 := dT hb9 | skip
        refine ev_q rfl (q_not rfl rfl ?_)
        refine ev_q rfl (q_pickF rfl (by conv => lhs; whnf) ?_)
        refine ev_q rfl (q_assign (by conv => lhs; whnf) ?_)
        refine ev_nil (hK6 _ ?_); clear hK6
        refine good_condF rfl ?_
        refine good_skip (hK2 _ ?_); clear hK2
        refine good_seq fun K11 hK11 => ?_
        refine good_region rfl ?_
        refine ev_q rfl (q_move (by conv => lhs; whnf) ?_)
        refine ev_q rfl (q_move (by conv => lhs; whnf) ?_)
        refine ev_q rfl (q_move (by conv => lhs; whnf) ?_)
        refine ev_q rfl (q_call rfl rfl (rfl) (D_impl_delayed xs d b hx (by omega) (by assumption)) rfl ?_)
        refine ev_k rfl (k_callX [(900004, 900005)] (D_impl_trimmedWave_X (lateL xs d b) (by have := lateL_len (xs := xs) (d := d) (b := b); omega)) rfl (rfl) (rfl) trivial ⟨⟨rfl, show (900005 : Nat) < 1000000 by decide⟩, trivial⟩ rfl rfl rfl ?_)
        refine ev_q rfl (q_extract rfl rfl ?_)
        refine ev_q rfl (q_extractI rfl rfl ?_)
        intro n12 hn12
        refine ev_q rfl (q_assign (by conv => lhs; whnf) ?_)
        refine ev_q rfl (q_assign (by conv => lhs; whnf) ?_)
        refine ev_nil (hK11 _ ?_); clear hK11
        refine good_ret ?_
        repeat (first | refine thenQ_ret ?_ | refine blockQ_ret ?_)
        refine fx_many rfl ?_
        refine fxs_tmp (by conv => lhs; whnf) ?_
        refine fxs_tmp (by conv => lhs; whnf) ?_
        refine fx_nil ?_
        first | (have hdw := dwR_1 (xs := xs) (d := d) (b := b) (by assumption)) | (have hdw := dwR_ok (xs := xs) (d := d) (b := b) (by assumption) (by omega)) | (have hdw := dwR_2 (xs := xs) (d := d) (b := b) (by assumption) (by omega))
        obtain ⟨e2, e⟩ := hdw
        exact ⟨_, .tup (.cons (conv_eq (by first | rfl | (rw [e]; done) | (rw [e]; rfl) | exact ownEq (by first | omega | simp_all))) (.cons (conv_eq (by first | rfl | exact fI (by omega) | (exfalso; first | omega | grind))) (.nil))), weakH_row (rowEq (by first | rfl | (rw [e]; done) | (rw [e]; rfl) | (simp_all; done))) (weakH_none _), refsIn_ok rfl⟩
theorem D_impl_DelayWave (xs : List (Int × Int)) (d b : Int) (hx : xs.length ≤ 8796093022000) : Den Try.prog 39 [.lst 2 (xs.map stp), .s (.int .i64 d), .s (.int .i64 b)] (.tup [.lst 2 ((dwR xs d b).map stp), .s (.int .i64 (dwC xs d b))]) :=
  den_of_denX (D_impl_DelayWave_X xs d b hx) (by change (some (.tup [.lst 2 (List.take (dwR xs d b).length ((dwR xs d b).map stp)), .s (.int .i64 (dwC xs d b))]) : Option AV) = some (.tup [.lst 2 ((dwR xs d b).map stp), .s (.int .i64 (dwC xs d b))]); simp only [takeMap])

-- spec.DelayWave
set_option maxRecDepth 20000 in
set_option maxHeartbeats 2000000 in
theorem D_spec_DelayWave_X (xs : List (Int × Int)) (d b : Int) (hx : xs.length ≤ 8796093022000) : DenX Try.prog 38 [] [.lst 2 (xs.map stp), .s (.int .i64 d), .s (.int .i64 b)] [(900005, .row 103 2 ((dwR xs d b).map stp))] (.tup [.own 900005 (dwR xs d b).length, .s (.int .i64 (dwC xs d b))]) := by
  refine denX_of_good Try.func38 (by decide) rfl (Nat.le_of_ble_eq_true rfl) (Nat.le_of_ble_eq_true rfl) rfl ?_
  refine good_seq fun K1 hK1 => ?_
  refine good_region rfl ?_
  refine ev_q rfl (q_assign (by conv => lhs; whnf) ?_)
  refine ev_q rfl (q_assign (by conv => lhs; whnf) ?_)
  refine ev_nil (hK1 _ ?_); clear hK1
  refine good_seq fun K2 hK2 => ?_
  refine good_seq fun K3 hK3 => ?_
  refine good_region rfl ?_
  refine ev_q rfl (q_move (by conv => lhs; whnf) ?_)
  refine ev_q rfl (q_callB rfl rfl (rfl) (D_spec_l09Ok _ (by omega)) ?_)
  intro b4 hb4; cases b4
  · first | replace hb4 := dF hb4 | skip
    refine ev_q rfl (q_not rfl rfl ?_)
    refine ev_nil (hK3 _ ?_); clear hK3
    refine good_condT rfl ?_
    refine good_seq fun K5 hK5 => ?_
    refine good_region rfl ?_
    refine ev_q rfl (q_assign (by conv => lhs; whnf) ?_)
    refine ev_q rfl (q_assign (by conv => lhs; whnf) ?_)
    refine ev_nil (hK5 _ ?_); clear hK5
    refine good_ret ?_
    repeat (first | refine thenQ_ret ?_ | refine blockQ_ret ?_)
    refine fx_many rfl ?_
    refine fxs_tmp (by conv => lhs; whnf) ?_
    refine fxs_tmp (by conv => lhs; whnf) ?_
    refine fx_nil ?_
    clear hK2
    first | (have hdw := dwR_1 (xs := xs) (d := d) (b := b) (by assumption)) | (have hdw := dwR_ok (xs := xs) (d := d) (b := b) (by assumption) (by omega)) | (have hdw := dwR_2 (xs := xs) (d := d) (b := b) (by assumption) (by omega))
    obtain ⟨e2, e⟩ := hdw
    exact ⟨_, .tup (.cons (conv_nil rfl (by decide) (by rw [e]; rfl)) (.cons (conv_eq (by first | rfl | exact fI (by omega) | (exfalso; first | omega | grind))) (.nil))), weakH_row (rowEq (by first | rfl | (rw [e]; done) | (rw [e]; rfl) | (simp_all; done))) (weakH_none _), refsIn_ok rfl⟩
  · first | replace hb4 := dT hb4 | skip
    refine ev_q rfl (q_not rfl rfl ?_)
    refine ev_nil (hK3 _ ?_); clear hK3
    refine good_condF rfl ?_
    refine good_skip (hK2 _ ?_); clear hK2
    refine good_seq fun K6 hK6 => ?_
    refine good_seq fun K7 hK7 => ?_
    refine good_region rfl ?_
    refine ev_q rfl (q_move (by conv => lhs; whnf) ?_)
    refine ev_q rfl (q_callB rfl rfl (rfl) (D_spec_l09Time ..) ?_)
    intro b8 hb8; cases b8
    · first | replace hb8 := dF hb8 | skip
      refine ev_q rfl (q_not rfl rfl ?_)
      refine ev_q rfl (q_move (by conv => lhs; whnf) ?_)
      refine ev_skip rfl ?_
      refine ev_skip rfl ?_
      refine ev_skip rfl ?_
      refine ev_q rfl (q_pickT rfl (by conv => lhs; whnf) ?_)
      refine ev_nil (hK7 _ ?_); clear hK7
      refine good_condT rfl ?_
      refine good_seq fun K9 hK9 => ?_
      refine good_region rfl ?_
      refine ev_q rfl (q_assign (by conv => lhs; whnf) ?_)
      refine ev_q rfl (q_assign (by conv => lhs; whnf) ?_)
      refine ev_nil (hK9 _ ?_); clear hK9
      refine good_ret ?_
      repeat (first | refine thenQ_ret ?_ | refine blockQ_ret ?_)
      refine fx_many rfl ?_
      refine fxs_tmp (by conv => lhs; whnf) ?_
      refine fxs_tmp (by conv => lhs; whnf) ?_
      refine fx_nil ?_
      clear hK6
      first | (have hdw := dwR_1 (xs := xs) (d := d) (b := b) (by assumption)) | (have hdw := dwR_ok (xs := xs) (d := d) (b := b) (by assumption) (by omega)) | (have hdw := dwR_2 (xs := xs) (d := d) (b := b) (by assumption) (by omega))
      obtain ⟨e2, e⟩ := hdw
      exact ⟨_, .tup (.cons (conv_nil rfl (by decide) (by rw [e]; rfl)) (.cons (conv_eq (by first | rfl | exact fI (by omega) | (exfalso; first | omega | grind))) (.nil))), weakH_row (rowEq (by first | rfl | (rw [e]; done) | (rw [e]; rfl) | (simp_all; done))) (weakH_none _), refsIn_ok rfl⟩
    · first | replace hb8 := dT hb8 | skip
      refine ev_q rfl (q_not rfl rfl ?_)
      refine ev_q rfl (q_move (by conv => lhs; whnf) ?_)
      refine ev_q rfl (q_move (by conv => lhs; whnf) ?_)
      refine ev_q rfl (q_callB rfl rfl (rfl) (D_spec_l03Degrees ..) ?_)
      intro b10 hb10; cases b10
      · first | replace hb10 := dF hb10 | skip
        refine ev_q rfl (q_not rfl rfl ?_)
        refine ev_q rfl (q_pickF rfl (by conv => lhs; whnf) ?_)
        refine ev_nil (hK7 _ ?_); clear hK7
        refine good_condT rfl ?_
        refine good_seq fun K11 hK11 => ?_
        refine good_region rfl ?_
        refine ev_q rfl (q_assign (by conv => lhs; whnf) ?_)
        refine ev_q rfl (q_assign (by conv => lhs; whnf) ?_)
        refine ev_nil (hK11 _ ?_); clear hK11
        refine good_ret ?_
        repeat (first | refine thenQ_ret ?_ | refine blockQ_ret ?_)
        refine fx_many rfl ?_
        refine fxs_tmp (by conv => lhs; whnf) ?_
        refine fxs_tmp (by conv => lhs; whnf) ?_
        refine fx_nil ?_
        clear hK6
        first | (have hdw := dwR_1 (xs := xs) (d := d) (b := b) (by assumption)) | (have hdw := dwR_ok (xs := xs) (d := d) (b := b) (by assumption) (by omega)) | (have hdw := dwR_2 (xs := xs) (d := d) (b := b) (by assumption) (by omega))
        obtain ⟨e2, e⟩ := hdw
        exact ⟨_, .tup (.cons (conv_nil rfl (by decide) (by rw [e]; rfl)) (.cons (conv_eq (by first | rfl | exact fI (by omega) | (exfalso; first | omega | grind))) (.nil))), weakH_row (rowEq (by first | rfl | (rw [e]; done) | (rw [e]; rfl) | (simp_all; done))) (weakH_none _), refsIn_ok rfl⟩
      · first | replace hb10 := dT hb10 | skip
        refine ev_q rfl (q_not rfl rfl ?_)
        refine ev_q rfl (q_pickF rfl (by conv => lhs; whnf) ?_)
        refine ev_nil (hK7 _ ?_); clear hK7
        refine good_condF rfl ?_
        refine good_skip (hK6 _ ?_); clear hK6
        refine good_seq fun K12 hK12 => ?_
        refine good_region rfl ?_
        refine ev_q rfl (q_move (by conv => lhs; whnf) ?_)
        refine ev_q rfl (q_move (by conv => lhs; whnf) ?_)
        refine ev_q rfl (q_move (by conv => lhs; whnf) ?_)
        refine ev_q rfl (q_call rfl rfl (rfl) (D_spec_l09Late xs d b hx (by omega) (by assumption)) rfl ?_)
        refine ev_k rfl (k_callX [(900004, 900005)] (D_spec_l09Done_X (lateL xs d b) (by have := lateL_len (xs := xs) (d := d) (b := b); omega)) rfl (rfl) (rfl) trivial ⟨⟨rfl, show (900005 : Nat) < 1000000 by decide⟩, trivial⟩ rfl rfl rfl ?_)
        refine ev_q rfl (q_extract rfl rfl ?_)
        refine ev_q rfl (q_extractI rfl rfl ?_)
        intro n13 hn13
        refine ev_q rfl (q_assign (by conv => lhs; whnf) ?_)
        refine ev_q rfl (q_assign (by conv => lhs; whnf) ?_)
        refine ev_nil (hK12 _ ?_); clear hK12
        refine good_ret ?_
        repeat (first | refine thenQ_ret ?_ | refine blockQ_ret ?_)
        refine fx_many rfl ?_
        refine fxs_tmp (by conv => lhs; whnf) ?_
        refine fxs_tmp (by conv => lhs; whnf) ?_
        refine fx_nil ?_
        first | (have hdw := dwR_1 (xs := xs) (d := d) (b := b) (by assumption)) | (have hdw := dwR_ok (xs := xs) (d := d) (b := b) (by assumption) (by omega)) | (have hdw := dwR_2 (xs := xs) (d := d) (b := b) (by assumption) (by omega))
        obtain ⟨e2, e⟩ := hdw
        exact ⟨_, .tup (.cons (conv_eq (by first | rfl | (rw [e]; done) | (rw [e]; rfl) | exact ownEq (by first | omega | simp_all))) (.cons (conv_eq (by first | rfl | exact fI (by omega) | (exfalso; first | omega | grind))) (.nil))), weakH_row (rowEq (by first | rfl | (rw [e]; done) | (rw [e]; rfl) | (simp_all; done))) (weakH_none _), refsIn_ok rfl⟩
theorem D_spec_DelayWave (xs : List (Int × Int)) (d b : Int) (hx : xs.length ≤ 8796093022000) : Den Try.prog 38 [.lst 2 (xs.map stp), .s (.int .i64 d), .s (.int .i64 b)] (.tup [.lst 2 ((dwR xs d b).map stp), .s (.int .i64 (dwC xs d b))]) :=
  den_of_denX (D_spec_DelayWave_X xs d b hx) (by change (some (.tup [.lst 2 (List.take (dwR xs d b).length ((dwR xs d b).map stp)), .s (.int .i64 (dwC xs d b))]) : Option AV) = some (.tup [.lst 2 ((dwR xs d b).map stp), .s (.int .i64 (dwC xs d b))]); simp only [takeMap])

end Go.Proofs.Ytpoppoglnjoomaa.DFnExactDelayWave
