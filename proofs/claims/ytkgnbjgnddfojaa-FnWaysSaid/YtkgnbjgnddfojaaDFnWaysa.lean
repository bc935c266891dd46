/- Walks through the functions that FnWays reaches: what each answers. -/
import Derived.Test.YtkgnbjgnddfojaaEvO
import Derived.Test.YtkgnbjgnddfojaaProg
import Derived.Test.YtkgnbjgnddfojaaEvS
import Derived.Test.YtkgnbjgnddfojaaPlain
set_option linter.unusedVariables false
set_option linter.unusedSimpArgs false
set_option maxRecDepth 20000
set_option maxHeartbeats 2000000
namespace Go.Proofs.Ytkgnbjgnddfojaa.DFnWays
open Go Go.RowKit Go.Proofs Go.Proofs.Ytkgnbjgnddfojaa Go.Proofs.Ytkgnbjgnddfojaa.Ev
def ci (n : Int) : AV := .s (.int .i64 n)
def within (xs : List Int) (lo hi : Int) : Prop := ∀ (j : Nat) (q : Int), xs[j]? = some q → lo ≤ q ∧ q ≤ hi
noncomputable instance (xs : List Int) (lo hi : Int) : Decidable (within xs lo hi) := Classical.propDecidable _
theorem all_extI {α : Type} {xs : List α} {i : Nat} {Q : Nat → α → Prop} {p : α} (hJ : ∀ j q, j < i → xs[j]? = some q → Q j q) (hp : xs[i]? = some p) (h : Q i p) : ∀ j q, j < i + 1 → xs[j]? = some q → Q j q := by
  intro j q hj hq
  by_cases e : j = i
  · subst e; rw [hp] at hq; cases hq; exact h
  · exact hJ j q (by omega) hq
theorem all_finI {α : Type} {xs : List α} {i : Nat} {Q : Nat → α → Prop} (hJ : ∀ j q, j < i → xs[j]? = some q → Q j q) (hi : xs.length ≤ i) : ∀ j q, xs[j]? = some q → Q j q := by
  intro j q hq
  exact hJ j q (by have := (List.getElem?_eq_some_iff.1 hq).1; omega) hq
def fiM {α : Type} (f : α → Bool) (xs : List α) : Int := match xs.findIdx? f with
  | some j => (j : Int)
  | none => -1
theorem fi_some {α : Type} {xs : List α} {p : α → Prop} [DecidablePred p] {i : Nat} {q : α} (hq : xs[i]? = some q) (hJ : ∀ (j : Nat) (q : α), j < i → xs[j]? = some q → ¬ p q) (h : p q) : xs.findIdx? (fun x => decide (p x)) = some i := by
  rw [List.findIdx?_eq_some_iff_getElem]
  obtain ⟨hl, he⟩ := List.getElem?_eq_some_iff.1 hq
  refine ⟨hl, by simpa [he] using h, fun j hj => ?_⟩
  simpa using hJ j _ hj (List.getElem?_eq_getElem (by omega))
theorem fi_none {α : Type} {xs : List α} {p : α → Prop} [DecidablePred p] (hJ : ∀ (j : Nat) (q : α), xs[j]? = some q → ¬ p q) : xs.findIdx? (fun x => decide (p x)) = none := by
  rw [List.findIdx?_eq_none_iff]
  intro x hx
  obtain ⟨j, hj⟩ := List.getElem?_of_mem hx
  simpa using hJ j x hj
theorem fi_any {α : Type} {xs : List α} {p : α → Prop} [DecidablePred p] : (0 : Int) ≤ fiM (fun x => decide (p x)) xs ↔ ∃ x ∈ xs, p x := by
  unfold fiM
  cases h : xs.findIdx? (fun x => decide (p x)) with
  | none =>
    rw [List.findIdx?_eq_none_iff] at h
    simp at h ⊢
    exact h
  | some j =>
    rw [List.findIdx?_eq_some_iff_getElem] at h
    obtain ⟨hl, h1, _⟩ := h
    simp only [Int.natCast_nonneg, true_iff]
    exact ⟨_, List.getElem_mem hl, by simpa using h1⟩
theorem within_any {xs : List Int} {lo hi : Int} : within xs lo hi ↔ ¬ ∃ x ∈ xs, ¬ (lo ≤ x ∧ x ≤ hi) := by
  constructor
  · intro h ⟨x, hx, hn⟩
    obtain ⟨j, hj⟩ := List.getElem?_of_mem hx
    exact hn (h j x hj)
  · intro h j q hq
    apply Classical.byContradiction
    intro hn
    exact h ⟨q, List.mem_of_getElem? hq, hn⟩
def small (u : UInt8) : Bool := decide (97 ≤ u.toNat ∧ u.toNat ≤ 122)
def digit (u : UInt8) : Bool := decide (48 ≤ u.toNat ∧ u.toNat ≤ 57)
def nbc (u : UInt8) : Bool := small u || digit u
def allNb (s : ByteArray) : Bool := s.data.all nbc
def head1 (s : ByteArray) : Bool := match s[0]? with
  | some u => small u
  | none => false
def isName (s : ByteArray) : Bool := decide (1 ≤ s.size) && decide (s.size ≤ 10) && head1 s && allNb s
theorem getB {s : ByteArray} {i : Nat} (h : i < s.size) : ∃ u, s[i]? = some u := ⟨s[i], by simp [h]⟩
theorem allNb_T {s : ByteArray} (h : ∀ j u, j < s.size → s[j]? = some u → nbc u = true) : allNb s = true := by
  unfold allNb
  rw [Array.all_eq_true]
  intro i hi
  exact h i _ hi (getElem?_pos s i hi)
theorem allNb_F {s : ByteArray} {j : Nat} {u : UInt8} (h : s[j]? = some u) (hn : nbc u = false) : allNb s = false := by
  have hj : j < s.size := by
    apply Classical.byContradiction; intro hc
    rw [getElem?_neg s j hc] at h; cases h
  unfold allNb
  rw [Array.all_eq_false]
  refine ⟨j, hj, ?_⟩
  rw [getElem?_pos s j hj] at h
  cases h
  intro hc
  have hc2 : nbc s[j] = true := hc
  rw [hn] at hc2; cases hc2
theorem isName_long {s : ByteArray} (h : ¬ s.size ≤ 10) : isName s = false := by simp [isName, h]
theorem isName_none {s : ByteArray} (h : s.size = 0) : isName s = false := by simp [isName, h]
theorem isName_head {s : ByteArray} {u : UInt8} (h : s[0]? = some u) (hn : small u = false) : isName s = false := by simp [isName, head1, h, hn]
theorem isName_eq {s : ByteArray} {u : UInt8} (h1 : 1 ≤ s.size) (h2 : s.size ≤ 10) (h : s[0]? = some u) (hn : small u = true) : isName s = allNb s := by simp [isName, head1, h, hn, h1, h2]
theorem fB {b c : Bool} (h : b = c) : AV.s (.bool b) = .s (.bool c) := by rw [h]
def tot {α : Type} (f : α → Nat) (xs : List α) (i : Nat) : Nat := ((xs.take i).map f).sum
theorem tot_zero {α : Type} (f : α → Nat) (xs : List α) : tot f xs 0 = 0 := by simp [tot]
theorem tot_step {α : Type} {f : α → Nat} {xs : List α} {i : Nat} {p : α} (h : xs[i]? = some p) : tot f xs (i + 1) = tot f xs i + f p := by
  unfold tot
  rw [List.take_add_one, h]; simp
theorem tot_le {α : Type} {f : α → Nat} {xs : List α} {i : Nat} : tot f xs i ≤ tot f xs xs.length := by
  unfold tot
  rw [List.take_length]
  have e : (xs.map f).sum = ((xs.take i).map f).sum + ((xs.drop i).map f).sum := by rw [← List.sum_append, ← List.map_append, List.take_append_drop]
  omega
theorem tot_end {α : Type} {f : α → Nat} {xs : List α} {i : Nat} (h : xs.length ≤ i) : tot f xs i = tot f xs xs.length := by
  unfold tot; rw [List.take_of_length_le h, List.take_of_length_le (Nat.le_refl _)]
theorem bytesLess_tri : ∀ (x y : List UInt8), Op.bytesLess x y = false ↔ (Op.bytesLess y x = true ∨ y = x)
  | [], [] => by simp [Op.bytesLess]
  | [], _ :: _ => by simp [Op.bytesLess]
  | _ :: _, [] => by simp [Op.bytesLess]
  | a :: x, b :: y => by
    have ih := bytesLess_tri x y
    have e1 : (a = b) ↔ a.toNat = b.toNat := ⟨fun h => by rw [h], fun h => UInt8.toNat_inj.1 h⟩
    have e2 : a < b ↔ a.toNat < b.toNat := UInt8.lt_iff_toNat_lt
    have e3 : b < a ↔ b.toNat < a.toNat := UInt8.lt_iff_toNat_lt
    by_cases h : a = b
    · subst h; simp [Op.bytesLess, ih]
    · have l : Op.bytesLess (a :: x) (b :: y) = decide (a < b) := by simp [Op.bytesLess, h]
      have r : Op.bytesLess (b :: y) (a :: x) = decide (b < a) := by simp [Op.bytesLess, Ne.symm h]
      have hn : ¬ a.toNat = b.toNat := fun e => h (e1.2 e)
      have hc : ¬ (b :: y = a :: x) := fun e => h (List.cons.inj e).1.symm
      rw [l, r]
      simp only [decide_eq_false_iff_not, decide_eq_true_eq, e2, e3, hc, or_false]
      omega
def idLt (x y : ByteArray) : Prop := Op.bytesLess x.toList y.toList = true
theorem all_extS {α : Type} {xs : List α} {i : Nat} {Q : Nat → α → Prop} {p : α} (hJ : ∀ j q, j < i → xs[j]? = some q → Q j q) (hp : xs[i]? = some p) (h : Q i p) : ∀ j q, j < i + 1 → xs[j]? = some q → Q j q := by
  intro j q hj hq
  by_cases e : j = i
  · subst e; rw [hp] at hq; cases hq; exact h
  · exact hJ j q (by omega) hq
theorem all_finS {α : Type} {xs : List α} {i : Nat} {Q : Nat → α → Prop} (hJ : ∀ j q, j < i → xs[j]? = some q → Q j q) (hi : xs.length ≤ i) : ∀ j q, xs[j]? = some q → Q j q := by
  intro j q hq
  exact hJ j q (by have := (List.getElem?_eq_some_iff.1 hq).1; omega) hq
theorem lt_ge {x y : ByteArray} (h : false = !Op.bytesLess x.toList y.toList) : idLt x y := by simpa [idLt] using h.symm
theorem nlt_ge {x y : ByteArray} (h : true = !Op.bytesLess x.toList y.toList) : ¬ idLt x y := by simp [idLt]; simpa using h.symm
theorem lt_le {x y : ByteArray} (h : false = (Op.bytesLess y.toList x.toList || y.toList == x.toList)) : idLt x y := by
  unfold idLt
  cases e : Op.bytesLess x.toList y.toList with
  | true => rfl
  | false =>
    have := (bytesLess_tri _ _).1 e
    rcases this with h1 | h1
    · rw [h1] at h; simp at h
    · rw [h1] at h; simp at h
theorem nlt_le {x y : ByteArray} (h : true = (Op.bytesLess y.toList x.toList || y.toList == x.toList)) : ¬ idLt x y := by
  unfold idLt
  intro e
  have : Op.bytesLess x.toList y.toList = false := (bytesLess_tri _ _).2 (by have h2 := h.symm; simp only [Bool.or_eq_true, beq_iff_eq] at h2; exact h2)
  rw [this] at e; cases e
structure Pi where
  id : ByteArray
  fm : Int
  tt : Int
  le : Int
  di : Int
  lo : Int
def piA (x : Pi) : AV := .agg [.s (.string x.id), .s (.int .i64 x.fm), .s (.int .i64 x.tt), .s (.int .i64 x.le), .s (.int .i64 x.di), .s (.int .i64 x.lo)]
def piZ : AV := .agg [.s (.string ⟨#[]⟩), .s (.int .i64 0), .s (.int .i64 0), .s (.int .i64 0), .s (.int .i64 0), .s (.int .i64 0)]
def piOk (x : Pi) : Prop := isName x.id = true ∧ (0 ≤ x.fm ∧ x.fm ≤ 15) ∧ (0 ≤ x.tt ∧ x.tt ≤ 15) ∧ ¬ x.fm = x.tt ∧ (1 ≤ x.le ∧ x.le ≤ 10000) ∧ (20 ≤ x.di ∧ x.di ≤ 1000) ∧ (0 ≤ x.lo ∧ x.lo ≤ 5000)
def piAt (ns : List Int) (ps : List Pi) (j : Nat) (x : Pi) : Prop := (piOk x ∧ x.fm < ns.length ∧ x.tt < ns.length) ∧ ∀ y, 0 < j → ps[j - 1]? = some y → idLt y.id x.id
def netOk (ns : List Int) (ps : List Pi) : Prop := ((1 ≤ ns.length ∧ ns.length ≤ 16) ∧ within ns (-100000) 100000 ∧ ps.length ≤ 20) ∧ ∀ (j : Nat) (x : Pi), ps[j]? = some x → piAt ns ps j x
noncomputable instance (ns : List Int) (ps : List Pi) : Decidable (netOk ns ps) := Classical.propDecidable _
theorem net_no {ns : List Int} {ps : List Pi} {i : Nat} {p : Pi} (h : ps[i]? = some p) (hn : ¬ piAt ns ps i p) : ¬ netOk ns ps := fun ⟨_, h2⟩ => hn (h2 i p h)
def idSz (ps : List Pi) : Prop := ∀ (j : Nat) (x : Pi), ps[j]? = some x → x.id.size ≤ 140737488351232
/-- Two nodes with pipes between them. -/
inductive Conn (es : List (Nat × Nat)) : Nat → Nat → Prop
  | rfl (u : Nat) : Conn es u u
  | step {u v w : Nat} : Conn es u v → ((v, w) ∈ es ∨ (w, v) ∈ es) → Conn es u w
theorem Conn.trans {es : List (Nat × Nat)} {u v w : Nat} (h : Conn es u v) (k : Conn es v w) : Conn es u w := by
  induction k with
  | rfl => exact h
  | step _ e ih => exact .step ih e
theorem Conn.symm {es : List (Nat × Nat)} {u v : Nat} (h : Conn es u v) : Conn es v u := by
  induction h with
  | rfl => exact .rfl _
  | step _ e ih => exact Conn.trans (.step (.rfl _) e.symm) ih
theorem Conn.mono {es fs : List (Nat × Nat)} (hs : ∀ e ∈ es, e ∈ fs) {u v : Nat} (h : Conn es u v) : Conn fs u v := by
  induction h with
  | rfl => exact .rfl _
  | step _ e ih => exact .step ih (e.imp (hs _) (hs _))
/-- A labelling, and one pipe more. -/
def mrg (L : Nat → Nat) (a b : Nat) : Nat → Nat := fun j => if L j = b then a else L j
def trS (L : Nat → Nat) (e : Nat × Nat) : Nat → Nat := if L e.1 = L e.2 then L else mrg L (L e.1) (L e.2)
def trL : List (Nat × Nat) → Nat → Nat
  | [] => id
  | e :: es => trS (trL es) e
/-- The pipes that join (the list is read from its end). -/
def trC : List (Nat × Nat) → Nat
  | [] => 0
  | e :: es => if trL es e.1 = trL es e.2 then trC es else trC es + 1
theorem tr_idem (es : List (Nat × Nat)) (j : Nat) : trL es (trL es j) = trL es j := by
  induction es generalizing j with
  | nil => rfl
  | cons e es ih =>
    show trS (trL es) e (trS (trL es) e j) = trS (trL es) e j
    unfold trS
    split
    · exact ih j
    · rename_i h
      unfold mrg
      by_cases h1 : trL es j = trL es e.2
      · simp only [h1, if_true]
        rw [ih e.1, if_neg h]
      · simp only [if_neg h1]
        rw [ih j, if_neg h1]
theorem tr_conn (es : List (Nat × Nat)) (u v : Nat) : trL es u = trL es v ↔ Conn es u v := by
  constructor
  · induction es generalizing u v with
    | nil => intro h; have : u = v := h; subst this; exact .rfl _
    | cons e es ih =>
      have up : ∀ {a b}, Conn es a b → Conn (e :: es) a b := fun h => h.mono (fun x hx => List.mem_cons_of_mem _ hx)
      have he : Conn (e :: es) e.1 e.2 := .step (.rfl _) (.inl List.mem_cons_self)
      intro h
      have h' : trS (trL es) e u = trS (trL es) e v := h
      unfold trS at h'
      split at h'
      · exact up (ih u v h')
      · unfold mrg at h'
        by_cases h1 : trL es u = trL es e.2
        · have c1 : Conn (e :: es) e.1 u := he.trans (up (ih _ _ h1.symm))
          by_cases h2 : trL es v = trL es e.2
          · exact c1.symm.trans (he.trans (up (ih _ _ h2.symm)))
          · rw [if_pos h1, if_neg h2] at h'
            exact c1.symm.trans (up (ih _ _ h'))
        · by_cases h2 : trL es v = trL es e.2
          · rw [if_neg h1, if_pos h2] at h'
            exact (up (ih _ _ h')).trans (he.trans (up (ih _ _ h2.symm)))
          · rw [if_neg h1, if_neg h2] at h'
            exact up (ih _ _ h')
  · intro h
    have edge : ∀ (es : List (Nat × Nat)) (e : Nat × Nat), e ∈ es → trL es e.1 = trL es e.2 := by
      intro es
      induction es with
      | nil => intro e he; cases he
      | cons x es ih =>
        intro e he
        show trS (trL es) x e.1 = trS (trL es) x e.2
        rcases List.mem_cons.1 he with rfl | he
        · unfold trS
          split
          · assumption
          · unfold mrg
            rename_i hn
            rw [if_neg hn, if_pos rfl]
        · have := ih e he
          unfold trS
          split
          · exact this
          · unfold mrg; rw [this]
    induction h with
    | rfl => rfl
    | step _ e ih =>
      rcases e with e | e
      · exact ih.trans (edge es _ e)
      · exact ih.trans (edge es _ e).symm
/-- Those that are their own label. -/
def reps (L : Nat → Nat) : Nat → Nat
  | 0 => 0
  | n + 1 => if L n = n then reps L n + 1 else reps L n
theorem reps_id (n : Nat) : reps id n = n := by
  induction n with
  | zero => rfl
  | succ n ih => unfold reps; rw [if_pos (show id n = n from rfl), ih]
theorem reps_same {L M : Nat → Nat} : ∀ n : Nat, (∀ j, j < n → (L j = j ↔ M j = j)) → reps L n = reps M n
  | 0, _ => rfl
  | n + 1, h => by
    have ih := reps_same n (fun j hj => h j (by omega))
    have hn := h n (by omega)
    unfold reps
    by_cases e : L n = n
    · rw [if_pos e, if_pos (hn.1 e), ih]
    · rw [if_neg e, if_neg (fun k => e (hn.2 k)), ih]
theorem reps_less {L M : Nat → Nat} {b : Nat} : ∀ n : Nat, b < n → L b = b → ¬ M b = b → (∀ j, j < n → j ≠ b → (L j = j ↔ M j = j)) → reps L n = reps M n + 1
  | 0, h, _, _, _ => by omega
  | n + 1, h, hb, hm, hj => by
    by_cases e : b = n
    · subst e
      have := reps_same (L := L) (M := M) b (fun j h => hj j (by omega) (by omega))
      unfold reps; rw [if_pos hb, if_neg hm, this]
    · have ih := reps_less n (by omega) hb hm (fun j h => hj j (by omega))
      have hn := hj n (by omega) (fun h => e h.symm)
      unfold reps
      by_cases k : L n = n
      · rw [if_pos k, if_pos (hn.1 k), ih]
      · rw [if_neg k, if_neg (fun q => k (hn.2 q)), ih]
theorem tr_lt {n : Nat} : ∀ (es : List (Nat × Nat)), (∀ e ∈ es, e.1 < n ∧ e.2 < n) → ∀ j, j < n → trL es j < n
  | [], _, j, hj => hj
  | e :: es, h, j, hj => by
    have ih := tr_lt es (fun x hx => h x (List.mem_cons_of_mem _ hx))
    have he := h e List.mem_cons_self
    show trS (trL es) e j < n
    unfold trS
    split
    · exact ih j hj
    · unfold mrg; split
      · exact ih _ he.1
      · exact ih j hj
theorem tr_reps {n : Nat} : ∀ (es : List (Nat × Nat)), (∀ e ∈ es, e.1 < n ∧ e.2 < n) → reps (trL es) n + trC es = n
  | [], _ => by show reps id n + 0 = n; rw [reps_id]; rfl
  | e :: es, h => by
    have ih := tr_reps es (fun x hx => h x (List.mem_cons_of_mem _ hx))
    have hlt := tr_lt es (fun x hx => h x (List.mem_cons_of_mem _ hx))
    have he := h e List.mem_cons_self
    by_cases c : trL es e.1 = trL es e.2
    · have e1 : trL (e :: es) = trL es := by show trS (trL es) e = _; unfold trS; rw [if_pos c]
      have e2 : trC (e :: es) = trC es := if_pos c
      rw [e1, e2]; exact ih
    · have e1 : trL (e :: es) = mrg (trL es) (trL es e.1) (trL es e.2) := by show trS (trL es) e = _; unfold trS; rw [if_neg c]
      have e2 : trC (e :: es) = trC es + 1 := if_neg c
      have hi := tr_idem es
      have := reps_less (L := trL es) (M := trL (e :: es)) (b := trL es e.2) n (hlt _ he.2) (hi _) (by
        rw [e1]; unfold mrg; rw [hi, if_pos rfl]; exact c) (fun j hj hb => by
        rw [e1]; unfold mrg
        by_cases k : trL es j = trL es e.2
        · rw [if_pos k]
          constructor
          · intro q; exact absurd (q.symm.trans k) hb
          · intro q
            have h9 := hi e.1
            rw [q] at h9
            exact absurd (h9.symm.trans k) hb
        · rw [if_neg k])
      omega
theorem reps_pos {L : Nat → Nat} {r : Nat} : ∀ n : Nat, r < n → L r = r → 1 ≤ reps L n
  | 0, h, _ => by omega
  | n + 1, h, hr => by
    unfold reps
    by_cases e : r = n
    · subst e; rw [if_pos hr]; omega
    · have := reps_pos n (by omega) hr
      split <;> omega
theorem reps_zero {L : Nat → Nat} : ∀ n : Nat, (∀ j, j < n → ¬ L j = j) → reps L n = 0
  | 0, _ => rfl
  | n + 1, h => by
    unfold reps
    rw [if_neg (h n (by omega))]
    exact reps_zero n (fun j hj => h j (by omega))
theorem reps_drop {L : Nat → Nat} {n r : Nat} (h : r < n) (hr : L r = r) : reps L n = reps (fun j => if j = r then r + 1 else L j) n + 1 :=
  reps_less n h hr (by simp) (fun j _ hj => by simp only [if_neg hj])
theorem reps_uniq {L : Nat → Nat} {n a b : Nat} (h1 : reps L n = 1) (ha : a < n) (hb : b < n) (h2 : L a = a) (h3 : L b = b) : a = b := by
  apply Classical.byContradiction
  intro hn
  have e := reps_drop ha h2
  have := reps_pos (L := fun j => if j = a then a + 1 else L j) (r := b) n hb (by show (if b = a then a + 1 else L b) = b; rw [if_neg (fun h => hn h.symm)]; exact h3)
  omega
theorem reps_one {L : Nat → Nat} {n r : Nat} (h : r < n) (hr : L r = r) (hu : ∀ j, j < n → L j = j → j = r) : reps L n = 1 := by
  have e := reps_drop h hr
  have := reps_zero (L := fun j => if j = r then r + 1 else L j) n (fun j hj hk => by
    by_cases c : j = r
    · simp only [if_pos c] at hk; omega
    · simp only [if_neg c] at hk; exact c (hu j hj hk))
  omega
/-- All nodes hang together exactly when as many pipes join as there are nodes but one. -/
theorem tree_conn {n s : Nat} {es : List (Nat × Nat)} (h : ∀ e ∈ es, e.1 < n ∧ e.2 < n) (hs : s < n) : trC es + 1 = n ↔ ∀ v, v < n → Conn es s v := by
  have hr := tr_reps es h
  have hl := tr_lt es h
  have hi := tr_idem es
  constructor
  · intro hc v hv
    refine (tr_conn es s v).1 ?_
    exact reps_uniq (L := trL es) (n := n) (by omega) (hl s hs) (hl v hv) (hi s) (hi v)
  · intro hc
    have := reps_one (L := trL es) (n := n) (r := trL es s) (hl s hs) (hi s) (fun j hj hk => by
      rw [← hk]; exact ((tr_conn es s j).2 (hc j hj)).symm)
    omega
/-- The search from a node: one pipe, all pipes, all nodes. -/
def nxt (e : Nat × Nat) (u : Nat) : Option Nat := if u = e.1 then some e.2 else if u = e.2 then some e.1 else none
def bfE (u : Nat) (ks : List Nat) (e : Nat × Nat) : List Nat := match nxt e u with
  | some v => if v ∈ ks then ks else ks ++ [v]
  | none => ks
def bfI (es : List (Nat × Nat)) (u : Nat) (ks : List Nat) : List Nat := es.foldl (bfE u) ks
def bfO (es : List (Nat × Nat)) : Nat → Nat → List Nat → List Nat
  | 0, _, ks => ks
  | f + 1, k, ks => match ks[k]? with
    | some u => bfO es f (k + 1) (bfI es u ks)
    | none => ks
theorem nxt_edge {e : Nat × Nat} {u v : Nat} (h : nxt e u = some v) : (u, v) = e ∨ (v, u) = e := by
  unfold nxt at h
  split at h
  · cases h; left; rename_i c; rw [c]
  · split at h
    · cases h; right; rename_i c; rw [c]
    · cases h
/-- What holds of the known nodes. -/
structure Inv (es : List (Nat × Nat)) (n s : Nat) (ks : List Nat) : Prop where
  nd : ks.Nodup
  lt : ∀ v ∈ ks, v < n
  cn : ∀ v ∈ ks, Conn es s v
  st : s ∈ ks
theorem bfE_pre {u : Nat} {ks : List Nat} {e : Nat × Nat} : ∃ t, bfE u ks e = ks ++ t := by
  unfold bfE
  split
  · split
    · exact ⟨[], by simp⟩
    · exact ⟨_, rfl⟩
  · exact ⟨[], by simp⟩
theorem bfI_pre {u : Nat} : ∀ (es : List (Nat × Nat)) (ks : List Nat), ∃ t, bfI es u ks = ks ++ t
  | [], ks => ⟨[], by simp [bfI]⟩
  | e :: es, ks => by
    obtain ⟨t, ht⟩ := bfE_pre (u := u) (ks := ks) (e := e)
    obtain ⟨r, hr⟩ := bfI_pre (u := u) es (ks ++ t)
    refine ⟨t ++ r, ?_⟩
    show bfI es u (bfE u ks e) = _
    rw [ht, hr, List.append_assoc]
theorem bfE_inv {es : List (Nat × Nat)} {n s u : Nat} {ks : List Nat} {e : Nat × Nat} (hr : e.1 < n ∧ e.2 < n) (he : e ∈ es) (hu : u ∈ ks) (h : Inv es n s ks) : Inv es n s (bfE u ks e) := by
  unfold bfE
  split
  · rename_i v hv
    split
    · exact h
    · rename_i hn
      have hc : Conn es s v := .step (h.cn u hu) (by
        rcases nxt_edge hv with c | c
        · left; rw [c]; exact he
        · right; rw [c]; exact he)
      have hlt : v < n := by
        rcases nxt_edge hv with c | c
        · rw [← c] at hr; exact hr.2
        · rw [← c] at hr; exact hr.1
      refine ⟨?_, fun w hw => ?_, fun w hw => ?_, List.mem_append_left _ h.st⟩
      · rw [List.nodup_append]
        refine ⟨h.nd, by simp, fun a ha b hb => ?_⟩
        simp at hb; subst hb
        intro k; subst k; exact hn ha
      · rcases List.mem_append.1 hw with c | c
        · exact h.lt w c
        · simp at c; subst c; exact hlt
      · rcases List.mem_append.1 hw with c | c
        · exact h.cn w c
        · simp at c; subst c; exact hc
  · exact h
theorem bfI_inv {es : List (Nat × Nat)} {n s u : Nat} (hr : ∀ e ∈ es, e.1 < n ∧ e.2 < n) : ∀ (fs : List (Nat × Nat)) (ks : List Nat), (∀ e ∈ fs, e ∈ es) → u ∈ ks → Inv es n s ks → Inv es n s (bfI fs u ks)
  | [], ks, _, _, h => h
  | e :: fs, ks, hf, hu, h => by
    obtain ⟨t, ht⟩ := bfE_pre (u := u) (ks := ks) (e := e)
    have he := hf e List.mem_cons_self
    exact bfI_inv hr fs (bfE u ks e) (fun x hx => hf x (List.mem_cons_of_mem _ hx)) (by rw [ht]; exact List.mem_append_left _ hu) (bfE_inv (hr e he) he hu h)
theorem bfI_closed {u : Nat} : ∀ (es : List (Nat × Nat)) (ks : List Nat) (e : Nat × Nat) (v : Nat), e ∈ es → nxt e u = some v → v ∈ bfI es u ks
  | x :: es, ks, e, v, he, hv => by
    show v ∈ bfI es u (bfE u ks x)
    rcases List.mem_cons.1 he with c | c
    · subst c
      obtain ⟨t, ht⟩ := bfI_pre (u := u) es (bfE u ks e)
      rw [ht]
      refine List.mem_append_left _ ?_
      unfold bfE
      rw [hv]
      simp only
      split
      · assumption
      · simp
    · exact bfI_closed es _ e v c hv
theorem len_le {n : Nat} : ∀ (ks : List Nat), ks.Nodup → (∀ v ∈ ks, v < n) → ks.length ≤ n := by
  induction n with
  | zero =>
    intro ks _ h
    cases ks with
    | nil => simp
    | cons v _ => exact absurd (h v List.mem_cons_self) (by omega)
  | succ n ih =>
    intro ks hd h
    have h1 := ih (ks.erase n) (hd.erase n) (fun v hv => by
      have := h v (List.mem_of_mem_erase hv)
      have : v ≠ n := fun c => by subst c; exact (List.Nodup.not_mem_erase hd) hv
      omega)
    have := List.length_erase (a := n) (l := ks)
    by_cases c : n ∈ ks
    · rw [if_pos (by simpa using c)] at this; omega
    · rw [if_neg (by simpa using c)] at this; omega
/-- What is behind has its neighbours known. -/
def Cl (es : List (Nat × Nat)) (k : Nat) (ks : List Nat) : Prop := ∀ (j u : Nat), j < k → ks[j]? = some u → ∀ e ∈ es, ∀ v, nxt e u = some v → v ∈ ks
theorem Cl.next {es : List (Nat × Nat)} {k u : Nat} {ks : List Nat} (h : Cl es k ks) (hu : ks[k]? = some u) : Cl es (k + 1) (bfI es u ks) := by
  intro j w hj hw e he v hv
  obtain ⟨t, ht⟩ := bfI_pre (u := u) es ks
  by_cases c : j = k
  · subst c
    have hl := (List.getElem?_eq_some_iff.1 hu).1
    rw [ht, List.getElem?_append_left hl, hu] at hw
    cases hw
    exact bfI_closed es ks e v he hv
  · have hl := (List.getElem?_eq_some_iff.1 hu).1
    rw [ht, List.getElem?_append_left (by omega)] at hw
    rw [ht]
    exact List.mem_append_left _ (h j w (by omega) hw e he v hv)
theorem bfO_spec {es : List (Nat × Nat)} {n s : Nat} (hr : ∀ e ∈ es, e.1 < n ∧ e.2 < n) : ∀ (f k : Nat) (ks : List Nat), Inv es n s ks → Cl es k ks → n ≤ k + f → Inv es n s (bfO es f k ks) ∧ (∀ u ∈ bfO es f k ks, ∀ e ∈ es, ∀ v, nxt e u = some v → v ∈ bfO es f k ks)
  | 0, k, ks, h, hc, hf => ⟨h, fun u hu e he v hv => by
      replace hu : u ∈ ks := hu
      show v ∈ ks
      obtain ⟨j, hj⟩ := List.getElem?_of_mem hu
      have hl := len_le ks h.nd h.lt
      exact hc j u (by have := (List.getElem?_eq_some_iff.1 hj).1; omega) hj e he v hv⟩
  | f + 1, k, ks, h, hc, hf => by
    unfold bfO
    cases hk : ks[k]? with
    | none =>
      refine ⟨h, fun u hu e he v hv => ?_⟩
      replace hu : u ∈ ks := hu
      show v ∈ ks
      obtain ⟨j, hj⟩ := List.getElem?_of_mem hu
      have : ks.length ≤ k := List.getElem?_eq_none_iff.1 hk
      exact hc j u (by have := (List.getElem?_eq_some_iff.1 hj).1; omega) hj e he v hv
    | some u =>
      exact bfO_spec hr f (k + 1) (bfI es u ks) (bfI_inv hr es ks (fun _ h => h) (List.mem_of_getElem? hk) h) (hc.next hk) (by omega)
/-- The nodes that the search finds. -/
def found (es : List (Nat × Nat)) (n s : Nat) : List Nat := bfO es n 0 [s]
theorem found_inv {es : List (Nat × Nat)} {n s : Nat} (hr : ∀ e ∈ es, e.1 < n ∧ e.2 < n) (hs : s < n) : Inv es n s (found es n s) ∧ (∀ v, v ∈ found es n s ↔ Conn es s v) := by
  have h := bfO_spec hr n 0 [s] ⟨by simp, fun v hv => by simp at hv; subst hv; exact hs, fun v hv => by simp at hv; subst hv; exact .rfl _, by simp⟩ (fun j u hj => by omega) (by omega)
  refine ⟨h.1, fun v => ⟨h.1.cn v, fun hc => ?_⟩⟩
  show v ∈ bfO es n 0 [s]
  induction hc with
  | rfl => exact h.1.st
  | @step u w _ e ih =>
    have ih := ih
    rcases e with e | e
    · refine h.2 u ih _ e w ?_
      unfold nxt; simp
    · refine h.2 u ih _ e w ?_
      unfold nxt
      by_cases c : u = w
      · subst c; simp
      · rw [if_neg c]; simp
theorem found_len {es : List (Nat × Nat)} {n s : Nat} (hr : ∀ e ∈ es, e.1 < n ∧ e.2 < n) (hs : s < n) : (found es n s).length = n ↔ ∀ v, v < n → Conn es s v := by
  have h := found_inv hr hs
  have hl := len_le (n := n) _ h.1.nd h.1.lt
  constructor
  · intro e v hv
    refine (h.2 v).1 ?_
    apply Classical.byContradiction
    intro hn
    have := len_le (n := n) (v :: found es n s) (List.nodup_cons.2 ⟨hn, h.1.nd⟩) (fun w hw => by
      rcases List.mem_cons.1 hw with c | c
      · subst c; exact hv
      · exact h.1.lt w c)
    simp at this; omega
  · intro hc
    have key : ∀ m : Nat, m ≤ n → ∀ ks : List Nat, ks.Nodup → (∀ v, v < m → v ∈ ks) → m ≤ ks.length := by
      intro m
      induction m with
      | zero => intro _ ks _ _; omega
      | succ m ih =>
        intro hm ks hd hk
        have hmem := hk m (by omega)
        have := ih (by omega) (ks.erase m) (hd.erase m) (fun v hv => (List.mem_erase_of_ne (by omega)).2 (hk v (by omega)))
        rw [List.length_erase_of_mem hmem] at this
        have := List.length_pos_of_mem hmem
        omega
    have := key n (Nat.le_refl _) _ h.1.nd (fun v hv => (h.2 v).2 (hc v hv))
    omega
/-- Both ways to tell a tree. -/
theorem tree_found {es : List (Nat × Nat)} {n s : Nat} (hr : ∀ e ∈ es, e.1 < n ∧ e.2 < n) (hs : s < n) : trC es + 1 = n ↔ (found es n s).length = n :=
  (tree_conn hr hs).trans (found_len hr hs).symm
/-- The search that keeps its ways: node, node before, pipe. -/
def wyE (u i : Nat) (st : List Nat × List (Nat × Nat × Nat)) (e : Nat × Nat) : List Nat × List (Nat × Nat × Nat) := match nxt e u with
  | some v => if v ∈ st.1 then st else (st.1 ++ [v], st.2 ++ [(v, u, i)])
  | none => st
def wyI (u : Nat) : List (Nat × Nat) → Nat → List Nat × List (Nat × Nat × Nat) → List Nat × List (Nat × Nat × Nat)
  | [], _, st => st
  | e :: es, i, st => wyI u es (i + 1) (wyE u i st e)
def wyO (es : List (Nat × Nat)) : Nat → Nat → List Nat × List (Nat × Nat × Nat) → List Nat × List (Nat × Nat × Nat)
  | 0, _, st => st
  | f + 1, k, st => match st.1[k]? with
    | some u => wyO es f (k + 1) (wyI u es 0 st)
    | none => st
theorem wyE_1 {u i : Nat} {st : List Nat × List (Nat × Nat × Nat)} {e : Nat × Nat} : (wyE u i st e).1 = bfE u st.1 e := by
  unfold wyE bfE
  split
  · split <;> rfl
  · rfl
theorem wyI_1 {u : Nat} : ∀ (es : List (Nat × Nat)) (i : Nat) (st : List Nat × List (Nat × Nat × Nat)), (wyI u es i st).1 = bfI es u st.1
  | [], _, _ => rfl
  | e :: es, i, st => by
    show (wyI u es (i + 1) (wyE u i st e)).1 = bfI es u (bfE u st.1 e)
    rw [wyI_1 es, wyE_1]
theorem wyO_1 {es : List (Nat × Nat)} : ∀ (f k : Nat) (st : List Nat × List (Nat × Nat × Nat)), (wyO es f k st).1 = bfO es f k st.1
  | 0, _, _ => rfl
  | f + 1, k, st => by
    unfold wyO bfO
    cases st.1[k]? with
    | none => rfl
    | some u =>
      show (wyO es f (k + 1) (wyI u es 0 st)).1 = bfO es f (k + 1) (bfI es u st.1)
      rw [wyO_1 f, wyI_1]
/-- What holds of the ways: the nodes are the source and theirs, each by a pipe from a known node. -/
structure WInv (es : List (Nat × Nat)) (s : Nat) (st : List Nat × List (Nat × Nat × Nat)) : Prop where
  hd : st.1 = s :: st.2.map fun w => w.1
  ed : ∀ w ∈ st.2, ∃ e, es[w.2.2]? = some e ∧ nxt e w.2.1 = some w.1 ∧ w.2.1 ∈ st.1
theorem wyE_inv {es : List (Nat × Nat)} {s u i : Nat} {st : List Nat × List (Nat × Nat × Nat)} {e : Nat × Nat} (he : es[i]? = some e) (hu : u ∈ st.1) (h : WInv es s st) : WInv es s (wyE u i st e) := by
  unfold wyE
  split
  · rename_i v hv
    split
    · exact h
    · refine ⟨?_, fun w hw => ?_⟩
      · show st.1 ++ [v] = s :: (st.2 ++ [(v, u, i)]).map _
        rw [List.map_append, ← List.cons_append, ← h.hd]; rfl
      · rcases List.mem_append.1 hw with c | c
        · obtain ⟨e, a, b, d⟩ := h.ed w c
          exact ⟨e, a, b, List.mem_append_left _ d⟩
        · simp at c; subst c
          exact ⟨e, he, hv, List.mem_append_left _ hu⟩
  · exact h
theorem wyI_inv {es : List (Nat × Nat)} {s u : Nat} : ∀ (fs : List (Nat × Nat)) (i : Nat) (st : List Nat × List (Nat × Nat × Nat)), (∀ j e, fs[j]? = some e → es[i + j]? = some e) → u ∈ st.1 → WInv es s st → WInv es s (wyI u fs i st)
  | [], _, _, _, _, h => h
  | e :: fs, i, st, hf, hu, h => by
    show WInv es s (wyI u fs (i + 1) (wyE u i st e))
    refine wyI_inv fs (i + 1) _ (fun j x hx => ?_) ?_ (wyE_inv (hf 0 e rfl) hu h)
    · have := hf (j + 1) x (by simpa using hx)
      rwa [show i + 1 + j = i + (j + 1) by omega]
    · rw [wyE_1]
      obtain ⟨t, ht⟩ := bfE_pre (u := u) (ks := st.1) (e := e)
      rw [ht]; exact List.mem_append_left _ hu
theorem wyO_inv {es : List (Nat × Nat)} {s : Nat} : ∀ (f k : Nat) (st : List Nat × List (Nat × Nat × Nat)), WInv es s st → WInv es s (wyO es f k st)
  | 0, _, _, h => h
  | f + 1, k, st, h => by
    unfold wyO
    cases hk : st.1[k]? with
    | none => exact h
    | some u => exact wyO_inv f (k + 1) _ (wyI_inv es 0 st (fun j e he => by rw [Nat.zero_add]; exact he) (List.mem_of_getElem? hk) h)
/-- The ways from a node. -/
def waysF (es : List (Nat × Nat)) (n s : Nat) : List Nat × List (Nat × Nat × Nat) := wyO es n 0 ([s], [])
theorem waysF_1 {es : List (Nat × Nat)} {n s : Nat} : (waysF es n s).1 = found es n s := wyO_1 n 0 ([s], [])
theorem waysF_inv {es : List (Nat × Nat)} {n s : Nat} : WInv es s (waysF es n s) := wyO_inv n 0 _ ⟨rfl, fun w hw => by cases hw⟩
def pe (p : Pi) : Nat × Nat := (p.fm.toNat, p.tt.toNat)
/-- The first pipes, the last one ahead. -/
def esL (ps : List Pi) (i : Nat) : List (Nat × Nat) := ((ps.take i).map pe).reverse
theorem esL_s {ps : List Pi} {i : Nat} {p : Pi} (h : ps[i]? = some p) : esL ps (i + 1) = pe p :: esL ps i := by
  unfold esL
  rw [List.take_add_one, h]; simp
theorem esL_lt {ns : List Int} {ps : List Pi} (h : netOk ns ps) (i : Nat) : ∀ e ∈ esL ps i, e.1 < ns.length ∧ e.2 < ns.length := fun e he => by
  unfold esL at he
  rw [List.mem_reverse, List.mem_map] at he
  obtain ⟨p, hp, rfl⟩ := he
  obtain ⟨j, hj⟩ := List.getElem?_of_mem (List.mem_of_mem_take hp)
  have := (h.2 j p hj).1
  have h1 := this.1.2.1
  have h2 := this.1.2.2.1
  unfold pe
  simp only
  omega
/-- The row of labels. -/
def lbR (L : Nat → Nat) (n : Nat) : List AV := (List.range n).map fun j => ci ((L j : Nat) : Int)
theorem lbR_len {L : Nat → Nat} {n : Nat} : (lbR L n).length = n := by simp [lbR]
theorem lbR_get {L : Nat → Nat} {n : Nat} {k : Int} (h0 : 0 ≤ k) (h : k < n) : (lbR L n)[k.toNat]? = some (ci ((L k.toNat : Nat) : Int)) := by
  unfold lbR
  rw [List.getElem?_map, List.getElem?_range (by omega)]; rfl
theorem lbR_s {n : Nat} : lbR id n ++ [ci (n : Int)] = lbR id (n + 1) := by
  unfold lbR
  rw [List.range_succ, List.map_append]; rfl
/-- Some labels changed. -/
def mgL (L : Nat → Nat) (a b j : Nat) : Nat → Nat := fun m => if m < j ∧ L m = b then a else L m
theorem mgL_0 {L : Nat → Nat} {a b : Nat} : mgL L a b 0 = L := by funext m; unfold mgL; rw [if_neg (by omega)]
theorem mgL_end {L : Nat → Nat} {a b n : Nat} : lbR (mgL L a b n) n = lbR (mrg L a b) n := by
  unfold lbR
  refine List.map_congr_left fun m hm => ?_
  have : m < n := by simpa using hm
  unfold mgL mrg
  by_cases h : L m = b
  · rw [if_pos ⟨this, h⟩, if_pos h]
  · rw [if_neg (fun k => h k.2), if_neg h]
theorem mgL_F {L : Nat → Nat} {a b j : Nat} (h : ¬ L j = b) : mgL L a b (j + 1) = mgL L a b j := by
  funext m
  unfold mgL
  by_cases c : m = j
  · subst c; rw [if_neg (fun k => h k.2), if_neg (fun k => h k.2)]
  · by_cases d : m < j ∧ L m = b
    · rw [if_pos d, if_pos ⟨by omega, d.2⟩]
    · rw [if_neg d, if_neg (fun k => d ⟨by omega, k.2⟩)]
theorem mgL_T {L : Nat → Nat} {a b j n : Nat} (hj : j < n) (h : L j = b) : (lbR (mgL L a b j) n).set j (ci ((a : Nat) : Int)) = lbR (mgL L a b (j + 1)) n := by
  refine List.ext_getElem? fun m => ?_
  unfold lbR
  rw [List.getElem?_set]
  by_cases c : j = m
  · subst c
    rw [if_pos rfl]
    simp only [List.length_map, List.length_range, hj, if_true, List.getElem?_map, List.getElem?_range hj, Option.map_some]
    unfold mgL
    rw [if_pos ⟨by omega, h⟩]
  · rw [if_neg c, List.getElem?_map, List.getElem?_map]
    by_cases hm : m < n
    · rw [List.getElem?_range hm]
      simp only [Option.map_some]
      unfold mgL
      by_cases d : m < j ∧ L m = b
      · rw [if_pos d, if_pos ⟨by omega, d.2⟩]
      · rw [if_neg d, if_neg (fun k => d ⟨by omega, k.2⟩)]
    · rw [List.getElem?_eq_none (by simp; omega)]; rfl
theorem mgL_at {L : Nat → Nat} {a b j : Nat} : mgL L a b j j = L j := if_neg (by omega)
theorem lbR_gm {L : Nat → Nat} {a b m n : Nat} (h : m < n) : (lbR (mgL L a b m) n)[m]? = some (ci ((L m : Nat) : Int)) := by
  have := lbR_get (L := mgL L a b m) (n := n) (k := (m : Int)) (by omega) (by omega)
  have e : ((m : Int)).toNat = m := rfl
  rw [e, mgL_at] at this; exact this
theorem trL_s {ps : List Pi} {i : Nat} {p : Pi} (h : ps[i]? = some p) {n : Nat} (hn : ¬ trL (esL ps i) p.fm.toNat = trL (esL ps i) p.tt.toNat) : lbR (mrg (trL (esL ps i)) (trL (esL ps i) p.fm.toNat) (trL (esL ps i) p.tt.toNat)) n = lbR (trL (esL ps (i + 1))) n ∧ trC (esL ps (i + 1)) = trC (esL ps i) + 1 := by
  rw [esL_s h]
  refine ⟨?_, if_neg hn⟩
  congr 1
  exact (if_neg hn).symm
theorem trL_e {ps : List Pi} {i : Nat} {p : Pi} (h : ps[i]? = some p) (hn : trL (esL ps i) p.fm.toNat = trL (esL ps i) p.tt.toNat) : trL (esL ps (i + 1)) = trL (esL ps i) ∧ trC (esL ps (i + 1)) = trC (esL ps i) := by
  rw [esL_s h]
  exact ⟨if_pos hn, if_pos hn⟩
/-- The pipes that join. -/
def trO (ps : List Pi) : Nat → List Int
  | 0 => []
  | i + 1 => match ps[i]? with
    | some p => if trL (esL ps i) p.fm.toNat = trL (esL ps i) p.tt.toNat then trO ps i else trO ps i ++ [(i : Int)]
    | none => trO ps i
theorem trO_T {ps : List Pi} {i : Nat} {p : Pi} (h : ps[i]? = some p) (hn : trL (esL ps i) p.fm.toNat = trL (esL ps i) p.tt.toNat) : trO ps (i + 1) = trO ps i := by
  show (match ps[i]? with | some p => if trL (esL ps i) p.fm.toNat = trL (esL ps i) p.tt.toNat then trO ps i else trO ps i ++ [(i : Int)] | none => trO ps i) = _
  rw [h]; exact if_pos hn
theorem trO_F {ps : List Pi} {i : Nat} {p : Pi} (h : ps[i]? = some p) (hn : ¬ trL (esL ps i) p.fm.toNat = trL (esL ps i) p.tt.toNat) : trO ps (i + 1) = trO ps i ++ [(i : Int)] := by
  show (match ps[i]? with | some p => if trL (esL ps i) p.fm.toNat = trL (esL ps i) p.tt.toNat then trO ps i else trO ps i ++ [(i : Int)] | none => trO ps i) = _
  rw [h]; exact if_neg hn
theorem trO_len {ps : List Pi} : ∀ i : Nat, i ≤ ps.length → (trO ps i).length = trC (esL ps i)
  | 0, _ => rfl
  | i + 1, hi => by
    have ih := trO_len (ps := ps) i (by omega)
    have hp : ps[i]? = some (ps[i]'(by omega)) := List.getElem?_eq_getElem (by omega)
    by_cases h : trL (esL ps i) (ps[i]'(by omega)).fm.toNat = trL (esL ps i) (ps[i]'(by omega)).tt.toNat
    · rw [trO_T hp h, (trL_e hp h).2, ih]
    · rw [trO_F hp h, (trL_s (n := 0) hp h).2, List.length_append, ih]; rfl
theorem trC_le {ps : List Pi} (i : Nat) : trC (esL ps i) ≤ i := by
  induction i with
  | zero => simp [esL, trC]
  | succ i ih =>
    by_cases h : i < ps.length
    · have hp : ps[i]? = some (ps[i]'h) := List.getElem?_eq_getElem h
      rw [esL_s hp]
      by_cases c : trL (esL ps i) (pe (ps[i]'h)).1 = trL (esL ps i) (pe (ps[i]'h)).2
      · have : trC (pe (ps[i]'h) :: esL ps i) = trC (esL ps i) := if_pos c
        omega
      · have : trC (pe (ps[i]'h) :: esL ps i) = trC (esL ps i) + 1 := if_neg c
        omega
    · have : esL ps (i + 1) = esL ps i := by unfold esL; rw [List.take_of_length_le (by omega), List.take_of_length_le (by omega)]
      rw [this]; omega
def wLt (K : Int → Int) (a b : Int) : Prop := K b < K a ∨ (K a = K b ∧ a < b)
def iot (n : Nat) : List Int := (List.range n).map fun j : Nat => (j : Int)
def restR (i n : Nat) : List Int := (List.range' i (n - i)).map fun j : Nat => (j : Int)
def insOk (K : Int → Int) (S : List Int) : Prop := S.Pairwise (wLt K) ∧ S.Perm (iot S.length)
def rowS (S : List Int) (n : Nat) : List Int := S ++ restR S.length n
def rowAB (A B : List Int) (n : Nat) : List Int := A ++ ((A.length + B.length : Nat) : Int) :: (B ++ restR (A.length + B.length + 1) n)
theorem iot_s {n : Nat} : iot (n + 1) = iot n ++ [(n : Int)] := by simp [iot, List.range_succ]
theorem iot_mem {n : Nat} {x : Int} (h : x ∈ iot n) : 0 ≤ x ∧ x < n := by
  obtain ⟨j, hj, rfl⟩ := List.mem_map.1 h
  have := List.mem_range.1 hj; omega
theorem iot_len {n : Nat} : (iot n).length = n := by simp [iot]
theorem restR_s {i n : Nat} (h : i < n) : restR i n = (i : Int) :: restR (i + 1) n := by
  unfold restR
  obtain ⟨k, hk⟩ : ∃ k, n - i = k + 1 := ⟨n - i - 1, by omega⟩
  rw [hk, List.range'_succ, List.map_cons, show n - (i + 1) = k by omega]
theorem restR_0 {n : Nat} : restR 0 n = iot n := by simp [restR, iot, List.range_eq_range']
theorem rowS_full {S : List Int} {n : Nat} (h : n ≤ S.length) : rowS S n = S := by unfold rowS restR; rw [show n - S.length = 0 by omega]; simp
theorem rowS_x0 {n : Nat} : iot n = rowS (if n = 0 then [] else [0]) n := by
  by_cases h : n = 0
  · subst h; rfl
  · rw [if_neg h, ← restR_0, restR_s (by omega)]; rfl
theorem rowS_AB {S : List Int} {n : Nat} (h : S.length < n) : rowS S n = rowAB S [] n := by
  unfold rowS rowAB; rw [restR_s h]; simp
theorem rowAB_S {A B : List Int} {n : Nat} : rowAB A B n = rowS (A ++ ((A.length + B.length : Nat) : Int) :: B) n := by
  unfold rowS rowAB
  rw [List.append_assoc, show (A ++ ((A.length + B.length : Nat) : Int) :: B).length = A.length + B.length + 1 by simp; omega]
  rfl
theorem rowAB_v {A B : List Int} {n : Nat} : (rowAB A B n)[A.length]? = some ((A.length + B.length : Nat) : Int) := by simp [rowAB]
theorem rowAB_a {A A' B : List Int} {a : Int} {n k : Nat} (h : A = A' ++ [a]) (hk : k = A'.length) : (rowAB A B n)[k]? = some a := by subst h hk; simp [rowAB]
theorem rowAB_sw {A A' B : List Int} {a : Int} {n k : Nat} (h : A = A' ++ [a]) (hk : k = A'.length) : (((rowAB A B n).map ci).set A.length (ci a)).set k (ci ((A.length + B.length : Nat) : Int)) = (rowAB A' (a :: B) n).map ci := by
  subst h hk
  rw [← List.map_set, ← List.map_set]
  congr 1
  have e : A'.length + (a :: B).length = (A' ++ [a]).length + B.length := by simp; omega
  unfold rowAB
  rw [e]
  simp [List.set_append]
theorem iot_ok0 {K : Int → Int} {n : Nat} : insOk K (if n = 0 then [] else [0]) := by
  by_cases h : n = 0
  · rw [if_pos h]; exact ⟨.nil, .refl _⟩
  · rw [if_neg h]; exact ⟨by simp, .refl _⟩
theorem last_ex : ∀ {A : List Int}, 0 < A.length → ∃ A' a, A = A' ++ [a] := fun {A} h => ⟨A.dropLast, A.getLast (by intro e; subst e; simp at h), (List.dropLast_concat_getLast _).symm⟩
theorem ins_mem {K : Int → Int} {S : List Int} {x : Int} (h : insOk K S) (hx : x ∈ S) : 0 ≤ x ∧ x < S.length := iot_mem (h.2.mem_iff.1 hx)
theorem ins_end {K : Int → Int} {A B : List Int} {i : Nat} (hi : A.length + B.length = i) (h : insOk K (A ++ B)) (hB : ∀ x ∈ B, K x < K i) (hA : A.length = 0 ∨ ∃ A' a, A = A' ++ [a] ∧ ¬ K a < K i) : insOk K (A ++ (i : Int) :: B) := by
  obtain ⟨hp, hq⟩ := h
  obtain ⟨p1, p2, p3⟩ := List.pairwise_append.1 hp
  have hlen : (A ++ B).length = i := by simp; exact hi
  have key : ∀ x ∈ A, K i ≤ K x := by
    rcases hA with h0 | ⟨A', a, rfl, ha⟩
    · intro x hx; rw [List.eq_nil_of_length_eq_zero h0] at hx; cases hx
    · intro x hx
      rcases List.mem_append.1 hx with h1 | h1
      · have := (List.pairwise_append.1 p1).2.2 x h1 a (by simp)
        unfold wLt at this; omega
      · simp at h1; subst h1; omega
  refine ⟨List.pairwise_append.2 ⟨p1, List.pairwise_cons.2 ⟨fun b hb => .inl (hB b hb), p2⟩, fun x hx y hy => ?_⟩, ?_⟩
  · rcases List.mem_cons.1 hy with e | e
    · subst e
      have h1 := key x hx
      have h2 := ins_mem (K := K) ⟨hp, hq⟩ (List.mem_append.2 (.inl hx))
      rw [hlen] at h2
      unfold wLt; omega
    · exact p3 x hx y e
  · rw [show (A ++ (i : Int) :: B).length = i + 1 by simp; omega, iot_s]
    rw [hlen] at hq
    exact (List.perm_middle.trans (List.Perm.cons _ hq)).trans (List.perm_append_singleton _ _).symm
theorem ins_uniq {K : Int → Int} {S T : List Int} (h : insOk K S) (h2 : insOk K T) (hl : S.length = T.length) : S = T :=
  List.Perm.eq_of_pairwise (le := wLt K) (fun a b _ _ h1 h2 => by unfold wLt at h1 h2; omega) h.1 h2.1 (h.2.trans (by rw [hl]; exact h2.2.symm))
def wLe (K : Int → Int) (a b : Int) : Bool := decide (K b < K a ∨ (K a = K b ∧ a ≤ b))
def wl (K : Int → Int) (n : Nat) : List Int := (iot n).mergeSort (wLe K)
theorem wl_len {K : Int → Int} {n : Nat} : (wl K n).length = n := by unfold wl; rw [List.length_mergeSort, iot_len]
theorem iot_nd {n : Nat} : (iot n).Pairwise (· ≠ ·) := by
  unfold iot
  rw [List.pairwise_map]
  exact (List.pairwise_lt_range (n := n)).imp (fun h => by omega)
theorem wl_ok {K : Int → Int} {n : Nat} : insOk K (wl K n) := by
  have hp : (wl K n).Perm (iot n) := List.mergeSort_perm _ _
  refine ⟨?_, by rw [wl_len]; exact hp⟩
  have h1 : (wl K n).Pairwise (fun a b => wLe K a b = true) := List.pairwise_mergeSort (fun a b c h1 h2 => by simp only [wLe, decide_eq_true_eq] at *; omega) (fun a b => by simp only [wLe, Bool.or_eq_true, decide_eq_true_eq]; omega) _
  have h2 : (wl K n).Pairwise (· ≠ ·) := (hp.pairwise_iff (fun h => Ne.symm h)).2 iot_nd
  exact (h1.and h2).imp (fun ⟨h, h3⟩ => by simp only [wLe, decide_eq_true_eq] at h; unfold wLt; omega)
theorem wl_eq {K : Int → Int} {S : List Int} {n : Nat} (h : insOk K S) (hl : S.length = n) : wl K n = S := ins_uniq wl_ok h (wl_len.trans hl.symm)
def toI (ks : List Nat) : List Int := ks.map (fun (v : Nat) => (v : Int))
theorem toI_len {ks : List Nat} : (toI ks).length = ks.length := by simp [toI]
theorem toI_get {ks : List Nat} {k u : Nat} (h : ks[k]? = some u) : ((toI ks).map ci)[((k : Nat) : Int).toNat]? = some (ci (u : Int)) := by
  have e : (((k : Nat) : Int)).toNat = k := rfl
  rw [e]; unfold toI
  rw [List.getElem?_map, List.getElem?_map, h]; rfl
theorem toI_mem {ks : List Nat} {x : Int} (h0 : 0 ≤ x) : x ∈ toI ks ↔ x.toNat ∈ ks := by
  unfold toI
  rw [List.mem_map]
  constructor
  · rintro ⟨v, hv, rfl⟩; simpa using hv
  · intro h; exact ⟨x.toNat, h, by omega⟩
theorem toI_app {ks : List Nat} {x : Int} (h0 : 0 ≤ x) : (toI ks).map ci ++ [ci x] = (toI (ks ++ [x.toNat])).map ci := by
  unfold toI
  rw [List.map_append, List.map_append]
  have : ((x.toNat : Nat) : Int) = x := by omega
  simp [this]
def oth (fm tt k : Int) : Int := if k = fm then tt else if k = tt then fm else 0
theorem oth_y {p : Pi} {u : Nat} (h1 : 0 ≤ p.fm) (h2 : 0 ≤ p.tt) (h : (u : Int) = p.fm ∨ (u : Int) = p.tt) : nxt (pe p) u = some (oth p.fm p.tt u).toNat ∧ 0 ≤ oth p.fm p.tt u := by
  unfold nxt pe oth
  by_cases c : (u : Int) = p.fm
  · rw [if_pos c, if_pos (show u = p.fm.toNat by omega)]; exact ⟨rfl, h2⟩
  · rw [if_neg c, if_neg (show ¬ u = p.fm.toNat by omega)]
    have d : (u : Int) = p.tt := by omega
    rw [if_pos d, if_pos (show u = p.tt.toNat by omega)]; exact ⟨rfl, h1⟩
theorem oth_n {p : Pi} {u : Nat} (h1 : 0 ≤ p.fm) (h2 : 0 ≤ p.tt) (h : ¬ ((u : Int) = p.fm ∨ (u : Int) = p.tt)) : nxt (pe p) u = none := by
  unfold nxt pe
  rw [if_neg (show ¬ u = p.fm.toNat by omega), if_neg (show ¬ u = p.tt.toNat by omega)]
theorem bfE_F {e : Nat × Nat} {u : Nat} {v : List Nat} (h : nxt e u = none) : bfE u v e = v := by unfold bfE; rw [h]
theorem bfE_M {e : Nat × Nat} {u x : Nat} {v : List Nat} (h : nxt e u = some x) (hm : x ∈ v) : bfE u v e = v := by unfold bfE; rw [h]; exact if_pos hm
theorem bfE_T {e : Nat × Nat} {u x : Nat} {v : List Nat} (h : nxt e u = some x) (hm : ¬ x ∈ v) : bfE u v e = v ++ [x] := by unfold bfE; rw [h]; exact if_neg hm
theorem bfI_d {ps : List Pi} {i u : Nat} {p : Pi} {v : List Nat} (h : ps[i]? = some p) : bfI ((ps.map pe).drop i) u v = bfI ((ps.map pe).drop (i + 1)) u (bfE u v (pe p)) := by
  have hl := (List.getElem?_eq_some_iff.1 h).1
  have hg : (ps.map pe)[i]'(by simpa using hl) = pe p := by
    have := (List.getElem?_eq_some_iff.1 h).2
    simp [this]
  rw [List.drop_eq_getElem_cons (by simpa using hl), hg]; rfl
theorem bfI_end {ps : List Pi} {i u : Nat} {v : List Nat} (h : ps.length ≤ i) : bfI ((ps.map pe).drop i) u v = v := by
  rw [List.drop_of_length_le (by simpa using h)]; rfl
theorem bfO_s {es : List (Nat × Nat)} {n k u : Nat} {w : List Nat} (h : w[k]? = some u) (hk : k < n) : bfO es (n - k) k w = bfO es (n - (k + 1)) (k + 1) (bfI es u w) := by
  have e : n - k = (n - (k + 1)) + 1 := by omega
  rw [e]
  show (match w[k]? with | some u => _ | none => _) = _
  rw [h]
theorem bfO_e {es : List (Nat × Nat)} {k f : Nat} {w : List Nat} (h : w.length ≤ k) : bfO es f k w = w := by
  cases f with
  | zero => rfl
  | succ f =>
    show (match w[k]? with | some u => _ | none => _) = _
    rw [List.getElem?_eq_none h]
theorem esF_lt {ns : List Int} {ps : List Pi} (h : netOk ns ps) : ∀ e ∈ ps.map pe, e.1 < ns.length ∧ e.2 < ns.length := fun e he => by
  obtain ⟨p, hp, rfl⟩ := List.mem_map.1 he
  obtain ⟨j, hj⟩ := List.getElem?_of_mem hp
  have := (h.2 j p hj).1
  have h1 := this.1.2.1
  have h2 := this.1.2.2.1
  unfold pe
  simp only
  omega
theorem has_iff {x : Int} {xs : List Int} : 0 ≤ fiM (fun y => decide (x = y)) xs ↔ x ∈ xs := fi_any.trans ⟨fun ⟨y, h, e⟩ => by rw [e]; exact h, fun h => ⟨x, h, rfl⟩⟩
def treeP (ns : List Int) (ps : List Pi) : Prop := ps.length + 1 = ns.length ∧ ∀ v, v < ns.length → Conn (ps.map pe) 0 v
noncomputable instance (ns : List Int) (ps : List Pi) : Decidable (treeP ns ps) := Classical.propDecidable _
theorem esL_conn {ps : List Pi} {n : Nat} : (∀ v, v < n → Conn (esL ps ps.length) 0 v) ↔ ∀ v, v < n → Conn (ps.map pe) 0 v := by
  have hm : ∀ e, e ∈ esL ps ps.length ↔ e ∈ ps.map pe := fun e => by unfold esL; rw [List.take_length, List.mem_reverse]
  exact ⟨fun h v hv => (h v hv).mono fun e he => (hm e).1 he, fun h v hv => (h v hv).mono fun e he => (hm e).2 he⟩
def flP (ps : List Pi) (fl : List Int) : Prop := fl.length = ps.length ∧ within fl (-100000) 100000
noncomputable instance (ps : List Pi) (fl : List Int) : Decidable (flP ps fl) := Classical.propDecidable _
noncomputable def fcC (ns : List Int) (ps : List Pi) (s : Int) (fl : List Int) : Int := if netOk ns ps then (if 0 ≤ s ∧ s < ns.length then (if flP ps fl then (if treeP ns ps then 0 else 6) else 7) else 2) else 1
theorem ask_y {ns : List Int} {ps : List Pi} {s n : Int} {fl : List Int} (h : n = if netOk ns ps then (if 0 ≤ s ∧ s < ns.length then 0 else 2) else 1) : (n = 0 → netOk ns ps ∧ (0 ≤ s ∧ s < ns.length)) ∧ (¬ n = 0 → fcC ns ps s fl = n) := by
  by_cases a : netOk ns ps
  · by_cases b : 0 ≤ s ∧ s < ns.length
    · rw [if_pos a, if_pos b] at h; exact ⟨fun _ => ⟨a, b⟩, fun k => absurd h k⟩
    · rw [if_pos a, if_neg b] at h; subst h; exact ⟨fun k => by omega, fun _ => by unfold fcC; rw [if_pos a, if_neg b]⟩
  · rw [if_neg a] at h; subst h; exact ⟨fun k => by omega, fun _ => by unfold fcC; rw [if_neg a]⟩
def wyA (w : Nat × Nat × Nat) : AV := .agg [.s (.int .i64 (w.1 : Int)), .s (.int .i64 (w.2.1 : Int)), .s (.int .i64 (w.2.2 : Int))]
theorem wyE_F {e : Nat × Nat} {u i : Nat} {y : List Nat × List (Nat × Nat × Nat)} (h : nxt e u = none) : wyE u i y e = y := by unfold wyE; rw [h]
theorem wyE_M {e : Nat × Nat} {u i x : Nat} {y : List Nat × List (Nat × Nat × Nat)} (h : nxt e u = some x) (hm : x ∈ y.1) : wyE u i y e = y := by unfold wyE; rw [h]; exact if_pos hm
theorem wyE_T {e : Nat × Nat} {u i x : Nat} {y : List Nat × List (Nat × Nat × Nat)} (h : nxt e u = some x) (hm : ¬ x ∈ y.1) : wyE u i y e = (y.1 ++ [x], y.2 ++ [(x, u, i)]) := by unfold wyE; rw [h]; exact if_neg hm
theorem wyI_d {ps : List Pi} {i u : Nat} {p : Pi} {y : List Nat × List (Nat × Nat × Nat)} (h : ps[i]? = some p) : wyI u ((ps.map pe).drop i) i y = wyI u ((ps.map pe).drop (i + 1)) (i + 1) (wyE u i y (pe p)) := by
  have hl := (List.getElem?_eq_some_iff.1 h).1
  have hg : (ps.map pe)[i]'(by simpa using hl) = pe p := by
    have := (List.getElem?_eq_some_iff.1 h).2
    simp [this]
  rw [List.drop_eq_getElem_cons (by simpa using hl), hg]; rfl
theorem wyI_end {ps : List Pi} {i u : Nat} {y : List Nat × List (Nat × Nat × Nat)} (h : ps.length ≤ i) : wyI u ((ps.map pe).drop i) i y = y := by
  rw [List.drop_of_length_le (by simpa using h)]; rfl
theorem wyO_s {es : List (Nat × Nat)} {n k u : Nat} {y : List Nat × List (Nat × Nat × Nat)} (h : y.1[k]? = some u) (hk : k < n) : wyO es (n - k) k y = wyO es (n - (k + 1)) (k + 1) (wyI u es 0 y) := by
  have e : n - k = (n - (k + 1)) + 1 := by omega
  rw [e]
  show (match y.1[k]? with | some u => _ | none => _) = _
  rw [h]
theorem wyO_e {es : List (Nat × Nat)} {k f : Nat} {y : List Nat × List (Nat × Nat × Nat)} (h : y.1.length ≤ k) : wyO es f k y = y := by
  cases f with
  | zero => rfl
  | succ f =>
    show (match y.1[k]? with | some u => _ | none => _) = _
    rw [List.getElem?_eq_none h]
theorem wyA_app {ws : List (Nat × Nat × Nat)} {a : Int} {u i : Nat} (h : 0 ≤ a) : ws.map wyA ++ [.agg [.s (.int .i64 a), .s (.int .i64 (u : Int)), .s (.int .i64 (i : Int))]] = (ws ++ [(a.toNat, u, i)]).map wyA := by
  have : ((a.toNat : Nat) : Int) = a := by omega
  simp [wyA, this]
theorem wk_get {ks : List Nat} {k u : Nat} {x : AV} (h : ks[k]? = some u) : ((toI ks).map ci ++ [x])[((k : Nat) : Int).toNat]? = some (ci (u : Int)) := by
  have e : (((k : Nat) : Int)).toNat = k := rfl
  have hg := toI_get h
  rw [e] at hg ⊢
  rw [List.getElem?_append_left (List.getElem?_eq_some_iff.1 hg).1]; exact hg
/-- Found by its node. -/
def wfd (ws : List (Nat × Nat × Nat)) (j : Nat) : Option (Nat × Nat × Nat) := ws.find? (fun w => w.1 == j)
theorem wfd_ne {ws : List (Nat × Nat × Nat)} {w : Nat × Nat × Nat} {j : Nat} (h : ¬ w.1 = j) : wfd (ws ++ [w]) j = wfd ws j := by
  unfold wfd
  rw [List.find?_append, List.find?_cons_of_neg (by simpa using h)]; simp
theorem wfd_no {ws : List (Nat × Nat × Nat)} {j : Nat} (h : ¬ j ∈ ws.map fun w => w.1) : wfd ws j = none := by
  unfold wfd
  rw [List.find?_eq_none]
  intro x hx
  simp only [beq_iff_eq]
  intro e
  exact h (e ▸ List.mem_map_of_mem hx)
theorem wfd_eq {ws : List (Nat × Nat × Nat)} {w : Nat × Nat × Nat} (h : ¬ w.1 ∈ ws.map fun w => w.1) : wfd (ws ++ [w]) w.1 = some w := by
  have := wfd_no h
  unfold wfd at this ⊢
  rw [List.find?_append, this]; simp
theorem wfd_get {w : Nat × Nat × Nat} : ∀ {ws : List (Nat × Nat × Nat)} (_ : (ws.map fun w => w.1).Nodup) (_ : w ∈ ws), wfd ws w.1 = some w
  | x :: ws, hn, hm => by
    rw [List.map_cons, List.nodup_cons] at hn
    unfold wfd
    by_cases c : x.1 = w.1
    · rw [List.find?_cons_of_pos (by simpa using c)]
      rcases List.mem_cons.1 hm with k | k
      · rw [k]
      · exact absurd (c ▸ List.mem_map_of_mem k) hn.1
    · rw [List.find?_cons_of_neg (by simpa using c)]
      rcases List.mem_cons.1 hm with k | k
      · rw [k] at c; exact absurd rfl c
      · exact wfd_get hn.2 k
/-- The number that the specification keeps for a way. -/
def sgW (es : List (Nat × Nat)) (w : Nat × Nat × Nat) : Int := match es[w.2.2]? with
  | some e => if w.2.1 = e.1 then (w.2.2 : Int) + 1 else -((w.2.2 : Int) + 1)
  | none => 0
def byW (es : List (Nat × Nat)) (ws : List (Nat × Nat × Nat)) (j : Nat) : Int := match wfd ws j with
  | some w => sgW es w
  | none => 0
/-- More of the ways: each from a node that was known, no pipe twice. -/
structure WIn2 (es : List (Nat × Nat)) (s : Nat) (st : List Nat × List (Nat × Nat × Nat)) : Prop extends WInv es s st where
  bf : ∀ m w, st.2[m]? = some w → w.2.1 ∈ s :: (st.2.take m).map fun w => w.1
  pn : (st.2.map fun w => w.2.2).Nodup
theorem wyE_in2 {es : List (Nat × Nat)} {s u i : Nat} {st : List Nat × List (Nat × Nat × Nat)} {e : Nat × Nat} (he : es[i]? = some e) (hu : u ∈ st.1) (h : WIn2 es s st) : WIn2 es s (wyE u i st e) := by
  refine ⟨wyE_inv he hu h.toWInv, ?_, ?_⟩
  · unfold wyE
    split
    · rename_i v hv
      split
      · exact h.bf
      · intro m w hw
        by_cases c : m < st.2.length
        · rw [show (st.1 ++ [v], st.2 ++ [(v, u, i)]).2 = st.2 ++ [(v, u, i)] from rfl] at hw ⊢
          rw [List.getElem?_append_left c] at hw
          rw [List.take_append_of_le_length (by omega)]
          exact h.bf m w hw
        · have hl := (List.getElem?_eq_some_iff.1 hw).1
          simp only [List.length_append, List.length_cons, List.length_nil] at hl
          have : m = st.2.length := by omega
          subst this
          simp only [List.getElem?_append_right (Nat.le_refl _), Nat.sub_self, List.getElem?_cons_zero, Option.some.injEq] at hw
          subst hw
          simp only [List.take_append_of_le_length (Nat.le_refl _), List.take_length]
          rw [← h.hd]; exact hu
    · exact h.bf
  · unfold wyE
    split
    · rename_i v hv
      split
      · exact h.pn
      · rename_i hn
        show ((st.2 ++ [(v, u, i)]).map fun w => w.2.2).Nodup
        rw [List.map_append, List.nodup_append]
        refine ⟨h.pn, by simp, fun a ha b hb => ?_⟩
        simp at hb; subst hb
        intro k; subst k
        obtain ⟨w, hw, hwi⟩ := List.mem_map.1 ha
        obtain ⟨f, hf, hx, hb⟩ := h.ed w hw
        have hwi : w.2.2 = a := hwi
        rw [hwi, he] at hf
        cases hf
        have h1 : w.1 ∈ st.1 := by rw [h.hd]; exact List.mem_cons_of_mem _ (List.mem_map_of_mem hw)
        apply hn
        rcases nxt_edge hv with c | c <;> rcases nxt_edge hx with d | d <;> rw [← c] at d <;> cases d <;> assumption
    · exact h.pn
theorem wyI_in2 {es : List (Nat × Nat)} {s u : Nat} : ∀ (fs : List (Nat × Nat)) (i : Nat) (st : List Nat × List (Nat × Nat × Nat)), (∀ j e, fs[j]? = some e → es[i + j]? = some e) → u ∈ st.1 → WIn2 es s st → WIn2 es s (wyI u fs i st)
  | [], _, _, _, _, h => h
  | e :: fs, i, st, hf, hu, h => by
    show WIn2 es s (wyI u fs (i + 1) (wyE u i st e))
    refine wyI_in2 fs (i + 1) _ (fun j x hx => ?_) ?_ (wyE_in2 (hf 0 e rfl) hu h)
    · have := hf (j + 1) x (by simpa using hx)
      rwa [show i + 1 + j = i + (j + 1) by omega]
    · rw [wyE_1]
      obtain ⟨t, ht⟩ := bfE_pre (u := u) (ks := st.1) (e := e)
      rw [ht]; exact List.mem_append_left _ hu
theorem wyO_in2 {es : List (Nat × Nat)} {s : Nat} : ∀ (f k : Nat) (st : List Nat × List (Nat × Nat × Nat)), WIn2 es s st → WIn2 es s (wyO es f k st)
  | 0, _, _, h => h
  | f + 1, k, st, h => by
    unfold wyO
    cases hk : st.1[k]? with
    | none => exact h
    | some u => exact wyO_in2 f (k + 1) _ (wyI_in2 es 0 st (fun j e he => by rw [Nat.zero_add]; exact he) (List.mem_of_getElem? hk) h)
theorem waysF_in2 {es : List (Nat × Nat)} {n s : Nat} : WIn2 es s (waysF es n s) := wyO_in2 n 0 _ { hd := rfl, ed := fun w hw => (by cases hw), bf := fun m w hw => (by cases hw), pn := (by simp) }
/-- A list without doubles of n numbers below n has all of them. -/
theorem all_of_len {n : Nat} {ks : List Nat} (hd : ks.Nodup) (hl : ∀ v ∈ ks, v < n) (hn : n ≤ ks.length) {v : Nat} (hv : v < n) : v ∈ ks := by
  apply Classical.byContradiction
  intro h
  have := len_le (n := n) (v :: ks) (List.nodup_cons.2 ⟨h, hd⟩) (fun w hw => by
    rcases List.mem_cons.1 hw with c | c
    · subst c; exact hv
    · exact hl w c)
  simp at this; omega
/-- Of a way: its nodes and its pipe are there. -/
theorem ways_lt {es : List (Nat × Nat)} {n s : Nat} (hr : ∀ e ∈ es, e.1 < n ∧ e.2 < n) (hs : s < n) {w : Nat × Nat × Nat} (hw : w ∈ (waysF es n s).2) : w.1 < n ∧ w.2.1 < n ∧ ¬ w.1 = w.2.1 ∧ w.2.2 < es.length ∧ ¬ w.1 = s ∧ ∃ e, es[w.2.2]? = some e ∧ nxt e w.2.1 = some w.1 := by
  have hi := waysF_in2 (es := es) (n := n) (s := s)
  have hf := (found_inv hr hs).1
  obtain ⟨e, he, hx, hb⟩ := hi.ed w hw
  rw [waysF_1] at hb
  have h1 : w.1 ∈ found es n s := by rw [← waysF_1, hi.hd]; exact List.mem_cons_of_mem _ (List.mem_map_of_mem hw)
  have hnd := hf.nd
  rw [← waysF_1, hi.hd, List.nodup_cons] at hnd
  refine ⟨hf.lt _ h1, hf.lt _ hb, ?_, (List.getElem?_eq_some_iff.1 he).1, fun c => ?_, e, he, hx⟩
  · obtain ⟨m, hm⟩ := List.getElem?_of_mem hw
    have hbf := hi.bf m w hm
    intro c
    rw [← c] at hbf
    rcases List.mem_cons.1 hbf with k | k
    · exact hnd.1 (List.mem_map.2 ⟨w, hw, k⟩)
    · have hml := (List.getElem?_eq_some_iff.1 hm).1
      have hsp : ((waysF es n s).2.take m).map (fun w => w.1) ++ w.1 :: ((waysF es n s).2.drop (m + 1)).map (fun w => w.1) = (waysF es n s).2.map fun w => w.1 := by
        conv => rhs; rw [← List.take_append_drop m (waysF es n s).2, List.map_append]
        congr 1
        rw [List.drop_eq_getElem_cons hml, (List.getElem?_eq_some_iff.1 hm).2]; rfl
      have := hnd.2
      rw [← hsp, List.nodup_append] at this
      exact this.2.2 w.1 k w.1 List.mem_cons_self rfl
  · exact hnd.1 (List.mem_map.2 ⟨w, hw, c⟩)
theorem ways_nd {es : List (Nat × Nat)} {n s : Nat} (hr : ∀ e ∈ es, e.1 < n ∧ e.2 < n) (hs : s < n) : ((waysF es n s).2.map fun w => w.1).Nodup := by
  have hf := (found_inv hr hs).1.nd
  rw [← waysF_1, (waysF_in2 (es := es) (n := n) (s := s)).hd, List.nodup_cons] at hf
  exact hf.2
theorem ways_len {es : List (Nat × Nat)} {n s : Nat} : (waysF es n s).2.length + 1 = (found es n s).length := by
  rw [← waysF_1, (waysF_in2 (es := es) (n := n) (s := s)).hd]; simp
/-- In a tree each pipe is the last one of a way. -/
theorem ways_all {es : List (Nat × Nat)} {n s : Nat} (hr : ∀ e ∈ es, e.1 < n ∧ e.2 < n) (hs : s < n) (hc : ∀ v, v < n → Conn es s v) (hl : es.length + 1 = n) {i : Nat} (hi : i < es.length) : ∃ w ∈ (waysF es n s).2, w.2.2 = i := by
  have h2 := (found_len hr hs).2 hc
  have h3 := ways_len (es := es) (n := n) (s := s)
  have := all_of_len (n := es.length) (waysF_in2 (es := es) (n := n) (s := s)).pn (fun v hv => by
    obtain ⟨w, hw, rfl⟩ := List.mem_map.1 hv
    exact (ways_lt hr hs hw).2.2.2.1) (by rw [List.length_map]; omega) hi
  obtain ⟨w, hw, e⟩ := List.mem_map.1 this
  exact ⟨w, hw, e⟩
/-- A row that is filled along the ways. -/
def wyT (f : Nat × Nat × Nat → Int → Int) (ws : List (Nat × Nat × Nat)) (t : List Int) : List Int := ws.foldl (fun t w => t.set w.1 (f w (t.getD w.2.1 0))) t
theorem wyT_s {f : Nat × Nat × Nat → Int → Int} {ws : List (Nat × Nat × Nat)} {m : Nat} {w : Nat × Nat × Nat} {t : List Int} (h : ws[m]? = some w) : wyT f (ws.take (m + 1)) t = (wyT f (ws.take m) t).set w.1 (f w ((wyT f (ws.take m) t).getD w.2.1 0)) := by
  unfold wyT
  rw [List.take_add_one, h, List.foldl_append]; rfl
theorem wyT_len {f : Nat × Nat × Nat → Int → Int} : ∀ (ws : List (Nat × Nat × Nat)) (t : List Int), (wyT f ws t).length = t.length
  | [], _ => rfl
  | w :: ws, t => by
    show (wyT f ws _).length = _
    rw [wyT_len ws]; simp
theorem wyT_all {f : Nat × Nat × Nat → Int → Int} {Q : Int → Prop} (h0 : Q 0) : ∀ (ws : List (Nat × Nat × Nat)) (t : List Int), (∀ w ∈ ws, ∀ a, Q a → Q (f w a)) → (∀ x ∈ t, Q x) → ∀ x ∈ wyT f ws t, Q x
  | [], _, _, ht => ht
  | w :: ws, t, hf, ht => by
    refine wyT_all h0 ws _ (fun x hx => hf x (List.mem_cons_of_mem _ hx)) ?_
    intro x hx
    rcases List.mem_or_eq_of_mem_set hx with c | c
    · exact ht x c
    · rw [c]
      refine hf w List.mem_cons_self _ ?_
      unfold List.getD
      cases hg : t[w.2.1]? with
      | none => exact h0
      | some a => exact ht a (List.mem_of_getElem? hg)
/-- A sum over a list. -/
def su {α : Type} (f : α → Int) : List α → Int
  | [] => 0
  | x :: l => f x + su f l
theorem su_perm {α : Type} {f : α → Int} {l m : List α} (h : l.Perm m) : su f l = su f m := by
  induction h with
  | nil => rfl
  | cons x _ ih => show f x + _ = f x + _; rw [ih]
  | swap x y l => show f y + (f x + su f l) = f x + (f y + su f l); omega
  | trans _ _ h1 h2 => exact h1.trans h2
theorem su_app {α : Type} {f : α → Int} : ∀ (l m : List α), su f (l ++ m) = su f l + su f m
  | [], m => by show _ = 0 + _; rw [Int.zero_add]; rfl
  | x :: l, m => by show f x + su f (l ++ m) = f x + su f l + su f m; rw [su_app l m]; omega
theorem su_map {α β : Type} {f : β → Int} {g : α → β} : ∀ (l : List α), su f (l.map g) = su (fun x => f (g x)) l
  | [] => rfl
  | x :: l => by show f (g x) + su f (l.map g) = f (g x) + _; rw [su_map l]
theorem su_cong {α : Type} {f g : α → Int} : ∀ (l : List α), (∀ x ∈ l, f x = g x) → su f l = su g l
  | [], _ => rfl
  | x :: l, h => by show f x + su f l = g x + su g l; rw [h x List.mem_cons_self, su_cong l (fun y hy => h y (List.mem_cons_of_mem _ hy))]
theorem su_add {α : Type} {f g : α → Int} : ∀ (l : List α), su (fun x => f x + g x) l = su f l + su g l
  | [] => rfl
  | x :: l => by show f x + g x + su _ l = f x + su f l + (g x + su g l); rw [su_add l]; omega
theorem su_neg {α : Type} {f : α → Int} : ∀ (l : List α), su (fun x => -(f x)) l = -(su f l)
  | [] => rfl
  | x :: l => by show -(f x) + su _ l = -(f x + su f l); rw [su_neg l]; omega
theorem su_0 {α : Type} {f : α → Int} : ∀ (l : List α), (∀ x ∈ l, f x = 0) → su f l = 0
  | [], _ => rfl
  | x :: l, h => by show f x + su f l = 0; rw [h x List.mem_cons_self, su_0 l (fun y hy => h y (List.mem_cons_of_mem _ hy))]; rfl
theorem su_nn {α : Type} {f : α → Int} : ∀ (l : List α), (∀ x ∈ l, 0 ≤ f x) → 0 ≤ su f l
  | [], _ => Int.le_refl _
  | x :: l, h => by
    have h1 := h x List.mem_cons_self
    have h2 := su_nn l (fun y hy => h y (List.mem_cons_of_mem _ hy))
    show 0 ≤ f x + su f l; omega
theorem su_le {α : Type} {f : α → Int} {b : Int} : ∀ (l : List α), (∀ x ∈ l, f x ≤ b) → su f l ≤ b * l.length
  | [], _ => by simp [su]
  | x :: l, h => by
    have h1 := h x List.mem_cons_self
    have h2 := su_le (b := b) l (fun y hy => h y (List.mem_cons_of_mem _ hy))
    show f x + su f l ≤ b * ((l.length + 1 : Nat) : Int)
    have e : b * ((l.length + 1 : Nat) : Int) = b * (l.length : Int) + b := by rw [Int.natCast_add, Int.mul_add]; simp
    omega
theorem su_mem {α : Type} {f : α → Int} {x : α} : ∀ (l : List α), (∀ y ∈ l, 0 ≤ f y) → x ∈ l → f x ≤ su f l
  | y :: l, h, hx => by
    have h1 := h y List.mem_cons_self
    have h2 := su_nn l (fun z hz => h z (List.mem_cons_of_mem _ hz))
    show f x ≤ f y + su f l
    rcases List.mem_cons.1 hx with c | c
    · rw [c]; omega
    · have := su_mem l (fun z hz => h z (List.mem_cons_of_mem _ hz)) c
      omega
/-- One place of a list without doubles counts more. -/
theorem su_upd {α : Type} {f g : α → Int} {a : α} {k : Int} : ∀ (l : List α), l.Nodup → a ∈ l → g a = f a + k → (∀ x, ¬ x = a → g x = f x) → su g l = su f l + k
  | y :: l, hn, ha, h1, h2 => by
    rw [List.nodup_cons] at hn
    show g y + su g l = f y + su f l + k
    rcases List.mem_cons.1 ha with c | c
    · subst c
      rw [h1, su_cong (f := g) (g := f) l (fun x hx => h2 x (fun e => hn.1 (e ▸ hx)))]; omega
    · rw [h2 y (fun e => hn.1 (e ▸ c)), su_upd l hn.2 c h1 h2]; omega
/-- The sums of demands: from the last way to the first one. -/
def smB (ws : List (Nat × Nat × Nat)) (d : List Int) : List Int := ws.foldr (fun w t => t.set w.2.1 (t.getD w.2.1 0 + t.getD w.1 0)) d
theorem smB_s {ws : List (Nat × Nat × Nat)} {m : Nat} {w : Nat × Nat × Nat} {d : List Int} (h : ws[m]? = some w) : smB (ws.drop m) d = (smB (ws.drop (m + 1)) d).set w.2.1 ((smB (ws.drop (m + 1)) d).getD w.2.1 0 + (smB (ws.drop (m + 1)) d).getD w.1 0) := by
  obtain ⟨hl, he⟩ := List.getElem?_eq_some_iff.1 h
  rw [List.drop_eq_getElem_cons hl, he]; rfl
theorem smB_len : ∀ (ws : List (Nat × Nat × Nat)) (d : List Int), (smB ws d).length = d.length
  | [], _ => rfl
  | w :: ws, d => by
    show ((smB ws d).set _ _).length = _
    rw [List.length_set, smB_len ws]
theorem getD_set {t : List Int} {i j : Nat} {x : Int} : (t.set i x).getD j 0 = if i = j ∧ i < t.length then x else t.getD j 0 := by
  unfold List.getD
  rw [List.getElem?_set]
  by_cases c : i = j
  · subst c
    by_cases d : i < t.length
    · rw [if_pos rfl, if_pos d, if_pos ⟨rfl, d⟩]; rfl
    · rw [if_pos rfl, if_neg d, if_neg (fun h => d h.2), List.getElem?_eq_none (by omega)]
  · rw [if_neg c, if_neg (fun h => c h.1)]
theorem smB_keep {v : Nat} : ∀ (ws : List (Nat × Nat × Nat)) (d : List Int), (∀ w ∈ ws, ¬ w.2.1 = v) → (smB ws d).getD v 0 = d.getD v 0
  | [], _, _ => rfl
  | w :: ws, d, h => by
    show ((smB ws d).set _ _).getD v 0 = _
    rw [getD_set, if_neg (fun k => h w List.mem_cons_self k.1), smB_keep ws d (fun x hx => h x (List.mem_cons_of_mem _ hx))]
theorem smB_app (ws vs : List (Nat × Nat × Nat)) (d : List Int) : smB (ws ++ vs) d = smB ws (smB vs d) := by unfold smB; rw [List.foldr_append]
theorem smB_nn : ∀ (ws : List (Nat × Nat × Nat)) (d : List Int), (∀ v, 0 ≤ d.getD v 0) → ∀ v, 0 ≤ (smB ws d).getD v 0
  | [], _, h => h
  | w :: ws, d, h => fun v => by
    have ih := smB_nn ws d h
    show 0 ≤ ((smB ws d).set _ _).getD v 0
    rw [getD_set]
    split
    · have h1 : 0 ≤ (smB ws d).getD w.2.1 0 := ih w.2.1
      have h2 : 0 ≤ (smB ws d).getD w.1 0 := ih w.1
      exact Int.add_nonneg h1 h2
    · exact ih v
/-- Ways in order: each node once and not the source, each from a node before. -/
structure WOrd (s : Nat) (ws : List (Nat × Nat × Nat)) : Prop where
  nd : (s :: ws.map fun w => w.1).Nodup
  bf : ∀ m w, ws[m]? = some w → w.2.1 ∈ s :: (ws.take m).map fun w => w.1
theorem ways_ord {es : List (Nat × Nat)} {n s : Nat} (hr : ∀ e ∈ es, e.1 < n ∧ e.2 < n) (hs : s < n) : WOrd s (waysF es n s).2 := by
  have hf := (found_inv hr hs).1.nd
  rw [← waysF_1, (waysF_in2 (es := es) (n := n) (s := s)).hd] at hf
  exact ⟨hf, (waysF_in2 (es := es) (n := n) (s := s)).bf⟩
theorem WOrd.tk {s : Nat} {ws : List (Nat × Nat × Nat)} (h : WOrd s ws) {m : Nat} {w : Nat × Nat × Nat} (hm : ws[m]? = some w) : (s :: (ws.take m).map fun w => w.1).Nodup ∧ ¬ w.1 ∈ s :: (ws.take m).map (fun w => w.1) ∧ ws.take (m + 1) = ws.take m ++ [w] := by
  have e : ws.take (m + 1) = ws.take m ++ [w] := by rw [List.take_add_one, hm]; rfl
  have h1 : (s :: (ws.take (m + 1)).map fun w => w.1).Nodup := by
    refine List.Nodup.sublist ?_ h.nd
    exact List.Sublist.cons_cons _ ((List.take_sublist _ _).map _)
  rw [e, List.map_append, ← List.cons_append, List.nodup_append] at h1
  exact ⟨h1.1, fun k => h1.2.2 _ k w.1 (by simp) rfl, e⟩
/-- Before its own turn a node has its whole sum. -/
theorem smB_fin {s : Nat} {ws : List (Nat × Nat × Nat)} {d : List Int} (h : WOrd s ws) {m : Nat} {w : Nat × Nat × Nat} (hm : ws[m]? = some w) : (smB (ws.drop (m + 1)) d).getD w.1 0 = (smB ws d).getD w.1 0 := by
  have e : smB ws d = smB (ws.take (m + 1)) (smB (ws.drop (m + 1)) d) := by rw [← smB_app, List.take_append_drop]
  rw [e]
  refine (smB_keep _ _ ?_).symm
  intro x hx c
  obtain ⟨i, hi⟩ := List.getElem?_of_mem hx
  have hil := (List.getElem?_eq_some_iff.1 hi).1
  rw [List.length_take] at hil
  rw [List.getElem?_take] at hi
  split at hi
  · have hb := h.bf i x hi
    rw [c] at hb
    have hk := (h.tk hm).2.1
    apply hk
    rcases List.mem_cons.1 hb with q | q
    · rw [q]; exact List.mem_cons_self
    · refine List.mem_cons_of_mem _ ?_
      obtain ⟨y, hy, ey⟩ := List.mem_map.1 q
      exact List.mem_map.2 ⟨y, (List.take_subset_take_left ws (by omega)) hy, ey⟩
  · cases hi
/-- What a node has at the end: its demand and what its followers have. -/
theorem smB_eq {s n : Nat} {ws : List (Nat × Nat × Nat)} {d : List Int} (h : WOrd s ws) (hn : d.length = n) (hlt : ∀ w ∈ ws, w.2.1 < n) (v : Nat) : ∀ j m : Nat, j + m = ws.length → (smB (ws.drop m) d).getD v 0 = d.getD v 0 + su (fun w => if w.2.1 = v then (smB ws d).getD w.1 0 else 0) (ws.drop m)
  | 0, m, hm => by rw [List.drop_of_length_le (by omega)]; show d.getD v 0 = d.getD v 0 + 0; omega
  | j + 1, m, hm => by
    have hl : m < ws.length := by omega
    have hg : ws[m]? = some (ws[m]) := List.getElem?_eq_getElem hl
    have ih := smB_eq h hn hlt v j (m + 1) (by omega)
    have hf := smB_fin (d := d) h hg
    have hw := hlt _ (List.getElem_mem hl)
    rw [smB_s hg, getD_set]
    rw [List.drop_eq_getElem_cons hl]
    show _ = _ + ((if (ws[m]).2.1 = v then _ else 0) + su _ (ws.drop (m + 1)))
    have hll := smB_len (ws.drop (m + 1)) d
    by_cases c : (ws[m]).2.1 = v
    · rw [if_pos ⟨c, by omega⟩, if_pos c, hf, c, ih]; omega
    · rw [if_neg (fun k => c k.1), if_neg c, ih]; omega
/-- No sum is above the whole demand. -/
theorem smB_tot {s : Nat} {ws : List (Nat × Nat × Nat)} {d : List Int} (h : WOrd s ws) (hlt : ∀ w ∈ ws, w.2.1 < d.length) : ∀ j m : Nat, j + m = ws.length → su (fun v => (smB (ws.drop m) d).getD v 0) (s :: (ws.take m).map fun w => w.1) = su (fun v => d.getD v 0) (s :: ws.map fun w => w.1)
  | 0, m, hm => by rw [List.drop_of_length_le (by omega), List.take_of_length_le (by omega)]; rfl
  | j + 1, m, hm => by
    have hl : m < ws.length := by omega
    have hg : ws[m]? = some (ws[m]) := List.getElem?_eq_getElem hl
    have ih := smB_tot h hlt j (m + 1) (by omega)
    obtain ⟨h1, h2, h3⟩ := h.tk hg
    have hw := hlt _ (List.getElem_mem hl)
    have hb := h.bf m _ hg
    have hll := smB_len (ws.drop (m + 1)) d
    rw [h3, List.map_append, ← List.cons_append, su_app] at ih
    rw [← ih]
    refine (su_upd (f := fun v => (smB (ws.drop (m + 1)) d).getD v 0) (a := (ws[m]).2.1) (k := (smB (ws.drop (m + 1)) d).getD (ws[m]).1 0) _ h1 hb ?_ ?_).trans ?_
    · show (smB (ws.drop m) d).getD _ 0 = _
      rw [smB_s hg, getD_set, if_pos ⟨rfl, by omega⟩]
    · intro x hx
      show (smB (ws.drop m) d).getD _ 0 = _
      rw [smB_s hg, getD_set, if_neg (fun k => hx k.1.symm)]
    · show _ + _ = _ + ((smB (ws.drop (m + 1)) d).getD (ws[m]).1 0 + 0)
      omega
theorem smB_le {s : Nat} {ws : List (Nat × Nat × Nat)} {d : List Int} (h : WOrd s ws) (hlt : ∀ w ∈ ws, w.2.1 < d.length) (hd : ∀ v, 0 ≤ d.getD v 0) {w : Nat × Nat × Nat} (hw : w ∈ ws) : 0 ≤ (smB ws d).getD w.1 0 ∧ (smB ws d).getD w.1 0 ≤ su (fun v => d.getD v 0) (s :: ws.map fun w => w.1) := by
  obtain ⟨m, hm⟩ := List.getElem?_of_mem hw
  have hl := (List.getElem?_eq_some_iff.1 hm).1
  have ht := smB_tot h hlt (ws.length - (m + 1)) (m + 1) (by omega)
  have hnn := smB_nn (ws.drop (m + 1)) d hd
  refine ⟨smB_nn ws d hd _, ?_⟩
  rw [← ht, ← smB_fin (d := d) h hm]
  refine su_mem (f := fun v => (smB (ws.drop (m + 1)) d).getD v 0) _ (fun y _ => hnn y) ?_
  rw [(h.tk hm).2.2]; simp
/-- The pipe of a way. -/
def wpi (ws : List (Nat × Nat × Nat)) (i : Nat) : Option (Nat × Nat × Nat) := ws.find? (fun w => w.2.2 == i)
theorem wpi_get {w : Nat × Nat × Nat} : ∀ {ws : List (Nat × Nat × Nat)} (_ : (ws.map fun w => w.2.2).Nodup) (_ : w ∈ ws), wpi ws w.2.2 = some w
  | x :: ws, hn, hm => by
    rw [List.map_cons, List.nodup_cons] at hn
    unfold wpi
    by_cases c : x.2.2 = w.2.2
    · rw [List.find?_cons_of_pos (by simpa using c)]
      rcases List.mem_cons.1 hm with k | k
      · rw [k]
      · exact absurd (c ▸ List.mem_map_of_mem (f := fun w : Nat × Nat × Nat => w.2.2) k) hn.1
    · rw [List.find?_cons_of_neg (by simpa using c)]
      rcases List.mem_cons.1 hm with k | k
      · rw [k] at c; exact absurd rfl c
      · exact wpi_get hn.2 k
/-- The flow of a pipe: the sum of its node, against its direction below 0. -/
def flW (es : List (Nat × Nat)) (S : List Int) (w : Nat × Nat × Nat) : Int := match es[w.2.2]? with
  | some e => if e.1 = w.1 then -(S.getD w.1 0) else S.getD w.1 0
  | none => 0
def flL (es : List (Nat × Nat)) (S : List Int) (ws : List (Nat × Nat × Nat)) : List Int := (List.range es.length).map fun i => match wpi ws i with
  | some w => flW es S w
  | none => 0
theorem flL_len {es : List (Nat × Nat)} {S : List Int} {ws : List (Nat × Nat × Nat)} : (flL es S ws).length = es.length := by simp [flL]
theorem flL_0 {es : List (Nat × Nat)} {S : List Int} : flL es S [] = List.replicate es.length 0 := by
  unfold flL wpi
  refine List.ext_getElem? fun j => ?_
  rw [List.getElem?_map, List.getElem?_replicate]
  by_cases c : j < es.length
  · rw [List.getElem?_range c, if_pos c]; rfl
  · rw [List.getElem?_eq_none (by simpa using c), if_neg c]; rfl
theorem flL_set {es : List (Nat × Nat)} {S : List Int} {ws : List (Nat × Nat × Nat)} {w : Nat × Nat × Nat} (hi : w.2.2 < es.length) : (flL es S ws).set w.2.2 (flW es S w) = flL es S (w :: ws) := by
  refine List.ext_getElem? fun j => ?_
  rw [List.getElem?_set]
  unfold flL
  by_cases hj : j < es.length
  · rw [List.getElem?_map, List.getElem?_map, List.getElem?_range hj]
    simp only [Option.map_some, List.length_map, List.length_range]
    by_cases c : w.2.2 = j
    · subst c
      rw [if_pos rfl, if_pos hi]
      unfold wpi
      rw [List.find?_cons_of_pos (by simp)]
    · rw [if_neg c]
      unfold wpi
      rw [List.find?_cons_of_neg (by simpa using c)]
  · rw [List.getElem?_eq_none (by simp; omega)]
    rw [List.getElem?_eq_none (by simp; omega)]
    split
    · rw [if_neg (by simp; omega)]
    · rfl
theorem flL_get {es : List (Nat × Nat)} {S : List Int} {ws : List (Nat × Nat × Nat)} (hn : (ws.map fun w => w.2.2).Nodup) {w : Nat × Nat × Nat} (hw : w ∈ ws) (hi : w.2.2 < es.length) : (flL es S ws)[w.2.2]? = some (flW es S w) := by
  unfold flL
  rw [List.getElem?_map, List.getElem?_range hi]
  simp only [Option.map_some, wpi_get hn hw]
/-- What comes to a node less what leaves it. -/
def baS (es : List (Nat × Nat)) (fl : List Int) (j i : Nat) : Int := match es[i]? with
  | some e => (if e.2 = j then fl.getD i 0 else 0) - (if e.1 = j then fl.getD i 0 else 0)
  | none => 0
def baF (es : List (Nat × Nat)) (fl : List Int) (j : Nat) : Int := su (baS es fl j) (List.range es.length)
theorem baS_way {es : List (Nat × Nat)} {S : List Int} {ws : List (Nat × Nat × Nat)} (hn : (ws.map fun w => w.2.2).Nodup) {w : Nat × Nat × Nat} (hw : w ∈ ws) {e : Nat × Nat} (he : es[w.2.2]? = some e) (hx : nxt e w.2.1 = some w.1) (hne : ¬ w.1 = w.2.1) (j : Nat) : baS es (flL es S ws) j w.2.2 = (if w.1 = j then S.getD w.1 0 else 0) - (if w.2.1 = j then S.getD w.1 0 else 0) := by
  have hi := (List.getElem?_eq_some_iff.1 he).1
  have hg := flL_get (S := S) hn hw hi
  have hfl : (flL es S ws).getD w.2.2 0 = flW es S w := by unfold List.getD; rw [hg]; rfl
  unfold baS
  rw [he]
  simp only [hfl]
  have hF : flW es S w = if e.1 = w.1 then -(S.getD w.1 0) else S.getD w.1 0 := by unfold flW; rw [he]
  rw [hF]
  rcases nxt_edge hx with c | c
  · have h1 : e.1 = w.2.1 := by rw [← c]
    have h2 : e.2 = w.1 := by rw [← c]
    rw [h1, h2]
    rw [if_neg (show ¬ w.2.1 = w.1 from fun k => hne k.symm)]
  · have h1 : e.1 = w.1 := by rw [← c]
    have h2 : e.2 = w.2.1 := by rw [← c]
    rw [h1, h2, if_pos rfl]
    split <;> split <;> omega
/-- Flows in a tree bring its demand to each node. -/
theorem ba_law {es : List (Nat × Nat)} {n s : Nat} {d : List Int} (hr : ∀ e ∈ es, e.1 < n ∧ e.2 < n) (hs : s < n) (hc : ∀ v, v < n → Conn es s v) (hl : es.length + 1 = n) (hd : d.length = n) {j : Nat} (hj : j < n) (hjs : ¬ j = s) : baF es (flL es (smB (waysF es n s).2 d) (waysF es n s).2) j = d.getD j 0 := by
  have hord := ways_ord hr hs
  have hpn := (waysF_in2 (es := es) (n := n) (s := s)).pn
  have hlt : ∀ w ∈ (waysF es n s).2, _ := fun w hw => ways_lt hr hs hw
  have hperm : ((waysF es n s).2.map fun w => w.2.2).Perm (List.range es.length) := by
    rw [List.perm_ext_iff_of_nodup hpn List.nodup_range]
    intro i
    rw [List.mem_range]
    constructor
    · intro h
      obtain ⟨w, hw, rfl⟩ := List.mem_map.1 h
      exact (hlt w hw).2.2.2.1
    · intro h
      obtain ⟨w, hw, e⟩ := ways_all hr hs hc hl h
      exact List.mem_map.2 ⟨w, hw, e⟩
  unfold baF
  rw [← su_perm hperm, su_map]
  rw [su_cong (g := fun w => (if w.1 = j then (smB (waysF es n s).2 d).getD w.1 0 else 0) + -(if w.2.1 = j then (smB (waysF es n s).2 d).getD w.1 0 else 0)) _ (fun w hw => by
    obtain ⟨_, _, hne, _, _, e, he, hx⟩ := hlt w hw
    rw [baS_way hpn hw he hx hne j]; omega)]
  rw [su_add, su_neg]
  have hS := smB_eq (d := d) hord hd (fun w hw => (hlt w hw).2.1) j (waysF es n s).2.length 0 (by omega)
  rw [List.drop_zero] at hS
  have hmem : j ∈ (waysF es n s).2.map fun w => w.1 := by
    have := ((found_inv hr hs).2 j).2 (hc j hj)
    rw [← waysF_1, (waysF_in2 (es := es) (n := n) (s := s)).hd] at this
    exact (List.mem_cons.1 this).resolve_left hjs
  have hone : su (fun w : Nat × Nat × Nat => if w.1 = j then (smB (waysF es n s).2 d).getD w.1 0 else 0) (waysF es n s).2 = (smB (waysF es n s).2 d).getD j 0 := by
    have hnd := ways_nd hr hs
    rw [← su_map (f := fun v => if v = j then (smB (waysF es n s).2 d).getD v 0 else 0) (g := fun w : Nat × Nat × Nat => w.1)]
    have := su_upd (f := fun _ => 0) (g := fun v => if v = j then (smB (waysF es n s).2 d).getD v 0 else 0) (a := j) (k := (smB (waysF es n s).2 d).getD j 0) _ hnd hmem (by simp) (fun x hx => if_neg hx)
    rw [this, su_0 _ (fun _ _ => rfl)]; omega
  rw [hone, hS]; omega
/-- All balances together are nothing. -/
theorem ba_sum {es : List (Nat × Nat)} {n : Nat} (fl : List Int) (hr : ∀ e ∈ es, e.1 < n ∧ e.2 < n) : su (baF es fl) (List.range n) = 0 := by
  have swap : ∀ (l : List Nat) (m : List Nat), su (fun j => su (baS es fl j) l) m = su (fun i => su (fun j => baS es fl j i) m) l := by
    intro l
    induction l with
    | nil => intro m; exact su_0 _ (fun _ _ => rfl)
    | cons i l ih =>
      intro m
      show su (fun j => baS es fl j i + su (baS es fl j) l) m = su (fun j => baS es fl j i) m + su _ l
      rw [su_add, ih]
  unfold baF
  rw [swap]
  refine su_0 _ fun i hi => ?_
  rw [List.mem_range] at hi
  have he : es[i]? = some es[i] := List.getElem?_eq_getElem hi
  have hb := hr _ (List.getElem_mem hi)
  have e1 : su (fun j => baS es fl j i) (List.range n) = su (fun j => if es[i].2 = j then fl.getD i 0 else 0) (List.range n) + -(su (fun j => if es[i].1 = j then fl.getD i 0 else 0) (List.range n)) := by
    rw [← su_neg, ← su_add]
    refine su_cong _ fun j _ => ?_
    show (match es[i]? with | some e => _ | none => _) = _
    rw [he]
    show _ - _ = _ + -_
    omega
  have e2 : ∀ a : Nat, a < n → su (fun j => if a = j then fl.getD i 0 else 0) (List.range n) = fl.getD i 0 := fun a ha => by
    have := su_upd (f := fun _ => 0) (g := fun v => if a = v then fl.getD i 0 else 0) (a := a) (k := fl.getD i 0) _ List.nodup_range (List.mem_range.2 ha) (by simp) (fun x hx => if_neg (fun e => hx e.symm))
    rw [this, su_0 _ (fun _ _ => rfl)]; omega
  rw [e1, e2 _ hb.1, e2 _ hb.2]; omega
/-- Two rows that are filled along the same ways. -/
theorem wyT_rel {s : Nat} {ws : List (Nat × Nat × Nat)} {R : Int → Int → Prop} {f g : Nat × Nat × Nat → Int → Int} {t u : List Int} (h : WOrd s ws) (hst : s < t.length) (hlt : ∀ w ∈ ws, w.1 < t.length) (hl : u.length = t.length) (h0 : R (t.getD s 0) (u.getD s 0)) (hf : ∀ w ∈ ws, ∀ a b, R a b → R (f w a) (g w b)) : ∀ m : Nat, m ≤ ws.length → ∀ v ∈ s :: (ws.take m).map (fun w => w.1), R ((wyT f (ws.take m) t).getD v 0) ((wyT g (ws.take m) u).getD v 0)
  | 0, _, v, hv => by
    have e : v = s := by simpa using hv
    rw [e]; exact h0
  | m + 1, hm, v, hv => by
    have hg : ws[m]? = some ws[m] := List.getElem?_eq_getElem (by omega)
    obtain ⟨h1, h2, h3⟩ := h.tk hg
    have ih := wyT_rel h hst hlt hl h0 hf m (by omega)
    have hw := hlt _ (List.getElem_mem (show m < ws.length by omega))
    rw [wyT_s hg, wyT_s hg, getD_set, getD_set, wyT_len, wyT_len]
    by_cases c : (ws[m]).1 = v
    · rw [if_pos ⟨c, hw⟩, if_pos ⟨c, by omega⟩]
      exact hf _ (List.getElem_mem _) _ _ (ih _ (h.bf m _ hg))
    · rw [if_neg (fun k => c k.1), if_neg (fun k => c k.1)]
      refine ih v ?_
      rw [h3, List.map_append, ← List.cons_append] at hv
      rcases List.mem_append.1 hv with k | k
      · exact k
      · exact absurd (show (ws[m]).1 = v from (List.mem_singleton.1 k).symm) c
theorem wyT_src {f : Nat × Nat × Nat → Int → Int} {s : Nat} : ∀ (ws : List (Nat × Nat × Nat)) (t : List Int), ¬ s ∈ ws.map (fun w => w.1) → (wyT f ws t).getD s 0 = t.getD s 0
  | [], _, _ => rfl
  | w :: ws, t, h => by
    rw [List.map_cons, List.mem_cons] at h
    show (wyT f ws (t.set w.1 _)).getD s 0 = _
    rw [wyT_src ws _ (fun k => h (.inr k)), getD_set, if_neg (fun k => h (.inl k.1.symm))]
def byL (es : List (Nat × Nat)) (ws : List (Nat × Nat × Nat)) (n : Nat) : List Int := (List.range n).map (byW es ws)
theorem byL_len {es : List (Nat × Nat)} {ws : List (Nat × Nat × Nat)} {n : Nat} : (byL es ws n).length = n := by simp [byL]
theorem byL_0 {es : List (Nat × Nat)} {n : Nat} : byL es [] n = List.replicate n 0 := by
  unfold byL
  refine List.ext_getElem? fun j => ?_
  rw [List.getElem?_map, List.getElem?_replicate]
  by_cases c : j < n
  · rw [List.getElem?_range c, if_pos c]; rfl
  · rw [List.getElem?_eq_none (by simpa using c), if_neg c]; rfl
theorem byL_set {es : List (Nat × Nat)} {ws : List (Nat × Nat × Nat)} {n : Nat} {w : Nat × Nat × Nat} (h : w.1 < n) (hn : ¬ w.1 ∈ ws.map fun w => w.1) : (byL es ws n).set w.1 (sgW es w) = byL es (ws ++ [w]) n := by
  refine List.ext_getElem? fun j => ?_
  rw [List.getElem?_set, byL_len]
  unfold byL
  rw [List.getElem?_map, List.getElem?_map]
  by_cases c : w.1 = j
  · subst c
    rw [if_pos rfl, if_pos h, List.getElem?_range h]
    simp only [Option.map_some]
    unfold byW
    rw [wfd_eq hn]
  · rw [if_neg c]
    by_cases hj : j < n
    · rw [List.getElem?_range hj]
      simp only [Option.map_some]
      unfold byW
      rw [wfd_ne c]
    · rw [List.getElem?_eq_none (by simpa using hj)]; rfl
theorem byL_get {es : List (Nat × Nat)} {ws : List (Nat × Nat × Nat)} {n : Nat} {w : Nat × Nat × Nat} (hn : (ws.map fun w => w.1).Nodup) (hw : w ∈ ws) (h : w.1 < n) : (byL es ws n)[w.1]? = some (sgW es w) := by
  unfold byL
  rw [List.getElem?_map, List.getElem?_range h]
  simp only [Option.map_some]
  unfold byW
  rw [wfd_get hn hw]
theorem mapSet {xs : List Int} {i : Nat} {x : Int} : (xs.map ci).set i (ci x) = (xs.set i x).map ci := List.map_set.symm
theorem repI {n : Nat} : List.replicate n (ci 0) = (List.replicate n (0 : Int)).map ci := by simp [ci]
def seR (ks : List Nat) (n : Nat) : List AV := (List.range n).map fun j => .s (.bool (decide (j ∈ ks)))
theorem seR_len {ks : List Nat} {n : Nat} : (seR ks n).length = n := by simp [seR]
theorem seR_0 {n : Nat} : List.replicate n (AV.s (.bool false)) = seR [] n := by
  unfold seR
  refine List.ext_getElem? fun j => ?_
  rw [List.getElem?_map, List.getElem?_replicate]
  by_cases c : j < n
  · rw [List.getElem?_range c, if_pos c]; simp
  · rw [List.getElem?_eq_none (by simpa using c), if_neg c]; rfl
theorem seR_set {ks : List Nat} {n v : Nat} (h : v < n) : (seR ks n).set v (.s (.bool true)) = seR (ks ++ [v]) n := by
  refine List.ext_getElem? fun j => ?_
  rw [List.getElem?_set, seR_len]
  unfold seR
  rw [List.getElem?_map, List.getElem?_map]
  by_cases c : v = j
  · subst c
    rw [if_pos rfl, if_pos h, List.getElem?_range h]; simp
  · rw [if_neg c]
    by_cases hj : j < n
    · rw [List.getElem?_range hj]
      simp only [Option.map_some]
      have : (j ∈ ks ++ [v]) ↔ j ∈ ks := by simp [Ne.symm (Ne.intro c)]
      simp only [this]
    · rw [List.getElem?_eq_none (by simpa using hj)]; rfl
theorem seR_get {ks : List Nat} {n v : Nat} (h : v < n) : (seR ks n)[v]? = some (.s (.bool (decide (v ∈ ks)))) := by
  unfold seR
  rw [List.getElem?_map, List.getElem?_range h]; rfl
theorem repG {n i : Nat} {z : AV} (h : i < n) : (List.replicate n z)[i]? = some z := by rw [List.getElem?_replicate, if_pos h]
theorem byG {es : List (Nat × Nat)} {ws : List (Nat × Nat × Nat)} {n v : Nat} (h : v < n) : ((byL es ws n).map ci)[v]? = some (ci (byW es ws v)) := by
  unfold byL
  rw [List.getElem?_map, List.getElem?_map, List.getElem?_range h]; rfl
theorem nx_f {p : Pi} {u : Nat} (h : p.fm = (u : Int)) : nxt (pe p) u = some p.tt.toNat := by
  unfold nxt pe
  simp only
  rw [if_pos (by omega)]
theorem nx_t {p : Pi} {u : Nat} (h0 : 0 ≤ p.fm) (h1 : ¬ p.fm = (u : Int)) (h : p.tt = (u : Int)) : nxt (pe p) u = some p.fm.toNat := by
  unfold nxt pe
  simp only
  rw [if_neg (by omega), if_pos (by omega)]
theorem nx_n {p : Pi} {u : Nat} (h0 : 0 ≤ p.fm) (h2 : 0 ≤ p.tt) (h1 : ¬ p.fm = (u : Int)) (h : ¬ p.tt = (u : Int)) : nxt (pe p) u = none := by
  unfold nxt pe
  simp only
  rw [if_neg (by omega), if_neg (by omega)]
theorem sg_f {ps : List Pi} {p : Pi} {i u v : Nat} (hp : ps[i]? = some p) (h : p.fm = (u : Int)) : sgW (ps.map pe) (v, u, i) = (i : Int) + 1 := by
  unfold sgW
  simp only [List.getElem?_map, hp, Option.map_some]
  exact if_pos (by unfold pe; simp only; omega)
theorem sg_t {ps : List Pi} {p : Pi} {i u v : Nat} (hp : ps[i]? = some p) (h0 : 0 ≤ p.fm) (h : ¬ p.fm = (u : Int)) : sgW (ps.map pe) (v, u, i) = -((i : Int) + 1) := by
  unfold sgW
  simp only [List.getElem?_map, hp, Option.map_some]
  exact if_neg (by unfold pe; simp only; omega)
theorem not_nodes {es : List (Nat × Nat)} {s v : Nat} {st : List Nat × List (Nat × Nat × Nat)} (h : WInv es s st) (hn : ¬ v ∈ st.1) : ¬ v ∈ st.2.map fun w => w.1 := fun k => hn (by rw [h.hd]; exact List.mem_cons_of_mem _ k)
/-- How far nodes are: filled along the ways. -/
def frR (n t : Nat) (ws : List (Nat × Nat × Nat)) : List Int := wyT (fun _ a => a + 1) ws ((List.replicate n (-1)).set t 0)
def fr (n t : Nat) (ws : List (Nat × Nat × Nat)) (v : Nat) : Int := (frR n t ws).getD v 0
theorem frR_len {n t : Nat} {ws : List (Nat × Nat × Nat)} : (frR n t ws).length = n := by unfold frR; rw [wyT_len]; simp
theorem frR_app {n t : Nat} {ws : List (Nat × Nat × Nat)} {w : Nat × Nat × Nat} : frR n t (ws ++ [w]) = (frR n t ws).set w.1 (fr n t ws w.2.1 + 1) := by
  unfold frR fr frR wyT
  rw [List.foldl_append]; rfl
theorem fr_app {n t : Nat} {ws : List (Nat × Nat × Nat)} {w : Nat × Nat × Nat} (h : w.1 < n) (x : Nat) : fr n t (ws ++ [w]) x = if w.1 = x then fr n t ws w.2.1 + 1 else fr n t ws x := by
  unfold fr
  rw [frR_app, getD_set, frR_len]
  by_cases c : w.1 = x
  · rw [if_pos ⟨c, h⟩, if_pos c]; rfl
  · rw [if_neg (fun k => c k.1), if_neg c]
/-- What holds in the search, also of the pipes so far at the node u. -/
structure DInv (es : List (Nat × Nat)) (n t k u i : Nat) (st : List Nat × List (Nat × Nat × Nat)) : Prop where
  iv : Inv es n t st.1
  wv : WInv es t st
  at_ : st.1[k]? = some u
  mo : ∀ (i j a b : Nat), i ≤ j → st.1[i]? = some a → st.1[j]? = some b → fr n t st.2 a ≤ fr n t st.2 b
  up : ∀ b ∈ st.1, fr n t st.2 b ≤ fr n t st.2 u + 1
  cl : ∀ (j a : Nat), j < k → st.1[j]? = some a → ∀ e ∈ es, ∀ v, nxt e a = some v → v ∈ st.1 ∧ fr n t st.2 v ≤ fr n t st.2 a + 1
  cu : ∀ (j : Nat) (e : Nat × Nat), j < i → es[j]? = some e → ∀ v, nxt e u = some v → v ∈ st.1 ∧ fr n t st.2 v ≤ fr n t st.2 u + 1
  nn : ∀ v ∈ st.1, 0 ≤ fr n t st.2 v
  ne : ∀ v : Nat, v < n → ¬ v ∈ st.1 → fr n t st.2 v = -1
  z : fr n t st.2 t = 0
  ps : ∀ v ∈ st.1, ¬ v = t → ∃ e ∈ es, ∃ x, nxt e v = some x ∧ x ∈ st.1 ∧ fr n t st.2 v = fr n t st.2 x + 1
theorem nxt_back {e : Nat × Nat} {u v : Nat} (h : nxt e u = some v) : nxt e v = some u := by
  unfold nxt at h ⊢
  by_cases c : u = e.1
  · rw [if_pos c] at h; cases h
    by_cases d : e.2 = e.1
    · rw [if_pos d, d, c]
    · rw [if_neg d, if_pos rfl, c]
  · rw [if_neg c] at h
    by_cases d : u = e.2
    · rw [if_pos d] at h; cases h
      rw [if_pos rfl, d]
    · rw [if_neg d] at h; cases h
theorem dE {es : List (Nat × Nat)} {n t k u i : Nat} {st : List Nat × List (Nat × Nat × Nat)} {e : Nat × Nat} (hr : ∀ e ∈ es, e.1 < n ∧ e.2 < n) (he : es[i]? = some e) (h : DInv es n t k u i st) : DInv es n t k u (i + 1) (wyE u i st e) := by
  have hu := List.mem_of_getElem? h.at_
  have hcu : ∀ (st' : List Nat × List (Nat × Nat × Nat)), (∀ v ∈ st.1, v ∈ st'.1) → (∀ v ∈ st.1, fr n t st'.2 v = fr n t st.2 v) → (∀ v, nxt e u = some v → v ∈ st'.1 ∧ fr n t st'.2 v ≤ fr n t st'.2 u + 1) → ∀ j e', j < i + 1 → es[j]? = some e' → ∀ v, nxt e' u = some v → v ∈ st'.1 ∧ fr n t st'.2 v ≤ fr n t st'.2 u + 1 := fun st' h1 h2 h3 j e' hj he' v hv => by
    by_cases c : j = i
    · subst c; rw [he] at he'; cases he'; exact h3 v hv
    · have := h.cu j e' (by omega) he' v hv
      exact ⟨h1 v this.1, by rw [h2 v this.1, h2 u hu]; exact this.2⟩
  have hiv : Inv es n t (wyE u i st e).1 := by rw [wyE_1]; exact bfE_inv (hr e (List.mem_of_getElem? he)) (List.mem_of_getElem? he) hu h.iv
  have hwv := wyE_inv he hu h.wv
  cases hx : nxt e u with
  | none =>
    have e1 : wyE u i st e = st := by unfold wyE; rw [hx]
    rw [e1]
    exact { h with cu := hcu st (fun _ k => k) (fun _ _ => rfl) (fun v hv => by rw [hx] at hv; cases hv) }
  | some x =>
    by_cases hm : x ∈ st.1
    · have e1 : wyE u i st e = st := by unfold wyE; rw [hx]; exact if_pos hm
      rw [e1]
      exact { h with cu := hcu st (fun _ k => k) (fun _ _ => rfl) (fun v hv => by rw [hx] at hv; cases hv; exact ⟨hm, h.up x hm⟩) }
    · have e1 : wyE u i st e = (st.1 ++ [x], st.2 ++ [(x, u, i)]) := by unfold wyE; rw [hx]; exact if_neg hm
      rw [e1] at hiv hwv ⊢
      have hxn : x < n := hiv.lt x (by simp)
      have F : ∀ v, fr n t (st.2 ++ [(x, u, i)]) v = if x = v then fr n t st.2 u + 1 else fr n t st.2 v := fun v => fr_app (w := (x, u, i)) hxn v
      have Fo : ∀ v ∈ st.1, fr n t (st.2 ++ [(x, u, i)]) v = fr n t st.2 v := fun v hv => by rw [F]; exact if_neg (fun (c : x = v) => hm (c ▸ hv))
      have Fx : fr n t (st.2 ++ [(x, u, i)]) x = fr n t st.2 u + 1 := by rw [F, if_pos rfl]
      have hnu := h.nn u hu
      refine { iv := hiv, wv := hwv, at_ := ?_, mo := ?_, up := ?_, cl := ?_, cu := ?_, nn := ?_, ne := ?_, z := ?_, ps := ?_ }
      · show (st.1 ++ [x])[k]? = _
        rw [List.getElem?_append_left (List.getElem?_eq_some_iff.1 h.at_).1]; exact h.at_
      · intro p q a b hpq ha hb
        have hb' : (st.1 ++ [x])[q]? = some b := hb
        have ha' : (st.1 ++ [x])[p]? = some a := ha
        show fr n t (st.2 ++ [(x, u, i)]) a ≤ fr n t (st.2 ++ [(x, u, i)]) b
        by_cases cq : q < st.1.length
        · rw [List.getElem?_append_left cq] at hb'
          rw [List.getElem?_append_left (by omega)] at ha'
          rw [Fo a (List.mem_of_getElem? ha'), Fo b (List.mem_of_getElem? hb')]
          exact h.mo p q a b hpq ha' hb'
        · rw [List.getElem?_append_right (by omega)] at hb'
          have hbx : b = x := by
            have := List.mem_of_getElem? hb'
            simpa using this
          rw [hbx, Fx]
          rcases List.mem_append.1 (List.mem_of_getElem? ha') with c | c
          · rw [Fo a c]; exact h.up a c
          · have : a = x := by simpa using c
            rw [this, Fx]; omega
      · intro b hb
        show fr n t (st.2 ++ [(x, u, i)]) b ≤ fr n t (st.2 ++ [(x, u, i)]) u + 1
        rw [Fo u hu]
        rcases List.mem_append.1 hb with c | c
        · rw [Fo b c]; exact h.up b c
        · have : b = x := by simpa using c
          rw [this, Fx]; omega
      · intro j a hj ha e' he' v hv
        have ha' : (st.1 ++ [x])[j]? = some a := ha
        have hkl := (List.getElem?_eq_some_iff.1 h.at_).1
        rw [List.getElem?_append_left (by omega)] at ha'
        have := h.cl j a hj ha' e' he' v hv
        exact ⟨List.mem_append_left _ this.1, by
          show fr n t (st.2 ++ [(x, u, i)]) v ≤ fr n t (st.2 ++ [(x, u, i)]) a + 1
          rw [Fo v this.1, Fo a (List.mem_of_getElem? ha')]; exact this.2⟩
      · refine hcu (st.1 ++ [x], st.2 ++ [(x, u, i)]) (fun v hv => List.mem_append_left _ hv) Fo (fun v hv => ?_)
        rw [hx] at hv; cases hv
        exact ⟨by simp, by show fr n t (st.2 ++ [(x, u, i)]) x ≤ fr n t (st.2 ++ [(x, u, i)]) u + 1; rw [Fx, Fo u hu]; omega⟩
      · intro v hv
        show 0 ≤ fr n t (st.2 ++ [(x, u, i)]) v
        rcases List.mem_append.1 hv with c | c
        · rw [Fo v c]; exact h.nn v c
        · have : v = x := by simpa using c
          rw [this, Fx]; omega
      · intro v hv hn
        show fr n t (st.2 ++ [(x, u, i)]) v = -1
        have h1 : ¬ v ∈ st.1 := fun k => hn (List.mem_append_left _ k)
        have h2 : ¬ x = v := fun k => hn (by show v ∈ st.1 ++ [x]; rw [k]; simp)
        rw [F, if_neg h2]; exact h.ne v hv h1
      · show fr n t (st.2 ++ [(x, u, i)]) t = 0
        rw [Fo t h.iv.st]; exact h.z
      · intro v hv hvt
        show ∃ e ∈ es, ∃ y, nxt e v = some y ∧ y ∈ st.1 ++ [x] ∧ fr n t (st.2 ++ [(x, u, i)]) v = fr n t (st.2 ++ [(x, u, i)]) y + 1
        rcases List.mem_append.1 hv with c | c
        · obtain ⟨e', he', y, hy, hm', hf⟩ := h.ps v c hvt
          exact ⟨e', he', y, hy, List.mem_append_left _ hm', by rw [Fo v c, Fo y hm']; exact hf⟩
        · have : v = x := by simpa using c
          subst this
          exact ⟨e, List.mem_of_getElem? he, u, nxt_back hx, List.mem_append_left _ hu, by rw [Fx, Fo u hu]⟩
theorem dI {es : List (Nat × Nat)} {n t k u : Nat} (hr : ∀ e ∈ es, e.1 < n ∧ e.2 < n) : ∀ (fs : List (Nat × Nat)) (i : Nat) (st : List Nat × List (Nat × Nat × Nat)), fs = es.drop i → DInv es n t k u i st → DInv es n t k u (i + fs.length) (wyI u fs i st)
  | [], i, st, _, h => h
  | e :: fs, i, st, hf, h => by
    have hl : i < es.length := by
      apply Classical.byContradiction
      intro c
      rw [List.drop_of_length_le (by omega)] at hf; cases hf
    have hc : e :: fs = es[i] :: es.drop (i + 1) := by rw [hf]; exact List.drop_eq_getElem_cons hl
    obtain ⟨h1, h2⟩ := List.cons.inj hc
    have he : es[i]? = some e := by rw [h1]; exact List.getElem?_eq_getElem hl
    have := dI hr fs (i + 1) (wyE u i st e) h2 (dE hr he h)
    rw [show i + (e :: fs).length = i + 1 + fs.length by simp; omega]
    exact this
/-- What holds between two nodes of the search. -/
structure DO (es : List (Nat × Nat)) (n t k : Nat) (st : List Nat × List (Nat × Nat × Nat)) : Prop where
  iv : Inv es n t st.1
  wv : WInv es t st
  mo : ∀ (i j a b : Nat), i ≤ j → st.1[i]? = some a → st.1[j]? = some b → fr n t st.2 a ≤ fr n t st.2 b
  up : ∀ u, st.1[k]? = some u → ∀ b ∈ st.1, fr n t st.2 b ≤ fr n t st.2 u + 1
  cl : ∀ (j a : Nat), j < k → st.1[j]? = some a → ∀ e ∈ es, ∀ v, nxt e a = some v → v ∈ st.1 ∧ fr n t st.2 v ≤ fr n t st.2 a + 1
  nn : ∀ v ∈ st.1, 0 ≤ fr n t st.2 v
  ne : ∀ v : Nat, v < n → ¬ v ∈ st.1 → fr n t st.2 v = -1
  z : fr n t st.2 t = 0
  ps : ∀ v ∈ st.1, ¬ v = t → ∃ e ∈ es, ∃ x, nxt e v = some x ∧ x ∈ st.1 ∧ fr n t st.2 v = fr n t st.2 x + 1
theorem dO_step {es : List (Nat × Nat)} {n t k u : Nat} {st : List Nat × List (Nat × Nat × Nat)} (hr : ∀ e ∈ es, e.1 < n ∧ e.2 < n) (hu : st.1[k]? = some u) (h : DO es n t k st) : DO es n t (k + 1) (wyI u es 0 st) := by
  have h0 : DInv es n t k u 0 st := { iv := h.iv, wv := h.wv, at_ := hu, mo := h.mo, up := h.up u hu, cl := h.cl, cu := fun j e hj => absurd hj (by omega), nn := h.nn, ne := h.ne, z := h.z, ps := h.ps }
  have h1 := dI hr es 0 st (by simp) h0
  refine { iv := h1.iv, wv := h1.wv, mo := h1.mo, up := ?_, cl := ?_, nn := h1.nn, ne := h1.ne, z := h1.z, ps := h1.ps }
  · intro a ha b hb
    have := h1.up b hb
    have := h1.mo k (k + 1) u a (by omega) h1.at_ ha
    omega
  · intro j a hj ha e he v hv
    by_cases c : j = k
    · subst c
      have := h1.at_.symm.trans ha
      cases this
      obtain ⟨i, hi⟩ := List.getElem?_of_mem he
      exact h1.cu i e (by have := (List.getElem?_eq_some_iff.1 hi).1; omega) hi v hv
    · exact h1.cl j a (by omega) ha e he v hv
theorem dO_fin {es : List (Nat × Nat)} {n t : Nat} (hr : ∀ e ∈ es, e.1 < n ∧ e.2 < n) : ∀ (f k : Nat) (st : List Nat × List (Nat × Nat × Nat)), n ≤ k + f → DO es n t k st → ∃ k', (wyO es f k st).1.length ≤ k' ∧ DO es n t k' (wyO es f k st)
  | 0, k, st, hf, h => ⟨k, by have := len_le _ h.iv.nd h.iv.lt; show st.1.length ≤ k; omega, h⟩
  | f + 1, k, st, hf, h => by
    unfold wyO
    cases hk : st.1[k]? with
    | none => exact ⟨k, List.getElem?_eq_none_iff.1 hk, h⟩
    | some u => exact dO_fin hr f (k + 1) _ (by omega) (dO_step hr hk h)
/-- A walk of k pipes. -/
inductive Wk (es : List (Nat × Nat)) : Nat → Nat → Nat → Prop
  | nil (u : Nat) : Wk es 0 u u
  | cons {k u v w : Nat} {e : Nat × Nat} : e ∈ es → nxt e u = some v → Wk es k v w → Wk es (k + 1) u w
theorem Wk.snoc {es : List (Nat × Nat)} {k u v w : Nat} {e : Nat × Nat} (h : Wk es k u v) (he : e ∈ es) (hx : nxt e v = some w) : Wk es (k + 1) u w := by
  induction h with
  | nil u => exact .cons he hx (.nil _)
  | cons a b _ ih => exact .cons a b (ih hx)
theorem Wk.rev {es : List (Nat × Nat)} {k u v : Nat} (h : Wk es k u v) : Wk es k v u := by
  induction h with
  | nil u => exact .nil u
  | cons a b _ ih => exact ih.snoc a (nxt_back b)
/-- How far each node is, at the end. -/
def far (es : List (Nat × Nat)) (n t v : Nat) : Int := fr n t (waysF es n t).2 v
structure Far (es : List (Nat × Nat)) (n t : Nat) : Prop where
  z : far es n t t = 0
  r : ∀ v : Nat, v < n → -1 ≤ far es n t v ∧ far es n t v ≤ n
  st : ∀ v : Nat, v < n → 0 ≤ far es n t v → ∀ e ∈ es, ∀ w, nxt e v = some w → 0 ≤ far es n t w ∧ far es n t w ≤ far es n t v + 1
  ps : ∀ v : Nat, v < n → 0 ≤ far es n t v → ¬ v = t → ∃ e ∈ es, ∃ x, nxt e v = some x ∧ x < n ∧ far es n t v = far es n t x + 1 ∧ 0 ≤ far es n t x
theorem dO_0 {es : List (Nat × Nat)} {n t : Nat} (ht : t < n) : DO es n t 0 ([t], []) := by
  have hi : fr n t [] t = 0 := by
    unfold fr frR wyT
    show ((List.replicate n (-1)).set t 0).getD t 0 = 0
    rw [getD_set, if_pos ⟨rfl, by simpa using ht⟩]
  have hne : ∀ v, v < n → ¬ v = t → fr n t [] v = -1 := fun v hv hn => by
    unfold fr frR wyT
    show ((List.replicate n (-1)).set t 0).getD v 0 = -1
    rw [getD_set, if_neg (fun k => hn k.1.symm)]
    unfold List.getD
    rw [List.getElem?_replicate, if_pos hv]; rfl
  have e0 : ∀ v, v ∈ [t] → v = t := fun v hv => by simpa using hv
  refine { iv := ⟨by simp, fun v hv => by rw [e0 v hv]; exact ht, fun v hv => by rw [e0 v hv]; exact .rfl _, by simp⟩, wv := ⟨rfl, fun w hw => (by cases hw)⟩, mo := ?_, up := ?_, cl := fun j a hj => absurd hj (by omega), nn := ?_, ne := ?_, z := hi, ps := fun v hv hn => absurd (e0 v hv) hn }
  · intro i j a b _ ha hb
    have := e0 a (List.mem_of_getElem? ha)
    have := e0 b (List.mem_of_getElem? hb)
    subst a; subst b; exact Int.le_refl _
  · intro u hu b hb
    have := e0 u (List.mem_of_getElem? hu)
    have := e0 b hb
    subst u; subst b; omega
  · intro v hv
    rw [e0 v hv]; show 0 ≤ fr n t [] t; omega
  · intro v hv hn
    exact hne v hv (fun k => hn (by rw [k]; simp))
theorem far_ok {es : List (Nat × Nat)} {n t : Nat} (hr : ∀ e ∈ es, e.1 < n ∧ e.2 < n) (ht : t < n) : Far es n t := by
  have h0 : DO es n t 0 ([t], []) := dO_0 ht
  obtain ⟨k, hk, h⟩ := dO_fin hr n 0 _ (by omega) h0
  have hcl : ∀ v, v ∈ (waysF es n t).1 → ∀ e ∈ es, ∀ w, nxt e v = some w → w ∈ (waysF es n t).1 ∧ far es n t w ≤ far es n t v + 1 := fun v hv e he w hw => by
    obtain ⟨j, hj⟩ := List.getElem?_of_mem hv
    have hjl := (List.getElem?_eq_some_iff.1 hj).1
    exact h.cl j v (by have : (waysF es n t).1.length ≤ k := hk; omega) hj e he w hw
  have hin : ∀ v, v < n → 0 ≤ far es n t v → v ∈ (waysF es n t).1 := fun v hv h0 => by
    apply Classical.byContradiction
    intro c
    have := h.ne v hv c
    have : far es n t v = -1 := this
    omega
  have hnn : ∀ v, v ∈ (waysF es n t).1 → 0 ≤ far es n t v := h.nn
  -- a bound: each place of the list adds at most one
  have hbd : ∀ (j v : Nat), (waysF es n t).1[j]? = some v → far es n t v ≤ j := by
    have hin2 := waysF_in2 (es := es) (n := n) (s := t)
    have hord := ways_ord hr ht
    intro j
    induction j using Nat.strongRecOn with
    | _ j ih =>
      intro v hj
      rw [hin2.hd] at hj
      cases j with
      | zero =>
        simp at hj; subst hj
        have : far es n t t = 0 := h.z
        omega
      | succ j =>
        rw [List.getElem?_cons_succ, List.getElem?_map] at hj
        cases hw : (waysF es n t).2[j]? with
        | none => rw [hw] at hj; cases hj
        | some w =>
          rw [hw] at hj
          have hv : w.1 = v := by simpa using hj
          have hvt : ¬ v = t := fun c => (ways_lt hr ht (List.mem_of_getElem? hw)).2.2.2.2.1 (hv.trans c)
          -- the node before stands before
          have hb := hord.bf j w hw
          have hb' : ∃ i, i ≤ j ∧ (waysF es n t).1[i]? = some w.2.1 := by
            rw [hin2.hd]
            rcases List.mem_cons.1 hb with c | c
            · exact ⟨0, by omega, by rw [c]; rfl⟩
            · obtain ⟨i, hi⟩ := List.getElem?_of_mem c
              rw [List.getElem?_map, List.getElem?_take] at hi
              by_cases d : i < j
              · rw [if_pos d] at hi
                exact ⟨i + 1, by omega, by rw [List.getElem?_cons_succ, List.getElem?_map]; exact hi⟩
              · rw [if_neg d] at hi; cases hi
          obtain ⟨i, hi, hiw⟩ := hb'
          have h1 := ih i (by omega) _ hiw
          obtain ⟨e, he, hx⟩ := (ways_lt hr ht (List.mem_of_getElem? hw)).2.2.2.2.2
          have h2 := (hcl w.2.1 (List.mem_of_getElem? hiw) e (List.mem_of_getElem? he) w.1 hx).2
          rw [hv] at h2
          omega
  refine ⟨h.z, fun v hv => ?_, fun v hv h0 e he w hw => ?_, fun v hv h0 hvt => ?_⟩
  · by_cases c : v ∈ (waysF es n t).1
    · obtain ⟨j, hj⟩ := List.getElem?_of_mem c
      have h1 := hbd j v hj
      have h2 := hnn v c
      have h3 := len_le _ h.iv.nd h.iv.lt
      have h4 := (List.getElem?_eq_some_iff.1 hj).1
      have h5 : (waysF es n t).1.length ≤ n := h3
      omega
    · have : far es n t v = -1 := h.ne v hv c
      omega
  · have := hcl v (hin v hv h0) e he w hw
    exact ⟨hnn w this.1, this.2⟩
  · obtain ⟨e, he, x, hx, hm, hf⟩ := h.ps v (hin v hv h0) hvt
    exact ⟨e, he, x, hx, h.iv.lt x hm, hf, hnn x hm⟩
theorem far_wk {es : List (Nat × Nat)} {n t : Nat} (hr : ∀ e ∈ es, e.1 < n ∧ e.2 < n) (ht : t < n) : ∀ (k v : Nat), v < n → far es n t v = k → Wk es k v t
  | 0, v, hv, hk => by
    have hF := far_ok hr ht
    by_cases c : v = t
    · subst c; exact .nil _
    · obtain ⟨e, he, x, hx, hxn, hf, h0⟩ := hF.ps v hv (by omega) c
      omega
  | k + 1, v, hv, hk => by
    have hF := far_ok hr ht
    have hvt : ¬ v = t := fun c => by subst c; have := hF.z; omega
    obtain ⟨e, he, x, hx, hxn, hf, h0⟩ := hF.ps v hv (by omega) hvt
    exact .cons he hx (far_wk hr ht k x hxn (by omega))
theorem wk_far {es : List (Nat × Nat)} {n t : Nat} (hr : ∀ e ∈ es, e.1 < n ∧ e.2 < n) (ht : t < n) {k v : Nat} (h : Wk es k v t) (hv : v < n) : 0 ≤ far es n t v ∧ far es n t v ≤ k := by
  induction h with
  | nil u => have := (far_ok hr ht).z; omega
  | @cons k u v w e he hx _ ih =>
    have hF := far_ok hr ht
    have hvn : v < n := by
      have := hr e he
      rcases nxt_edge hx with c | c <;> rw [← c] at this
      · exact this.2
      · exact this.1
    have h1 := ih ht hvn
    have h2 := hF.st v hvn h1.1 e he u (nxt_back hx)
    have h3 : ((k + 1 : Nat) : Int) = (k : Int) + 1 := by omega
    omega
/-- The way back is as long. -/
theorem far_sym {es : List (Nat × Nat)} {n s t : Nat} (hr : ∀ e ∈ es, e.1 < n ∧ e.2 < n) (hs : s < n) (ht : t < n) (h : 0 ≤ far es n t s) : far es n s t = far es n t s := by
  have h1 := far_wk hr ht (far es n t s).toNat s hs (by omega)
  have h2 := wk_far hr hs h1.rev ht
  have h3 := far_wk hr hs (far es n s t).toNat t ht (by omega)
  have h4 := wk_far hr ht h3.rev hs
  omega
/-- Bounds that grow along the ways. -/
theorem wyT_grow {f : Nat × Nat × Nat → Int → Int} {C : Int} (hC : 0 ≤ C) : ∀ (ws : List (Nat × Nat × Nat)) (t : List Int) (B : Int), 0 ≤ B → (∀ w ∈ ws, ∀ a, -C ≤ f w a - a ∧ f w a - a ≤ C) → (∀ v, -B ≤ t.getD v 0 ∧ t.getD v 0 ≤ B) → ∀ v, -(B + C * ws.length) ≤ (wyT f ws t).getD v 0 ∧ (wyT f ws t).getD v 0 ≤ B + C * ws.length
  | [], t, B, _, _, ht, v => by have := ht v; simp only [List.length_nil, Int.natCast_zero, Int.mul_zero, Int.add_zero]; exact this
  | w :: ws, t, B, hB, hf, ht, v => by
    have ih := wyT_grow hC ws (t.set w.1 (f w (t.getD w.2.1 0))) (B + C) (by omega) (fun x hx => hf x (List.mem_cons_of_mem _ hx)) (fun u => by
      have h1 := ht u
      have h2 := ht w.2.1
      have h3 := hf w List.mem_cons_self (t.getD w.2.1 0)
      rw [getD_set]
      split <;> omega) v
    have e : C * ((ws.length + 1 : Nat) : Int) = C * (ws.length : Int) + C := by rw [Int.natCast_add, Int.mul_add]; simp
    show -(B + C * ((ws.length + 1 : Nat) : Int)) ≤ (wyT f ws (t.set w.1 (f w (t.getD w.2.1 0)))).getD v 0 ∧ (wyT f ws (t.set w.1 (f w (t.getD w.2.1 0)))).getD v 0 ≤ B + C * ((ws.length + 1 : Nat) : Int)
    rw [e]
    omega
theorem fr_bd {n t : Nat} (ws : List (Nat × Nat × Nat)) (v : Nat) : -(1 + 1 * (ws.length : Int)) ≤ fr n t ws v ∧ fr n t ws v ≤ 1 + 1 * ws.length := by
  unfold fr frR
  refine wyT_grow (C := 1) (by omega) ws _ 1 (by omega) (fun w _ a => by omega) (fun u => ?_) v
  rw [getD_set]
  split
  · omega
  · unfold List.getD
    rw [List.getElem?_replicate]
    split <;> simp
theorem getWd {t : List Int} {v : Nat} {k : Int} (h : v < t.length) (hk : k = (v : Int)) : (t.map ci)[k.toNat]? = some (ci (t.getD v 0)) := by
  rw [show k.toNat = v by omega, List.getElem?_map, List.getElem?_eq_getElem h]
  simp [List.getD, h]
def rpM (i n : Nat) : List Int := (List.range n).map fun j => if j < i then -1 else 0
theorem rpM_len {i n : Nat} : (rpM i n).length = n := by simp [rpM]
theorem rpM_0 {n : Nat} : List.replicate n (ci 0) = (rpM 0 n).map ci := by
  rw [repI]
  congr 1
  unfold rpM
  refine List.ext_getElem? fun j => ?_
  rw [List.getElem?_map, List.getElem?_replicate]
  by_cases c : j < n
  · rw [List.getElem?_range c, if_pos c]; simp
  · rw [List.getElem?_eq_none (by simpa using c), if_neg c]; rfl
theorem rpM_s {i n : Nat} (h : i < n) : ((rpM i n).map ci).set i (ci (-1)) = (rpM (i + 1) n).map ci := by
  rw [mapSet]
  congr 1
  refine List.ext_getElem? fun j => ?_
  rw [List.getElem?_set, rpM_len]
  unfold rpM
  rw [List.getElem?_map, List.getElem?_map]
  by_cases c : i = j
  · subst c
    rw [if_pos rfl, if_pos h, List.getElem?_range h]
    simp
  · rw [if_neg c]
    by_cases hj : j < n
    · rw [List.getElem?_range hj]
      simp only [Option.map_some]
      by_cases d : j < i
      · rw [if_pos d, if_pos (by omega)]
      · rw [if_neg d, if_neg (by omega)]
    · rw [List.getElem?_eq_none (by simpa using hj)]; rfl
theorem rpM_n {n : Nat} : rpM n n = List.replicate n (-1) := by
  unfold rpM
  refine List.ext_getElem? fun j => ?_
  rw [List.getElem?_map, List.getElem?_replicate]
  by_cases c : j < n
  · rw [List.getElem?_range c, if_pos c]; simp [c]
  · rw [List.getElem?_eq_none (by simpa using c), if_neg c]; rfl
theorem frR_0 {n s : Nat} : ((rpM n n).map ci).set s (ci 0) = (frR n s []).map ci := by rw [mapSet, rpM_n]; rfl
theorem frR_s {n s : Nat} {ws : List (Nat × Nat × Nat)} {v u i : Nat} {x k : Int} (hk : k = (v : Int)) (hx : x = fr n s ws u + 1) : ((frR n s ws).map ci).set k.toNat (ci x) = (frR n s (ws ++ [(v, u, i)])).map ci := by
  rw [mapSet, frR_app, show k.toNat = v by omega, hx]
theorem frG {n s : Nat} {ws : List (Nat × Nat × Nat)} {v : Nat} {k : Int} (hk : k = (v : Int)) (h : v < n) : ((frR n s ws).map ci)[k.toNat]? = some (ci (fr n s ws v)) := getWd (by rw [frR_len]; exact h) hk
theorem dO_in {es : List (Nat × Nat)} {n t k u : Nat} {st : List Nat × List (Nat × Nat × Nat)} (hu : st.1[k]? = some u) (h : DO es n t k st) : DInv es n t k u 0 st := { iv := h.iv, wv := h.wv, at_ := hu, mo := h.mo, up := h.up u hu, cl := h.cl, cu := fun j e hj => absurd hj (by omega), nn := h.nn, ne := h.ne, z := h.z, ps := h.ps }
/-- The queue: what is left of a row. -/
def Que (V : List Int) (j k : Nat) (z : List Nat) : Prop := (j ≤ V.length ∧ V.length ≤ z.length) ∧ V.drop j = toI (z.drop k)
theorem Que.len {V : List Int} {j k : Nat} {z : List Nat} (h : Que V j k z) : V.length - j = z.length - k := by
  have := congrArg List.length h.2
  rw [List.length_drop, toI_len, List.length_drop] at this
  exact this
theorem Que.hd {V : List Int} {j k u : Nat} {z : List Nat} (h : Que V j k z) (hu : z[k]? = some u) : V[j]? = some (u : Int) := by
  have hl := (List.getElem?_eq_some_iff.1 hu).1
  have e : (V.drop j)[0]? = (toI (z.drop k))[0]? := by rw [h.2]
  rw [List.getElem?_drop] at e
  unfold toI at e
  rw [List.getElem?_map, List.getElem?_drop] at e
  simpa [hu] using e
theorem Que.nx {V : List Int} {j k u : Nat} {z : List Nat} (h : Que V j k z) (hu : z[k]? = some u) : Que V (j + 1) (k + 1) z := by
  have hv := h.hd hu
  have hl := (List.getElem?_eq_some_iff.1 hv).1
  refine ⟨⟨by omega, h.1.2⟩, ?_⟩
  have e := congrArg (List.drop 1) h.2
  rw [List.drop_drop] at e
  rw [e]
  unfold toI
  rw [← List.map_drop, List.drop_drop]
theorem Que.app {V : List Int} {j j2 k v : Nat} {z : List Nat} {x : Int} {W : List AV} (h : Que V j k z) (hk : k ≤ z.length) (hx : x = (v : Int)) (hW : W = V.map ci ++ [ci x] ∧ j2 = j ∨ W = (V.map ci).drop j ++ [ci x] ∧ j2 = 0) : ∃ V2 : List Int, W = V2.map ci ∧ Que V2 j2 k (z ++ [v]) := by
  have e : toI ((z ++ [v]).drop k) = toI (z.drop k) ++ [x] := by
    rw [List.drop_append_of_le_length hk]
    unfold toI
    rw [List.map_append, hx]; rfl
  rcases hW with ⟨rfl, rfl⟩ | ⟨rfl, rfl⟩
  · refine ⟨V ++ [x], by rw [List.map_append]; rfl, by simp; have := h.1; omega, ?_⟩
    rw [List.drop_append_of_le_length h.1.1, h.2, e]
  · refine ⟨V.drop j ++ [x], by rw [List.map_append, List.map_drop]; rfl, by simp; have := h.1; omega, ?_⟩
    rw [List.drop_zero, h.2, e]
theorem ways_cnt {es : List (Nat × Nat)} {s : Nat} {st : List Nat × List (Nat × Nat × Nat)} (h : WInv es s st) : st.2.length + 1 = st.1.length := by rw [h.hd]; simp
theorem nxt_lt {e : Nat × Nat} {u v n : Nat} (h : e.1 < n ∧ e.2 < n) (hx : nxt e u = some v) : v < n := by
  rcases nxt_edge hx with c | c <;> rw [← c] at h
  · exact h.2
  · exact h.1
/-- A walk: at each place a pipe, forward or back. -/
def stpW (ps : List Pi) (x a b : Int) : Prop := ∃ (k : Nat) (p : Pi), ps[k]? = some p ∧ ((x = (k : Int) + 1 ∧ p.fm = a ∧ p.tt = b) ∨ (x = -((k : Int) + 1) ∧ p.tt = a ∧ p.fm = b))
def TrW (ps : List Pi) (L : List Int) (P : Nat → Int) : Prop := ∀ (i : Nat) (x : Int), L[i]? = some x → stpW ps x (P i) (P (i + 1))
def PW (ns : List Int) (ps : List Pi) (a b at_ : Int) (L : List Int) : Prop := ∃ P : Nat → Int, P 0 = a ∧ P L.length = at_ ∧ TrW ps L P ∧ ∀ i, i ≤ L.length → (0 ≤ P i ∧ P i < ns.length) ∧ far (ps.map pe) ns.length b.toNat (P i).toNat = far (ps.map pe) ns.length b.toNat a.toNat - i ∧ 0 ≤ far (ps.map pe) ns.length b.toNat (P i).toNat
theorem PW_0 {ns : List Int} {ps : List Pi} {a b : Int} (ha : 0 ≤ a ∧ a < ns.length) (hf : 0 ≤ far (ps.map pe) ns.length b.toNat a.toNat) : PW ns ps a b a [] :=
  ⟨fun _ => a, rfl, rfl, fun i x h => (by simp at h), fun i hi => ⟨ha, by have e0 : i = 0 := (by simpa using hi); subst e0; simp, hf⟩⟩
theorem PW_s {ns : List Int} {ps : List Pi} {a b u v x : Int} {L : List Int} (h : PW ns ps a b u L) (hv : 0 ≤ v ∧ v < ns.length) (hs : stpW ps x u v) (hf : far (ps.map pe) ns.length b.toNat v.toNat = far (ps.map pe) ns.length b.toNat u.toNat - 1) (h0 : 0 ≤ far (ps.map pe) ns.length b.toNat v.toNat) : PW ns ps a b v (L ++ [x]) := by
  obtain ⟨P, h1, h2, h3, h4⟩ := h
  have hl : (L ++ [x]).length = L.length + 1 := by simp
  refine ⟨fun i => if i = L.length + 1 then v else P i, ?_, ?_, ?_, ?_⟩
  · show (if 0 = L.length + 1 then v else P 0) = a
    rw [if_neg (by omega)]; exact h1
  · rw [hl]; exact if_pos rfl
  · intro i y hy
    show stpW ps y (if i = L.length + 1 then v else P i) (if i + 1 = L.length + 1 then v else P (i + 1))
    have hil := (List.getElem?_eq_some_iff.1 hy).1
    rw [hl] at hil
    rw [if_neg (by omega)]
    by_cases c : i = L.length
    · subst c
      rw [List.getElem?_append_right (Nat.le_refl _)] at hy
      simp at hy; subst hy
      rw [if_pos rfl, h2]; exact hs
    · rw [if_neg (by omega)]
      rw [List.getElem?_append_left (by omega)] at hy
      exact h3 i y hy
  · intro i hi
    rw [hl] at hi
    show (0 ≤ (if i = L.length + 1 then v else P i) ∧ (if i = L.length + 1 then v else P i) < ns.length) ∧ far _ _ _ (if i = L.length + 1 then v else P i).toNat = _ ∧ 0 ≤ far _ _ _ (if i = L.length + 1 then v else P i).toNat
    by_cases c : i = L.length + 1
    · rw [if_pos c]
      have h5 := (h4 L.length (Nat.le_refl _)).2.1
      rw [h2] at h5
      exact ⟨hv, by omega, h0⟩
    · rw [if_neg c]; exact h4 i (by omega)
theorem PW_at {ns : List Int} {ps : List Pi} {a b u : Int} {L : List Int} (h : PW ns ps a b u L) : (0 ≤ u ∧ u < ns.length) ∧ far (ps.map pe) ns.length b.toNat u.toNat = far (ps.map pe) ns.length b.toNat a.toNat - L.length ∧ 0 ≤ far (ps.map pe) ns.length b.toNat u.toNat := by
  obtain ⟨P, h1, h2, h3, h4⟩ := h
  have := h4 L.length (Nat.le_refl _)
  rw [h2] at this; exact this
noncomputable def ptC (ns : List Int) (ps : List Pi) (a b : Int) : Int := if netOk ns ps then (if (0 ≤ a ∧ a < ns.length) ∧ (0 ≤ b ∧ b < ns.length) then (if far (ps.map pe) ns.length b.toNat a.toNat < 0 then 3 else 0) else 2) else 1
def ptR (ns : List Int) (ps : List Pi) (a b : Int) (L : List Int) (c : Int) : Prop := c = ptC ns ps a b ∧ (c = 0 → PW ns ps a b b L) ∧ (¬ c = 0 → L = [])
theorem pt_1 {ns : List Int} {ps : List Pi} {a b : Int} (h : ¬ netOk ns ps) : ptR ns ps a b [] 1 := ⟨(if_neg h).symm, fun h => absurd h (by omega), fun _ => rfl⟩
theorem pt_2 {ns : List Int} {ps : List Pi} {a b : Int} (h : netOk ns ps) (h2 : ¬ ((0 ≤ a ∧ a < ns.length) ∧ (0 ≤ b ∧ b < ns.length))) : ptR ns ps a b [] 2 := ⟨by unfold ptC; rw [if_pos h, if_neg h2], fun h => absurd h (by omega), fun _ => rfl⟩
theorem pt_3 {ns : List Int} {ps : List Pi} {a b : Int} (h : netOk ns ps) (h2 : (0 ≤ a ∧ a < ns.length) ∧ (0 ≤ b ∧ b < ns.length)) (h3 : far (ps.map pe) ns.length b.toNat a.toNat < 0) : ptR ns ps a b [] 3 := ⟨by unfold ptC; rw [if_pos h, if_pos h2, if_pos h3], fun h => absurd h (by omega), fun _ => rfl⟩
theorem pt_0 {ns : List Int} {ps : List Pi} {a b : Int} {L : List Int} (h : netOk ns ps) (h2 : (0 ≤ a ∧ a < ns.length) ∧ (0 ≤ b ∧ b < ns.length)) (h3 : ¬ far (ps.map pe) ns.length b.toNat a.toNat < 0) (hL : PW ns ps a b b L) : ptR ns ps a b L 0 := ⟨by unfold ptC; rw [if_pos h, if_pos h2, if_neg h3], fun _ => hL, fun h => absurd rfl h⟩
/-- Somewhere there is a pipe that leads nearer. -/
theorem pt_ex {ns : List Int} {ps : List Pi} {b : Int} {u : Nat} (ok : netOk ns ps) (hb : 0 ≤ b ∧ b < ns.length) (hu : u < ns.length) (hf : 0 ≤ far (ps.map pe) ns.length b.toNat u) (hn : ¬ (u : Int) = b) : 1 ≤ far (ps.map pe) ns.length b.toNat u ∧ ∃ (k : Nat) (p : Pi) (x : Nat), ps[k]? = some p ∧ nxt (pe p) u = some x ∧ x < ns.length ∧ far (ps.map pe) ns.length b.toNat x = far (ps.map pe) ns.length b.toNat u - 1 := by
  have hF := far_ok (es := ps.map pe) (n := ns.length) (t := b.toNat) (esF_lt ok) (by omega)
  obtain ⟨e, he, x, hx, hxn, h1, h2⟩ := hF.ps u hu hf (by omega)
  obtain ⟨p, hp, rfl⟩ := List.mem_map.1 he
  obtain ⟨k, hk⟩ := List.getElem?_of_mem hp
  exact ⟨by omega, k, p, x, hk, hx, hxn, by omega⟩
theorem farG {ns : List Int} {ps : List Pi} {b : Int} {v : Nat} {k : Int} (hk : k = (v : Int)) (h : v < ns.length) : ((frR ns.length b.toNat (waysF (ps.map pe) ns.length b.toNat).2).map ci)[k.toNat]? = some (ci (far (ps.map pe) ns.length b.toNat v)) := frG hk h
theorem nx_fv {p : Pi} {u : Nat} {x : Int} (h : nxt (pe p) u = some x.toNat) (hf : p.fm = (u : Int)) (hx : 0 ≤ x) (ht : 0 ≤ p.tt) : p.tt = x := by
  rw [nx_f hf] at h
  have := Option.some.inj h
  omega
theorem nx_tv {p : Pi} {u : Nat} {x : Int} (h : nxt (pe p) u = some x.toNat) (hf : ¬ p.fm = (u : Int)) (hx : 0 ≤ x) (ht : 0 ≤ p.fm) : p.fm = x := by
  have h0 := h
  unfold nxt pe at h
  simp only at h
  rw [if_neg (by omega)] at h
  split at h
  · have := Option.some.inj h; omega
  · cases h
def rAt (xs : List Int) (lo hi : Int) (j : Nat) (q : Int) : Prop := (lo ≤ q ∧ q ≤ hi) ∧ ∀ p, 0 < j → xs[j - 1]? = some p → p < q
def risesP (xs : List Int) (lo hi : Int) : Prop := ∀ (j : Nat) (q : Int), xs[j]? = some q → rAt xs lo hi j q
def inAt (xs : List Int) (j : Nat) (q : Int) : Prop := ∀ p, 0 < j → xs[j - 1]? = some p → p < q
def incP (xs : List Int) : Prop := ∀ (j : Nat) (q : Int), xs[j]? = some q → inAt xs j q
noncomputable instance (xs : List Int) (lo hi : Int) : Decidable (risesP xs lo hi) := Classical.propDecidable _
noncomputable instance (xs : List Int) : Decidable (incP xs) := Classical.propDecidable _
theorem rises_of {xs : List Int} {lo hi : Int} (h : incP xs) (h2 : within xs lo hi) : risesP xs lo hi := fun j q hq => ⟨h2 j q hq, h j q hq⟩
theorem rises_inc {xs : List Int} {lo hi : Int} (h : risesP xs lo hi) : incP xs := fun j q hq => (h j q hq).2
theorem rises_in {xs : List Int} {lo hi : Int} (h : risesP xs lo hi) : within xs lo hi := fun j q hq => (h j q hq).1
def rnS (L : List Pi) (k lo : Int) : List Pi := match L[k.toNat]? with
  | some p => L.set k.toNat { p with lo := if p.lo < lo then p.lo else lo }
  | none => L
theorem rnS_len {L : List Pi} {k lo : Int} : (rnS L k lo).length = L.length := by unfold rnS; split <;> simp
def rnL (ps : List Pi) (ks : List Int) (lo : Int) : Nat → List Pi
  | 0 => ps
  | i + 1 => match ks[i]? with
    | some k => rnS (rnL ps ks lo i) k lo
    | none => rnL ps ks lo i
theorem rnL_len {ps : List Pi} {ks : List Int} {lo : Int} : ∀ i : Nat, (rnL ps ks lo i).length = ps.length
  | 0 => rfl
  | i + 1 => by
    unfold rnL
    split
    · rw [rnS_len, rnL_len i]
    · exact rnL_len i
theorem rnL_step {ps : List Pi} {ks : List Int} {lo k v : Int} {i : Nat} {p : Pi} (hk : ks[i]? = some k) (hp : (rnL ps ks lo i)[k.toNat]? = some p) (hv : v = if p.lo < lo then p.lo else lo) :
    ((rnL ps ks lo i).map piA).set k.toNat (setE (piA p) 5 (.s (.int .i64 v))) = (rnL ps ks lo (i + 1)).map piA := by
  subst hv
  rw [rnL, hk]
  simp only [rnS, hp, List.map_set]
  rfl
noncomputable def rnC (ns : List Int) (ps : List Pi) (ks : List Int) (lo : Int) : Int := if netOk ns ps then (if risesP ks 0 ((ps.length : Int) - 1) ∧ (0 ≤ lo ∧ lo ≤ 5000) then 0 else 2) else 1
noncomputable def rnN (ns : List Int) (ps : List Pi) (ks : List Int) (lo : Int) : List Int := if rnC ns ps ks lo = 0 then ns else []
noncomputable def rnP (ns : List Int) (ps : List Pi) (ks : List Int) (lo : Int) : List Pi := if rnC ns ps ks lo = 0 then rnL ps ks lo ks.length else []
theorem rn_1 {ns : List Int} {ps : List Pi} {ks : List Int} {lo : Int} (h : ¬ netOk ns ps) : rnC ns ps ks lo = 1 ∧ rnN ns ps ks lo = [] ∧ rnP ns ps ks lo = [] := by
  have e : rnC ns ps ks lo = 1 := by unfold rnC; rw [if_neg h]
  exact ⟨e, by unfold rnN; rw [if_neg (by omega)], by unfold rnP; rw [if_neg (by omega)]⟩
theorem rn_2 {ns : List Int} {ps : List Pi} {ks : List Int} {lo : Int} (h : netOk ns ps) (h2 : ¬ (risesP ks 0 ((ps.length : Int) - 1) ∧ (0 ≤ lo ∧ lo ≤ 5000))) : rnC ns ps ks lo = 2 ∧ rnN ns ps ks lo = [] ∧ rnP ns ps ks lo = [] := by
  have e : rnC ns ps ks lo = 2 := by unfold rnC; rw [if_pos h, if_neg h2]
  exact ⟨e, by unfold rnN; rw [if_neg (by omega)], by unfold rnP; rw [if_neg (by omega)]⟩
theorem rn_0 {ns : List Int} {ps : List Pi} {ks : List Int} {lo : Int} (h : netOk ns ps) (h2 : risesP ks 0 ((ps.length : Int) - 1) ∧ (0 ≤ lo ∧ lo ≤ 5000)) : rnC ns ps ks lo = 0 ∧ rnN ns ps ks lo = ns ∧ rnP ns ps ks lo = rnL ps ks lo ks.length := by
  have e : rnC ns ps ks lo = 0 := by unfold rnC; rw [if_pos h, if_pos h2]
  exact ⟨e, by unfold rnN; rw [if_pos e], by unfold rnP; rw [if_pos e]⟩
theorem rnN_len {ns : List Int} {ps : List Pi} {ks : List Int} {lo : Int} : (rnN ns ps ks lo).length ≤ ns.length := by unfold rnN; split <;> simp
theorem rnP_len {ns : List Int} {ps : List Pi} {ks : List Int} {lo : Int} : (rnP ns ps ks lo).length ≤ ps.length := by
  unfold rnP; split
  · rw [rnL_len]; omega
  · simp
def cb (n : Int) : AV := .s (.int .u8 n)
def src (cs : List Int) (a s : Int) : List AV := [.lst 1 (cs.map cb), .s (.int .i64 a), .s (.int .u64 s)]
theorem repC {n : Nat} : List.replicate n (zelem [AV.s (.int .i64 0)]) = (List.replicate n (0 : Int)).map ci := by rw [List.map_replicate]; rfl
def byteL (cs : List Int) : Prop := ∀ x ∈ cs, 0 ≤ x ∧ x ≤ 255
theorem and255 {x n : Int} (h : n = bitsI .and .u64 x 255) : 0 ≤ n ∧ n ≤ 255 := by
  subst h
  simp only [bitsI]
  have h1 : ((BitVec.ofInt IntKind.u64.bits x) &&& (BitVec.ofInt IntKind.u64.bits 255)).toNat ≤ 255 := by
    rw [BitVec.toNat_and]
    exact Nat.le_trans Nat.and_le_right (by decide)
  generalize ((BitVec.ofInt IntKind.u64.bits x) &&& (BitVec.ofInt IntKind.u64.bits 255)).toNat = m at h1
  have e : IntKind.u64.wrap (m : Int) = (m : Int) % 18446744073709551616 := by simp [IntKind.wrap, IntKind.bits, IntKind.signed]
  rw [e]; omega
def ecE (cl : List Int) (i : Nat) (p : Pi) : Nat × Nat := if (i : Int) ∈ cl then (0, 0) else pe p
def esC (ps : List Pi) (cl : List Int) : List (Nat × Nat) := ps.mapIdx (ecE cl)
theorem esC_g {ps : List Pi} {cl : List Int} {i : Nat} {p : Pi} (h : ps[i]? = some p) : (esC ps cl)[i]? = some (ecE cl i p) := by
  unfold esC; rw [List.getElem?_mapIdx, h]; rfl
theorem esC_len {ps : List Pi} {cl : List Int} : (esC ps cl).length = ps.length := by simp [esC]
theorem esC_lt {ns : List Int} {ps : List Pi} {cl : List Int} (h : netOk ns ps) : ∀ e ∈ esC ps cl, e.1 < ns.length ∧ e.2 < ns.length := fun e he => by
  obtain ⟨i, hi⟩ := List.getElem?_of_mem he
  have hl := (List.getElem?_eq_some_iff.1 hi).1
  rw [esC_len] at hl
  have hp : ps[i]? = some ps[i] := List.getElem?_eq_getElem hl
  rw [esC_g hp] at hi
  cases hi
  have h16 := h.1.1
  unfold ecE
  split
  · exact ⟨by show 0 < ns.length; omega, by show 0 < ns.length; omega⟩
  · exact esF_lt h _ (List.mem_map_of_mem (List.mem_of_getElem? hp))
theorem bfC_d {ps : List Pi} {cl : List Int} {i u : Nat} {p : Pi} {v : List Nat} (h : ps[i]? = some p) : bfI ((esC ps cl).drop i) u v = bfI ((esC ps cl).drop (i + 1)) u (bfE u v (ecE cl i p)) := by
  obtain ⟨hl, he⟩ := List.getElem?_eq_some_iff.1 (esC_g (cl := cl) h)
  rw [List.drop_eq_getElem_cons hl, he]; rfl
theorem bfC_end {ps : List Pi} {cl : List Int} {i u : Nat} {v : List Nat} (h : ps.length ≤ i) : bfI ((esC ps cl).drop i) u v = v := by
  rw [List.drop_of_length_le (by rw [esC_len]; exact h)]; rfl
theorem ec_C {cl : List Int} {i u : Nat} {p : Pi} {v : List Nat} (h : (i : Int) ∈ cl) (hu : u ∈ v) : bfE u v (ecE cl i p) = v := by
  have e : ecE cl i p = (0, 0) := if_pos h
  rw [e]
  by_cases c : u = 0
  · subst c; exact bfE_M (x := 0) rfl hu
  · exact bfE_F (by unfold nxt; simp [c])
theorem ec_F {cl : List Int} {i u : Nat} {p : Pi} {v : List Nat} (hu : u ∈ v) (h : nxt (pe p) u = none) : bfE u v (ecE cl i p) = v := by
  by_cases c : (i : Int) ∈ cl
  · exact ec_C c hu
  · have e : ecE cl i p = pe p := if_neg c
    rw [e]; exact bfE_F h
theorem srI_pw (L : List Int) : (srtI L).Pairwise (· ≤ ·) := (List.pairwise_mergeSort (le := fun x y => decide (x ≤ y)) (fun a b c h1 h2 => by simp at *; omega) (fun a b => by simp; omega) L).imp (fun h => by simpa using h)
theorem srI_perm (L : List Int) : (srtI L).Perm L := List.mergeSort_perm _ _
def rcS (ns : List Int) (ps : List Pi) (cl : List Int) (s : Nat) : List Int := srtI (toI (found (esC ps cl) ns.length s))
theorem rcS_mem {ns : List Int} {ps : List Pi} {cl : List Int} {s : Nat} {x : Int} (ok : netOk ns ps) (hs : s < ns.length) : x ∈ rcS ns ps cl s ↔ 0 ≤ x ∧ Conn (esC ps cl) s x.toNat := by
  unfold rcS
  rw [(srI_perm _).mem_iff]
  unfold toI
  rw [List.mem_map]
  have h := (found_inv (esC_lt (cl := cl) ok) hs).2
  constructor
  · rintro ⟨v, hv, rfl⟩
    exact ⟨by omega, (h v).1 hv⟩
  · rintro ⟨h0, hc⟩
    exact ⟨x.toNat, (h _).2 hc, by omega⟩
theorem rcS_len {ns : List Int} {ps : List Pi} {cl : List Int} {s : Nat} (ok : netOk ns ps) (hs : s < ns.length) : (rcS ns ps cl s).length ≤ ns.length := by
  unfold rcS
  have hi := (found_inv (esC_lt (cl := cl) ok) hs).1
  rw [(srI_perm _).length_eq, toI_len]
  exact len_le _ hi.nd hi.lt
theorem rcS_rises {ns : List Int} {ps : List Pi} {cl : List Int} {s : Nat} (ok : netOk ns ps) (hs : s < ns.length) {i : Nat} {x : Int} (hx : (rcS ns ps cl s)[i]? = some x) : (0 ≤ x ∧ x < ns.length) ∧ ∀ y, 0 < i → (rcS ns ps cl s)[i - 1]? = some y → y < x := by
  have hi := (found_inv (esC_lt (cl := cl) ok) hs).1
  have hm := List.mem_of_getElem? hx
  have hp := srI_perm (toI (found (esC ps cl) ns.length s))
  refine ⟨?_, fun y h0 hy => ?_⟩
  · have := (hp.mem_iff).1 hm
    unfold toI at this
    obtain ⟨v, hv, rfl⟩ := List.mem_map.1 this
    have := hi.lt v hv
    omega
  · have hpw := srI_pw (toI (found (esC ps cl) ns.length s))
    have hnd : (rcS ns ps cl s).Nodup := by
      refine hp.nodup_iff.2 ?_
      unfold toI
      exact List.Pairwise.map _ (fun a b h => by omega) hi.nd
    obtain ⟨l1, e1⟩ := List.getElem?_eq_some_iff.1 hx
    obtain ⟨l2, e2⟩ := List.getElem?_eq_some_iff.1 hy
    have h1 := List.pairwise_iff_getElem.1 hpw (i - 1) i l2 l1 (by omega)
    have h2 := List.pairwise_iff_getElem.1 hnd (i - 1) i l2 l1 (by omega)
    have e1' : (srtI (toI (found (esC ps cl) ns.length s)))[i] = x := e1
    have e2' : (srtI (toI (found (esC ps cl) ns.length s)))[i - 1] = y := e2
    have h2' : ¬ y = x := by rw [← e1, ← e2]; exact h2
    rw [e1', e2'] at h1
    omega
theorem rcS_pipe {ns : List Int} {ps : List Pi} {cl : List Int} {s i : Nat} {p : Pi} (ok : netOk ns ps) (hs : s < ns.length) (hp : ps[i]? = some p) (hc : ¬ (i : Int) ∈ cl) : p.fm ∈ rcS ns ps cl s ↔ p.tt ∈ rcS ns ps cl s := by
  have hpo := (ok.2 i p hp).1.1
  have h1 := hpo.2.1
  have h2 := hpo.2.2.1
  have he : pe p ∈ esC ps cl := by
    have := List.mem_of_getElem? (esC_g (cl := cl) hp)
    have e : ecE cl i p = pe p := if_neg hc
    rwa [e] at this
  rw [rcS_mem ok hs, rcS_mem ok hs]
  constructor
  · rintro ⟨_, hx⟩; exact ⟨h2.1, .step hx (.inl he)⟩
  · rintro ⟨_, hx⟩; exact ⟨h1.1, .step hx (.inr he)⟩
theorem rcS_src {ns : List Int} {ps : List Pi} {cl : List Int} {s : Int} (ok : netOk ns ps) (hs : 0 ≤ s ∧ s < ns.length) : s ∈ rcS ns ps cl s.toNat := (rcS_mem ok (by omega)).2 ⟨hs.1, .rfl _⟩
noncomputable def rwC (ns : List Int) (ps : List Pi) (s : Int) (cl : List Int) : Int := if netOk ns ps then (if (0 ≤ s ∧ s < ns.length) ∧ risesP cl 0 ((ps.length : Int) - 1) then 0 else 2) else 1
noncomputable def rwR (ns : List Int) (ps : List Pi) (s : Int) (cl : List Int) : List Int := if rwC ns ps s cl = 0 then rcS ns ps cl s.toNat else []
theorem rw_0 {ns : List Int} {ps : List Pi} {s : Int} {cl : List Int} (h : netOk ns ps) (h2 : (0 ≤ s ∧ s < ns.length) ∧ risesP cl 0 ((ps.length : Int) - 1)) : rwC ns ps s cl = 0 ∧ rwR ns ps s cl = rcS ns ps cl s.toNat := by
  have e : rwC ns ps s cl = 0 := by unfold rwC; rw [if_pos h, if_pos h2]
  exact ⟨e, if_pos e⟩
theorem rw_1 {ns : List Int} {ps : List Pi} {s : Int} {cl : List Int} (h : ¬ netOk ns ps) : rwC ns ps s cl = 1 ∧ rwR ns ps s cl = [] := by
  have e : rwC ns ps s cl = 1 := if_neg h
  exact ⟨e, if_neg (by omega)⟩
theorem rw_2 {ns : List Int} {ps : List Pi} {s : Int} {cl : List Int} (h : netOk ns ps) (h2 : ¬ ((0 ≤ s ∧ s < ns.length) ∧ risesP cl 0 ((ps.length : Int) - 1))) : rwC ns ps s cl = 2 ∧ rwR ns ps s cl = [] := by
  have e : rwC ns ps s cl = 2 := by unfold rwC; rw [if_pos h, if_neg h2]
  exact ⟨e, if_neg (by omega)⟩
theorem rw_ok {ns : List Int} {ps : List Pi} {s : Int} {cl : List Int} (h : rwC ns ps s cl = 0) : netOk ns ps ∧ (0 ≤ s ∧ s < ns.length) := by
  unfold rwC at h
  split at h
  · split at h
    · rename_i h1 h2; exact ⟨h1, h2.1⟩
    · omega
  · omega
def idL : List ByteArray := [⟨#[97]⟩, ⟨#[98]⟩, ⟨#[99]⟩, ⟨#[100]⟩, ⟨#[101]⟩, ⟨#[102]⟩, ⟨#[103]⟩, ⟨#[104]⟩, ⟨#[105]⟩, ⟨#[106]⟩, ⟨#[107]⟩, ⟨#[108]⟩]
def dpB (p : Pi) : Prop := (20 ≤ p.le ∧ p.le ≤ 919) ∧ (60 ≤ p.di ∧ p.di ≤ 440) ∧ (100 ≤ p.lo ∧ p.lo ≤ 699)
def trI (i : Nat) (p : Pi) : Prop := idL[i]? = some p.id ∧ dpB p ∧ ((p.fm = (i : Int) + 1 ∧ 0 ≤ p.tt ∧ p.tt ≤ i) ∨ (p.tt = (i : Int) + 1 ∧ 0 ≤ p.fm ∧ p.fm ≤ i))
def trA (ps : List Pi) : Prop := ∀ (i : Nat) (p : Pi), ps[i]? = some p → trI i p
theorem trA_app {ps : List Pi} {p : Pi} (h : trA ps) (hp : trI ps.length p) : trA (ps ++ [p]) := fun i q hq => by
  by_cases c : i < ps.length
  · rw [List.getElem?_append_left c] at hq; exact h i q hq
  · have hl := (List.getElem?_eq_some_iff.1 hq).1
    simp at hl
    have e : i = ps.length := by omega
    subst e
    rw [List.getElem?_append_right (Nat.le_refl _)] at hq
    simp at hq; subst hq; exact hp
def nsB (ns : List Int) : Prop := ∀ x ∈ ns, -1000 ≤ x ∧ x ≤ 2900
theorem nsB_app {ns : List Int} {x : Int} (h : nsB ns) (hx : -1000 ≤ x ∧ x ≤ 2900) : nsB (ns ++ [x]) := fun y hy => by
  rcases List.mem_append.1 hy with c | c
  · exact h y c
  · simp at c; subst c; exact hx
/-- What is told of a drawn tree. -/
structure DrT (ns : List Int) (ps : List Pi) : Prop where
  n2 : 2 ≤ ns.length
  n6 : ns.length ≤ 6
  pl : ps.length + 1 = ns.length
  nb : nsB ns
  tr : trA ps
theorem idL_ok : ∀ i : Nat, i < 12 → ∃ t, idL[i]? = some t ∧ isName t = true ∧ t.size ≤ 1 ∧ ∀ s, 0 < i → idL[i - 1]? = some s → idLt s t := by
  intro i hi
  rcases (by omega : i = 0 ∨ i = 1 ∨ i = 2 ∨ i = 3 ∨ i = 4 ∨ i = 5 ∨ i = 6 ∨ i = 7 ∨ i = 8 ∨ i = 9 ∨ i = 10 ∨ i = 11) with h | h | h | h | h | h | h | h | h | h | h | h <;> subst h <;> refine ⟨_, rfl, by decide +kernel, by decide +kernel, fun s hs he => ?_⟩ <;> first | omega | (cases he; unfold idLt; decide +kernel)
theorem DrT.net {ns : List Int} {ps : List Pi} (h : DrT ns ps) : netOk ns ps := by
  have h2 := h.n2
  have h6 := h.n6
  have hl := h.pl
  refine ⟨⟨⟨by omega, by omega⟩, fun j q hq => ?_, by omega⟩, fun j x hx => ?_⟩
  · have := h.nb q (List.mem_of_getElem? hq); omega
  · have hj := (List.getElem?_eq_some_iff.1 hx).1
    obtain ⟨t1, ⟨t2, t3, t4⟩, t5⟩ := h.tr j x hx
    obtain ⟨t, u1, u2, _, u3⟩ := idL_ok j (by omega)
    have e : t = x.id := by rw [t1] at u1; exact (Option.some.inj u1).symm
    subst e
    refine ⟨⟨⟨u2, by omega, by omega, by omega, by omega, by omega, by omega⟩, by omega, by omega⟩, fun y h0 hy => ?_⟩
    exact u3 _ h0 (h.tr (j - 1) y hy).1
theorem DrT.tree {ns : List Int} {ps : List Pi} (h : DrT ns ps) : treeP ns ps := by
  refine ⟨h.pl, fun v hv => ?_⟩
  induction v using Nat.strongRecOn with
  | _ v ih =>
    cases v with
    | zero => exact .rfl _
    | succ i =>
      have hl := h.pl
      have hi : i < ps.length := by omega
      have hp : ps[i]? = some ps[i] := List.getElem?_eq_getElem hi
      have hm : pe ps[i] ∈ ps.map pe := List.mem_map_of_mem (List.getElem_mem hi)
      obtain ⟨_, _, h3 | h3⟩ := h.tr i _ hp
      · refine .step (ih (ps[i]).tt.toNat (by omega) (by omega)) (.inr ?_)
        have e : (i + 1, (ps[i]).tt.toNat) = pe ps[i] := by unfold pe; rw [h3.1]; congr 1
        rw [e]; exact hm
      · refine .step (ih (ps[i]).fm.toNat (by omega) (by omega)) (.inl ?_)
        have e : ((ps[i]).fm.toNat, i + 1) = pe ps[i] := by unfold pe; rw [h3.1]; congr 1
        rw [e]; exact hm
theorem DrT.idz {ns : List Int} {ps : List Pi} (h : DrT ns ps) : idSz ps := fun j x hx => by
  have hj := (List.getElem?_eq_some_iff.1 hx).1
  have hl := h.pl
  have h6 := h.n6
  obtain ⟨t, u1, _, u2, _⟩ := idL_ok j (by omega)
  have e : t = x.id := by rw [(h.tr j x hx).1] at u1; exact (Option.some.inj u1).symm
  rw [← e]; omega
def sAV (s : ByteArray) : AV := .s (.string s)
theorem idG {i : Nat} {k : Int} {nm : ByteArray} (h : idL[i]? = some nm) (hk : k = (i : Int)) : (idL.map sAV)[k.toNat]? = some (.s (.string nm)) := by
  rw [show k.toNat = i by omega, List.getElem?_map, h]; rfl
theorem ex_6 {α β γ δ ε ζ : Type} {R F : α × β × γ × δ × ε × ζ → Prop} {v : α} {a : β} {b : γ} {c : δ} {d : ε} {e : ζ} (hF : F (v, a, b, c, d, e)) (hR : R (v, a, b, c, d, e)) : ∃ x, R x ∧ F x := ⟨_, hR, hF⟩
theorem idZ_app {qs : List Pi} {v : Pi} (h : idSz qs) (hv : v.id.size ≤ 100) : idSz (qs ++ [v]) := fun j x hx => by
  rcases Nat.lt_or_ge j qs.length with hl | hl
  · rw [List.getElem?_append_left hl] at hx; exact h j x hx
  · rw [List.getElem?_append_right hl] at hx
    have hm := List.mem_of_getElem? hx
    simp at hm; subst hm; omega
theorem idZ_dt {W : List Pi} {j m : Nat} (h : idSz W) : idSz ((W.drop j).take m) := fun i x hx => by
  have hm := List.mem_of_mem_drop (List.mem_of_mem_take (List.mem_of_getElem? hx))
  obtain ⟨k, hk⟩ := List.getElem?_of_mem hm
  exact h k x hk
theorem idL_sz {i : Nat} {nm : ByteArray} (h : idL[i]? = some nm) : nm.size ≤ 1 := by
  have hl : i < 12 := (List.getElem?_eq_some_iff.1 h).1
  obtain ⟨t, u1, _, u2, _⟩ := idL_ok i hl
  rw [u1] at h; cases h; exact u2
theorem app_Q {W : List Pi} {v : Pi} {j m j' : Nat} {A : List AV} (h : j + m = W.length ∧ W.length ≤ 12) (hz : idSz W) (hv : v.id.size ≤ 100) (hW : A = W.map piA ++ [piA v] ∧ j' = j ∨ A = (W.map piA).drop j ++ [piA v] ∧ j' = 0) : ∃ Q : List Pi, A = Q.map piA ∧ j' + (m + 1) = Q.length ∧ Q.length ≤ 13 ∧ idSz Q := by
  rcases hW with ⟨e1, e2⟩ | ⟨e1, e2⟩
  · exact ⟨W ++ [v], by rw [e1, List.map_append]; rfl, by simp; omega, by simp; omega, idZ_app hz hv⟩
  · refine ⟨W.drop j ++ [v], by rw [e1, List.map_append, List.map_drop]; rfl, by simp; omega, by simp; omega, idZ_app (fun i x hx => ?_) hv⟩
    have hm := List.mem_of_mem_drop (List.mem_of_getElem? hx)
    obtain ⟨k, hk⟩ := List.getElem?_of_mem hm
    exact hz k x hk
theorem l1_size {c : UInt8} : (⟨#[c]⟩ : ByteArray).size = 1 := rfl
theorem sz_app {a b c : ByteArray} (h : a = b ++ c) : a.size = b.size + c.size := by rw [h, ByteArray.size_append]
theorem pt_ok {ns : List Int} {ps : List Pi} {a b c : Int} {L : List Int} (h : ptR ns ps a b L c) (h0 : c = 0) : netOk ns ps ∧ ((0 ≤ a ∧ a < ns.length) ∧ (0 ≤ b ∧ b < ns.length)) ∧ 0 ≤ far (ps.map pe) ns.length b.toNat a.toNat ∧ PW ns ps a b b L := by
  obtain ⟨h1, h2, _⟩ := h
  have e := h1.symm.trans h0
  unfold ptC at e
  split at e
  · split at e
    · split at e
      · omega
      · exact ⟨by assumption, by assumption, by omega, h2 h0⟩
    · omega
  · omega
theorem pt_len {ns : List Int} {ps : List Pi} {a b : Int} {L : List Int} (ok : netOk ns ps) (hb : 0 ≤ b ∧ b < ns.length) (h : PW ns ps a b b L) : (L.length : Int) = far (ps.map pe) ns.length b.toNat a.toNat := by
  obtain ⟨P, h0, hl, ht, hi⟩ := h
  have h1 := (hi L.length (Nat.le_refl _)).2.1
  rw [hl] at h1
  have hz := (far_ok (es := ps.map pe) (n := ns.length) (t := b.toNat) (esF_lt ok) (by omega)).z
  omega
theorem pt_c {ns : List Int} {ps : List Pi} {a b c : Int} {L : List Int} (ok : netOk ns ps) (hab : (0 ≤ a ∧ a < ns.length) ∧ (0 ≤ b ∧ b < ns.length)) (hf : 0 ≤ far (ps.map pe) ns.length b.toNat a.toNat) (h : ptR ns ps a b L c) : c = 0 ∧ (L.length : Int) = far (ps.map pe) ns.length b.toNat a.toNat := by
  have e : c = 0 := by
    rw [h.1]; unfold ptC
    rw [if_pos ok, if_pos hab, if_neg (by omega)]
  exact ⟨e, pt_len ok hab.2 (h.2.1 e)⟩
theorem pt_back {ns : List Int} {ps : List Pi} {a b c : Int} {L L2 : List Int} (ok : netOk ns ps) (hab : (0 ≤ a ∧ a < ns.length) ∧ (0 ≤ b ∧ b < ns.length)) (hf : 0 ≤ far (ps.map pe) ns.length b.toNat a.toNat) (hL : PW ns ps a b b L) (h : ptR ns ps b a L2 c) : c = 0 ∧ L2.length = L.length := by
  have hs := far_sym (es := ps.map pe) (n := ns.length) (s := a.toNat) (t := b.toNat) (esF_lt ok) (by omega) (by omega) hf
  have h1 := pt_c ok ⟨hab.2, hab.1⟩ (by rw [hs]; exact hf) h
  have h2 := pt_len ok hab.2 hL
  refine ⟨h1.1, ?_⟩
  have h3 := h1.2
  rw [hs] at h3
  omega
theorem TrW_take {ps : List Pi} {L : List Int} {P : Nat → Int} {i : Nat} (h : TrW ps L P) : TrW ps (L.take i) P := fun j x hx => by
  have hj := (List.getElem?_eq_some_iff.1 hx).1
  rw [List.length_take] at hj
  rw [List.getElem?_take, if_pos (by omega)] at hx
  exact h j x hx
theorem pw_iff {ns : List Int} {ps : List Pi} {a b : Int} {L : List Int} {P : Nat → Int} (ok : netOk ns ps) (hb : 0 ≤ b ∧ b < ns.length) (h0 : P 0 = a) (hl : P L.length = b) (hL : (L.length : Int) = far (ps.map pe) ns.length b.toNat a.toNat) : L.length = 0 ↔ a = b := by
  constructor
  · intro h; rw [h] at hl; omega
  · intro h
    subst h
    have hz := (far_ok (es := ps.map pe) (n := ns.length) (t := a.toNat) (esF_lt ok) (by omega)).z
    omega
theorem rwR_0 {ns : List Int} {ps : List Pi} {s : Int} {cl : List Int} (h : ¬ rwC ns ps s cl = 0) : (rwR ns ps s cl).length = 0 := by
  have e : rwR ns ps s cl = [] := if_neg h
  rw [e]; rfl
theorem rwR_e {ns : List Int} {ps : List Pi} {s : Int} {cl : List Int} (h : rwC ns ps s cl = 0) : rwR ns ps s cl = rcS ns ps cl s.toNat := if_pos h
theorem rwR_le {ns : List Int} {ps : List Pi} {s : Int} {cl : List Int} : (rwR ns ps s cl).length ≤ ns.length := by
  by_cases h : rwC ns ps s cl = 0
  · rw [rwR_e h]; exact rcS_len (rw_ok h).1 (by have := (rw_ok h).2; omega)
  · rw [rwR_0 h]; omega
theorem rwR_rises {ns : List Int} {ps : List Pi} {s n : Int} {cl : List Int} (h : rwC ns ps s cl = 0) (hn : n = ns.length) : ∀ (i : Nat) (x : Int), (rwR ns ps s cl)[i]? = some x → (0 ≤ x ∧ x < n) ∧ ∀ y, 0 < i → (rwR ns ps s cl)[i - 1]? = some y → y < x := fun i x hx => by
  subst hn
  rw [rwR_e h] at hx ⊢
  exact rcS_rises (rw_ok h).1 (by have := (rw_ok h).2; omega) hx
theorem rwR_src {ns : List Int} {ps : List Pi} {s : Int} {cl : List Int} (h : rwC ns ps s cl = 0) : s ∈ rwR ns ps s cl := by
  rw [rwR_e h]; exact rcS_src (rw_ok h).1 (rw_ok h).2
theorem rwR_pipe {ns : List Int} {ps : List Pi} {s : Int} {cl : List Int} {i : Nat} {p : Pi} (h : rwC ns ps s cl = 0) (hp : ps[i]? = some p) (hc : ¬ (i : Int) ∈ cl) : p.fm ∈ rwR ns ps s cl ↔ p.tt ∈ rwR ns ps s cl := by
  rw [rwR_e h]; exact rcS_pipe (rw_ok h).1 (by have := (rw_ok h).2; omega) hp hc
theorem fO154_0 : fOff Try.prog 154 0 = some 0 := by kernel_rfl
theorem fO154_1 : fOff Try.prog 154 1 = some 1 := by kernel_rfl
theorem fO154_2 : fOff Try.prog 154 2 = some 2 := by kernel_rfl
theorem fO31_0 : fOff Try.prog 31 0 = some 0 := by kernel_rfl
theorem fO31_1 : fOff Try.prog 31 1 = some 1 := by kernel_rfl
theorem fO59_0 : fOff Try.prog 59 0 = some 0 := by kernel_rfl
theorem fO59_1 : fOff Try.prog 59 1 = some 1 := by kernel_rfl
theorem fO59_2 : fOff Try.prog 59 2 = some 2 := by kernel_rfl
theorem fO59_3 : fOff Try.prog 59 3 = some 3 := by kernel_rfl
theorem fO59_4 : fOff Try.prog 59 4 = some 4 := by kernel_rfl
theorem fO59_5 : fOff Try.prog 59 5 = some 5 := by kernel_rfl
theorem hmix : Try.prog.follows .mixedOrders = true := by kernel_rfl
theorem pl154 : placesA Try.prog 154 = some [(0, 1), (1, 1), (2, 1)] := by kernel_rfl
theorem pl31 : placesA Try.prog 31 = some [(0, 1), (1, 1)] := by kernel_rfl
theorem pl59 : placesA Try.prog 59 = some [(0, 1), (1, 1), (2, 1), (3, 1), (4, 1), (5, 1)] := by kernel_rfl
theorem sz152 : tSz Try.prog 152 = some 1 := by kernel_rfl
theorem sz2 : tSz Try.prog 2 = some 1 := by kernel_rfl
theorem sz22 : tSz Try.prog 22 = some 1 := by kernel_rfl
theorem sz29 : tSz Try.prog 29 = some 1 := by kernel_rfl
theorem sz3 : tSz Try.prog 3 = some 1 := by kernel_rfl
theorem sz31 : tSz Try.prog 31 = some 2 := by kernel_rfl
theorem sz59 : tSz Try.prog 59 = some 6 := by kernel_rfl
theorem sz9 : tSz Try.prog 9 = some 1 := by kernel_rfl
theorem tA152 : tAgg Try.prog 152 = some none := by kernel_rfl
theorem tA2 : tAgg Try.prog 2 = some none := by kernel_rfl
theorem tA22 : tAgg Try.prog 22 = some none := by kernel_rfl
theorem tA29 : tAgg Try.prog 29 = some none := by kernel_rfl
theorem tA3 : tAgg Try.prog 3 = some none := by kernel_rfl
theorem tA31 : tAgg Try.prog 31 = some (some 2) := by kernel_rfl
theorem tA39 : tAgg Try.prog 39 = some none := by kernel_rfl
theorem tA5 : tAgg Try.prog 5 = some none := by kernel_rfl
theorem tA59 : tAgg Try.prog 59 = some (some 6) := by kernel_rfl
theorem tA9 : tAgg Try.prog 9 = some none := by kernel_rfl
theorem tApp22 : tApp Try.prog 22 = some (2, 1, 8) := by kernel_rfl
theorem tApp29 : tApp Try.prog 29 = some (59, 6, 56) := by kernel_rfl
theorem tB4 : tIsBool Try.prog 4 = true := by kernel_rfl
theorem tBy2 : tBytes Try.prog 2 = some 8 := by kernel_rfl
theorem tByS39 : tIsBytes Try.prog 39 = true := by kernel_rfl
theorem tE155 : tElem Try.prog 155 = some (9, 1) := by kernel_rfl
theorem tE22 : tElem Try.prog 22 = some (2, 1) := by kernel_rfl
theorem tE29 : tElem Try.prog 29 = some (59, 6) := by kernel_rfl
theorem tE39 : tElem Try.prog 39 = some (5, 1) := by kernel_rfl
theorem tEs155 : (tElem Try.prog 155).isSome = true := by kernel_rfl
theorem tEs22 : (tElem Try.prog 22).isSome = true := by kernel_rfl
theorem tEs29 : (tElem Try.prog 29).isSome = true := by kernel_rfl
theorem tEs39 : (tElem Try.prog 39).isSome = true := by kernel_rfl
theorem tK152 : tKind Try.prog 152 = some .u64 := by kernel_rfl
theorem tK2 : tKind Try.prog 2 = some .i64 := by kernel_rfl
theorem tK3 : tKind Try.prog 3 = some .i64 := by kernel_rfl
theorem tK5 : tKind Try.prog 5 = some .u8 := by kernel_rfl
theorem tStr9 : tIsStr Try.prog 9 = true := by kernel_rfl
theorem zA154 : zeroA Try.prog 154 = some [.nil, .s (.int .i64 0), .s (.int .u64 0)] := by kernel_rfl
theorem zA2 : zeroA Try.prog 2 = some [.s (.int .i64 0)] := by kernel_rfl
theorem zA31 : zeroA Try.prog 31 = some [.nil, .nil] := by kernel_rfl
theorem zA5 : zeroA Try.prog 5 = some [.s (.int .u8 0)] := by kernel_rfl
theorem zA59 : zeroA Try.prog 59 = some [.s (.string ⟨#[]⟩), .s (.int .i64 0), .s (.int .i64 0), .s (.int .i64 0), .s (.int .i64 0), .s (.int .i64 0)] := by kernel_rfl
theorem zA9 : zeroA Try.prog 9 = some [.s (.string ⟨#[]⟩)] := by kernel_rfl

-- impl.within
theorem D_impl_within (a lo hi : Int)  : Den Try.prog 125 [.s (.int .i64 a), .s (.int .i64 lo), .s (.int .i64 hi)] (.s (.bool (decide (lo ≤ a ∧ a ≤ hi)))) := by
  refine den_of_good Try.func125 (by decide) rfl (Nat.le_of_ble_eq_true rfl) (Nat.le_of_ble_eq_true rfl) ?_
  refine good_seq fun K1 hK1 => ?_
  refine gr rfl ?_
  refine ea rfl (by conv=>lhs;whnf) ?_
  refine ev_nil (hK1 _ ?_); clear hK1
  refine good_seq fun K2 hK2 => ?_
  refine gr rfl ?_
  refine em rfl (by conv=>lhs;whnf) ?_
  refine em rfl (by conv=>lhs;whnf) ?_
  refine ei rfl rfl rfl ?_
  intro b3 hb3; cases b3
  · replace hb3 := dF hb3
    refine em rfl (by conv=>lhs;whnf) ?_
    refine ev_skip rfl ?_
    refine ev_skip rfl ?_
    refine ev_skip rfl ?_
    refine ev_q rfl (q_pickF rfl (by conv=>lhs;whnf) ?_)
    refine ea rfl (by conv=>lhs;whnf) ?_
    refine ev_nil (hK2 _ ?_); clear hK2
    refine good_ret ?_
    repeat first|refine thenQ_ret ?_|refine blockQ_ret ?_
    refine ret_tmp (st := _) rfl (by conv=>lhs;whnf) rfl ?_
    first | rfl | exact fT (by first | omega | grind) | exact fF (by first | omega | grind) | exact fT' (by first | omega | grind) | (exfalso; first | omega | grind)
  · replace hb3 := dT hb3
    refine em rfl (by conv=>lhs;whnf) ?_
    refine em rfl (by conv=>lhs;whnf) ?_
    refine em rfl (by conv=>lhs;whnf) ?_
    refine ei rfl rfl rfl ?_
    intro b4 hb4; cases b4
    · replace hb4 := dF hb4
      refine ev_q rfl (q_pickT rfl (by conv=>lhs;whnf) ?_)
      refine ea rfl (by conv=>lhs;whnf) ?_
      refine ev_nil (hK2 _ ?_); clear hK2
      refine good_ret ?_
      repeat first|refine thenQ_ret ?_|refine blockQ_ret ?_
      refine ret_tmp (st := _) rfl (by conv=>lhs;whnf) rfl ?_
      first | rfl | exact fT (by first | omega | grind) | exact fF (by first | omega | grind) | exact fT' (by first | omega | grind) | (exfalso; first | omega | grind)
    · replace hb4 := dT hb4
      refine ev_q rfl (q_pickT rfl (by conv=>lhs;whnf) ?_)
      refine ea rfl (by conv=>lhs;whnf) ?_
      refine ev_nil (hK2 _ ?_); clear hK2
      refine good_ret ?_
      repeat first|refine thenQ_ret ?_|refine blockQ_ret ?_
      refine ret_tmp (st := _) rfl (by conv=>lhs;whnf) rfl ?_
      first | rfl | exact fT (by first | omega | grind) | exact fF (by first | omega | grind) | exact fT' (by first | omega | grind) | (exfalso; first | omega | grind)

-- spec.l00In
theorem D_spec_l00In (a lo hi : Int)  : Den Try.prog 99 [.s (.int .i64 a), .s (.int .i64 lo), .s (.int .i64 hi)] (.s (.bool (decide (lo ≤ a ∧ a ≤ hi)))) := by
  refine den_of_good Try.func99 (by decide) rfl (Nat.le_of_ble_eq_true rfl) (Nat.le_of_ble_eq_true rfl) ?_
  refine good_seq fun K1 hK1 => ?_
  refine gr rfl ?_
  refine ea rfl (by conv=>lhs;whnf) ?_
  refine ev_nil (hK1 _ ?_); clear hK1
  refine good_seq fun K2 hK2 => ?_
  refine gr rfl ?_
  refine em rfl (by conv=>lhs;whnf) ?_
  refine em rfl (by conv=>lhs;whnf) ?_
  refine ei rfl rfl rfl ?_
  intro b3 hb3; cases b3
  · replace hb3 := dF hb3
    refine em rfl (by conv=>lhs;whnf) ?_
    refine ev_skip rfl ?_
    refine ev_skip rfl ?_
    refine ev_skip rfl ?_
    refine ev_q rfl (q_pickF rfl (by conv=>lhs;whnf) ?_)
    refine ea rfl (by conv=>lhs;whnf) ?_
    refine ev_nil (hK2 _ ?_); clear hK2
    refine good_ret ?_
    repeat first|refine thenQ_ret ?_|refine blockQ_ret ?_
    refine ret_tmp (st := _) rfl (by conv=>lhs;whnf) rfl ?_
    first | rfl | exact fT (by first | omega | grind) | exact fF (by first | omega | grind) | exact fT' (by first | omega | grind) | (exfalso; first | omega | grind)
  · replace hb3 := dT hb3
    refine em rfl (by conv=>lhs;whnf) ?_
    refine em rfl (by conv=>lhs;whnf) ?_
    refine em rfl (by conv=>lhs;whnf) ?_
    refine ei rfl rfl rfl ?_
    intro b4 hb4; cases b4
    · replace hb4 := dF hb4
      refine ev_q rfl (q_pickT rfl (by conv=>lhs;whnf) ?_)
      refine ea rfl (by conv=>lhs;whnf) ?_
      refine ev_nil (hK2 _ ?_); clear hK2
      refine good_ret ?_
      repeat first|refine thenQ_ret ?_|refine blockQ_ret ?_
      refine ret_tmp (st := _) rfl (by conv=>lhs;whnf) rfl ?_
      first | rfl | exact fT (by first | omega | grind) | exact fF (by first | omega | grind) | exact fT' (by first | omega | grind) | (exfalso; first | omega | grind)
    · replace hb4 := dT hb4
      refine ev_q rfl (q_pickT rfl (by conv=>lhs;whnf) ?_)
      refine ea rfl (by conv=>lhs;whnf) ?_
      refine ev_nil (hK2 _ ?_); clear hK2
      refine good_ret ?_
      repeat first|refine thenQ_ret ?_|refine blockQ_ret ?_
      refine ret_tmp (st := _) rfl (by conv=>lhs;whnf) rfl ?_
      first | rfl | exact fT (by first | omega | grind) | exact fF (by first | omega | grind) | exact fT' (by first | omega | grind) | (exfalso; first | omega | grind)

-- spec.l01Small
theorem D_spec_l01Small (u : UInt8)  : Den Try.prog 178 [.s (.int .u8 u.toNat)] (.s (.bool (small u))) := by
  refine den_of_good Try.func178 (by decide) rfl (Nat.le_of_ble_eq_true rfl) (Nat.le_of_ble_eq_true rfl) ?_
  refine good_seq fun K1 hK1 => ?_
  refine gr rfl ?_
  refine ea rfl (by conv=>lhs;whnf) ?_
  refine ev_nil (hK1 _ ?_); clear hK1
  refine good_seq fun K2 hK2 => ?_
  refine gr rfl ?_
  refine em rfl (by conv=>lhs;whnf) ?_
  refine ei rfl rfl rfl ?_
  intro b3 hb3; cases b3
  · replace hb3 := dF hb3
    refine em rfl (by conv=>lhs;whnf) ?_
    refine ev_skip rfl ?_
    refine ev_skip rfl ?_
    refine ev_q rfl (q_pickF rfl (by conv=>lhs;whnf) ?_)
    refine ea rfl (by conv=>lhs;whnf) ?_
    refine ev_nil (hK2 _ ?_); clear hK2
    refine good_ret ?_
    repeat first|refine thenQ_ret ?_|refine blockQ_ret ?_
    refine ret_tmp (st := _) rfl (by conv=>lhs;whnf) rfl ?_
    exact fB (by simp only [small]; grind)
  · replace hb3 := dT hb3
    refine em rfl (by conv=>lhs;whnf) ?_
    refine em rfl (by conv=>lhs;whnf) ?_
    refine ei rfl rfl rfl ?_
    intro b4 hb4; cases b4
    · replace hb4 := dF hb4
      refine ev_q rfl (q_pickT rfl (by conv=>lhs;whnf) ?_)
      refine ea rfl (by conv=>lhs;whnf) ?_
      refine ev_nil (hK2 _ ?_); clear hK2
      refine good_ret ?_
      repeat first|refine thenQ_ret ?_|refine blockQ_ret ?_
      refine ret_tmp (st := _) rfl (by conv=>lhs;whnf) rfl ?_
      exact fB (by simp only [small]; grind)
    · replace hb4 := dT hb4
      refine ev_q rfl (q_pickT rfl (by conv=>lhs;whnf) ?_)
      refine ea rfl (by conv=>lhs;whnf) ?_
      refine ev_nil (hK2 _ ?_); clear hK2
      refine good_ret ?_
      repeat first|refine thenQ_ret ?_|refine blockQ_ret ?_
      refine ret_tmp (st := _) rfl (by conv=>lhs;whnf) rfl ?_
      exact fB (by simp only [small]; grind)

-- spec.l01Digit
theorem D_spec_l01Digit (u : UInt8)  : Den Try.prog 179 [.s (.int .u8 u.toNat)] (.s (.bool (digit u))) := by
  refine den_of_good Try.func179 (by decide) rfl (Nat.le_of_ble_eq_true rfl) (Nat.le_of_ble_eq_true rfl) ?_
  refine good_seq fun K1 hK1 => ?_
  refine gr rfl ?_
  refine ea rfl (by conv=>lhs;whnf) ?_
  refine ev_nil (hK1 _ ?_); clear hK1
  refine good_seq fun K2 hK2 => ?_
  refine gr rfl ?_
  refine em rfl (by conv=>lhs;whnf) ?_
  refine ei rfl rfl rfl ?_
  intro b3 hb3; cases b3
  · replace hb3 := dF hb3
    refine em rfl (by conv=>lhs;whnf) ?_
    refine ev_skip rfl ?_
    refine ev_skip rfl ?_
    refine ev_q rfl (q_pickF rfl (by conv=>lhs;whnf) ?_)
    refine ea rfl (by conv=>lhs;whnf) ?_
    refine ev_nil (hK2 _ ?_); clear hK2
    refine good_ret ?_
    repeat first|refine thenQ_ret ?_|refine blockQ_ret ?_
    refine ret_tmp (st := _) rfl (by conv=>lhs;whnf) rfl ?_
    exact fB (by simp only [digit]; grind)
  · replace hb3 := dT hb3
    refine em rfl (by conv=>lhs;whnf) ?_
    refine em rfl (by conv=>lhs;whnf) ?_
    refine ei rfl rfl rfl ?_
    intro b4 hb4; cases b4
    · replace hb4 := dF hb4
      refine ev_q rfl (q_pickT rfl (by conv=>lhs;whnf) ?_)
      refine ea rfl (by conv=>lhs;whnf) ?_
      refine ev_nil (hK2 _ ?_); clear hK2
      refine good_ret ?_
      repeat first|refine thenQ_ret ?_|refine blockQ_ret ?_
      refine ret_tmp (st := _) rfl (by conv=>lhs;whnf) rfl ?_
      exact fB (by simp only [digit]; grind)
    · replace hb4 := dT hb4
      refine ev_q rfl (q_pickT rfl (by conv=>lhs;whnf) ?_)
      refine ea rfl (by conv=>lhs;whnf) ?_
      refine ev_nil (hK2 _ ?_); clear hK2
      refine good_ret ?_
      repeat first|refine thenQ_ret ?_|refine blockQ_ret ?_
      refine ret_tmp (st := _) rfl (by conv=>lhs;whnf) rfl ?_
      exact fB (by simp only [digit]; grind)

-- impl.onlyNameBytes
theorem D_impl_onlyNameBytes (s : ByteArray) (hs : s.size ≤ 140737488351232) : Den Try.prog 180 [.s (.string s)] (.s (.bool (allNb s))) := by
  refine den_of_good Try.func180 (by decide) rfl (Nat.le_of_ble_eq_true rfl) (Nat.le_of_ble_eq_true rfl) ?_
  refine good_seq fun K1 hK1 => ?_
  refine gr rfl ?_
  refine ea rfl (by conv=>lhs;whnf) ?_
  refine ev_nil (hK1 _ ?_); clear hK1
  refine good_seq fun K2 hK2 => ?_
  refine good_seq fun K3 hK3 => ?_
  refine gr rfl ?_
  refine em rfl (by conv=>lhs;whnf) ?_
  refine ev_q rfl (q_lenS tStr9 rfl ?_)
  intro n4 hn4
  refine em rfl (by conv=>lhs;whnf) ?_
  refine ev_nil (hK3 _ ?_); clear hK3
  refine good_block ?_
  refine good_loop (α := Nat) (fun i => { env := upd (upd (upd ((fun _ => .junk)) 0 (.s (.string s))) 6 (.s (.int .i64 (s.size)))) 7 (.s (.int .i64 i)), H := fun _ => none }) (fun i => i ≤ s.size ∧ ∀ j u, j < i → s[j]? = some u → nbc u = true) (fun i => s.size - i) 0 ?_ ?_ ?_
  · exact ⟨by omega, fun j u hj => by omega⟩
  · refine sub_weak ?_ ?_
    · exact weakH_none _
    · refine weakE_upd ?e7 ?r7 (weakE_upd ?e6 ?r6 (weakE_upd ?e0 ?r0 (weakE_junk _ _)))
      case e0 => first | rfl | exact fI (by omega) | (simp_all)
      case r0 => intro h hh; cases hh
      case e6 => first | rfl | exact fI (by omega) | (simp_all)
      case r6 => intro h hh; cases hh
      case e7 => first | rfl | exact fI (by omega) | (simp_all)
      case r7 => intro h hh; cases hh
  · rintro i ⟨hI, hJ⟩
    refine good_seq fun K5 hK5 => ?_
    refine gr rfl ?_
    refine ei rfl rfl rfl ?_
    intro b6 hb6; cases b6
    · replace hb6 := dF hb6
      refine ev_nil (hK5 _ ?_); clear hK5
      refine good_seq fun K7 hK7 => ?_
      refine good_condF rfl ?_
      refine good_exit ?_
      repeat first|refine thenQ_exit ?_|refine blockQ_pass rfl ?_
      refine blockQ_exit (hK2 _ ?_); clear hK2
      refine good_seq fun K8 hK8 => ?_
      refine gr rfl ?_
      refine ea rfl (by conv=>lhs;whnf) ?_
      refine ev_nil (hK8 _ ?_); clear hK8
      refine good_ret ?_
      repeat first|refine thenQ_ret ?_|refine blockQ_ret ?_
      refine ret_tmp (st := _) rfl (by conv=>lhs;whnf) rfl ?_
      clear hK7
      first | exact fB (allNb_T (fun j u hj => hJ j u (by omega))).symm | exact fB (allNb_F hu (by simp only [nbc, small, digit]; grind)).symm
    · replace hb6 := dT hb6
      obtain ⟨u, hu⟩ := getB (s := s) (i := i) (by omega)
      refine ev_nil (hK5 _ ?_); clear hK5
      refine good_seq fun K9 hK9 => ?_
      refine good_condT rfl ?_
      refine good_skip (hK9 _ ?_); clear hK9
      refine good_seq fun K10 hK10 => ?_
      refine good_block ?_
      refine good_seq fun K11 hK11 => ?_
      refine gr rfl ?_
      refine em rfl (by conv=>lhs;whnf) ?_
      refine ea rfl (by conv=>lhs;whnf) ?_
      refine ev_nil (hK11 _ ?_); clear hK11
      refine good_seq fun K12 hK12 => ?_
      refine gr rfl ?_
      refine em rfl (by conv=>lhs;whnf) ?_
      refine em rfl (by conv=>lhs;whnf) ?_
      refine ev_q rfl (q_indexS tStr9 rfl rfl (by exact Int.natCast_nonneg _) (by exact hu) ?_)
      intro n13 hn13
      refine ea rfl (by conv=>lhs;whnf) ?_
      refine ev_nil (hK12 _ ?_); clear hK12
      refine good_seq fun K14 hK14 => ?_
      refine gr rfl ?_
      refine em rfl (by conv=>lhs;whnf) ?_
      refine ei rfl rfl rfl ?_
      intro b15 hb15; cases b15
      · replace hb15 := dF hb15
        refine em rfl (by conv=>lhs;whnf) ?_
        refine em rfl (by conv=>lhs;whnf) ?_
        refine ei rfl rfl rfl ?_
        intro b16 hb16; cases b16
        · replace hb16 := dF hb16
          refine ev_q rfl (q_pickF rfl (by conv=>lhs;whnf) ?_)
          refine em rfl (by conv=>lhs;whnf) ?_
          refine ev_skip rfl ?_
          refine ev_skip rfl ?_
          refine ev_skip rfl ?_
          refine ev_skip rfl ?_
          refine ev_skip rfl ?_
          refine ev_skip rfl ?_
          refine ev_q rfl (q_pickF rfl (by conv=>lhs;whnf) ?_)
          refine ev_nil (hK14 _ ?_); clear hK14
          refine good_condF rfl ?_
          refine good_skip (hK10 _ ?_); clear hK10
          refine gr rfl ?_
          refine ei rfl rfl rfl ?_
          intro n17 hn17
          replace hn17 := in64 hn17 (by omega) (by omega)
          refine em rfl (by conv=>lhs;whnf) ?_
          refine ev_nil ?_
          clear hK2
          refine ⟨i + 1, ?_, ?_, ?_⟩
          · refine ⟨by omega, fun j v hj hv => ?_⟩
            by_cases hji : j = i
            · subst hji; rw [hu] at hv; cases hv; simp only [nbc, small, digit] at *; grind
            · exact hJ j v (by omega) hv
          · first | omega | (simp only []; omega) | (dsimp only; omega)
          · refine sub_weak ?_ ?_
            · exact weakH_none _
            · refine weakE_upd ?e7 ?r7 (weakE_upd ?e6 ?r6 (weakE_upd ?e0 ?r0 (weakE_junk _ _)))
              case e0 => first | rfl | exact fI (by omega) | (simp_all)
              case r0 => intro h hh; cases hh
              case e6 => first | rfl | exact fI (by omega) | (simp_all)
              case r6 => intro h hh; cases hh
              case e7 => first | rfl | exact fI (by omega) | (simp_all)
              case r7 => intro h hh; cases hh
        · replace hb16 := dT hb16
          refine ev_q rfl (q_pickF rfl (by conv=>lhs;whnf) ?_)
          refine em rfl (by conv=>lhs;whnf) ?_
          refine em rfl (by conv=>lhs;whnf) ?_
          refine ei rfl rfl rfl ?_
          intro b18 hb18; cases b18
          · replace hb18 := dF hb18
            refine em rfl (by conv=>lhs;whnf) ?_
            refine em rfl (by conv=>lhs;whnf) ?_
            refine ei rfl rfl rfl ?_
            intro b19 hb19; cases b19
            · replace hb19 := dF hb19
              refine ev_q rfl (q_pickF rfl (by conv=>lhs;whnf) ?_)
              refine ev_q rfl (q_pickT rfl (by conv=>lhs;whnf) ?_)
              refine ev_nil (hK14 _ ?_); clear hK14
              refine good_condF rfl ?_
              refine good_skip (hK10 _ ?_); clear hK10
              refine gr rfl ?_
              refine ei rfl rfl rfl ?_
              intro n20 hn20
              replace hn20 := in64 hn20 (by omega) (by omega)
              refine em rfl (by conv=>lhs;whnf) ?_
              refine ev_nil ?_
              clear hK2
              refine ⟨i + 1, ?_, ?_, ?_⟩
              · refine ⟨by omega, fun j v hj hv => ?_⟩
                by_cases hji : j = i
                · subst hji; rw [hu] at hv; cases hv; simp only [nbc, small, digit] at *; grind
                · exact hJ j v (by omega) hv
              · first | omega | (simp only []; omega) | (dsimp only; omega)
              · refine sub_weak ?_ ?_
                · exact weakH_none _
                · refine weakE_upd ?e7 ?r7 (weakE_upd ?e6 ?r6 (weakE_upd ?e0 ?r0 (weakE_junk _ _)))
                  case e0 => first | rfl | exact fI (by omega) | (simp_all)
                  case r0 => intro h hh; cases hh
                  case e6 => first | rfl | exact fI (by omega) | (simp_all)
                  case r6 => intro h hh; cases hh
                  case e7 => first | rfl | exact fI (by omega) | (simp_all)
                  case r7 => intro h hh; cases hh
            · replace hb19 := dT hb19
              refine ev_q rfl (q_pickF rfl (by conv=>lhs;whnf) ?_)
              refine ev_q rfl (q_pickT rfl (by conv=>lhs;whnf) ?_)
              refine ev_nil (hK14 _ ?_); clear hK14
              refine good_condT rfl ?_
              refine good_seq fun K21 hK21 => ?_
              refine gr rfl ?_
              refine ea rfl (by conv=>lhs;whnf) ?_
              refine ev_nil (hK21 _ ?_); clear hK21
              refine good_ret ?_
              repeat first|refine thenQ_ret ?_|refine blockQ_ret ?_
              refine ret_tmp (st := _) rfl (by conv=>lhs;whnf) rfl ?_
              clear hK2 hK10
              first | exact fB (allNb_T (fun j u hj => hJ j u (by omega))).symm | exact fB (allNb_F hu (by simp only [nbc, small, digit]; grind)).symm
          · replace hb18 := dT hb18
            refine em rfl (by conv=>lhs;whnf) ?_
            refine ev_skip rfl ?_
            refine ev_skip rfl ?_
            refine ev_q rfl (q_pickT rfl (by conv=>lhs;whnf) ?_)
            refine ev_q rfl (q_pickT rfl (by conv=>lhs;whnf) ?_)
            refine ev_nil (hK14 _ ?_); clear hK14
            refine good_condT rfl ?_
            refine good_seq fun K22 hK22 => ?_
            refine gr rfl ?_
            refine ea rfl (by conv=>lhs;whnf) ?_
            refine ev_nil (hK22 _ ?_); clear hK22
            refine good_ret ?_
            repeat first|refine thenQ_ret ?_|refine blockQ_ret ?_
            refine ret_tmp (st := _) rfl (by conv=>lhs;whnf) rfl ?_
            clear hK2 hK10
            first | exact fB (allNb_T (fun j u hj => hJ j u (by omega))).symm | exact fB (allNb_F hu (by simp only [nbc, small, digit]; grind)).symm
      · replace hb15 := dT hb15
        refine em rfl (by conv=>lhs;whnf) ?_
        refine ev_skip rfl ?_
        refine ev_skip rfl ?_
        refine ev_q rfl (q_pickT rfl (by conv=>lhs;whnf) ?_)
        refine em rfl (by conv=>lhs;whnf) ?_
        refine em rfl (by conv=>lhs;whnf) ?_
        refine ei rfl rfl rfl ?_
        intro b23 hb23; cases b23
        · replace hb23 := dF hb23
          refine em rfl (by conv=>lhs;whnf) ?_
          refine em rfl (by conv=>lhs;whnf) ?_
          refine ei rfl rfl rfl ?_
          intro b24 hb24; cases b24
          · replace hb24 := dF hb24
            refine ev_q rfl (q_pickF rfl (by conv=>lhs;whnf) ?_)
            refine ev_q rfl (q_pickT rfl (by conv=>lhs;whnf) ?_)
            refine ev_nil (hK14 _ ?_); clear hK14
            refine good_condF rfl ?_
            refine good_skip (hK10 _ ?_); clear hK10
            refine gr rfl ?_
            refine ei rfl rfl rfl ?_
            intro n25 hn25
            replace hn25 := in64 hn25 (by omega) (by omega)
            refine em rfl (by conv=>lhs;whnf) ?_
            refine ev_nil ?_
            clear hK2
            refine ⟨i + 1, ?_, ?_, ?_⟩
            · refine ⟨by omega, fun j v hj hv => ?_⟩
              by_cases hji : j = i
              · subst hji; rw [hu] at hv; cases hv; simp only [nbc, small, digit] at *; grind
              · exact hJ j v (by omega) hv
            · first | omega | (simp only []; omega) | (dsimp only; omega)
            · refine sub_weak ?_ ?_
              · exact weakH_none _
              · refine weakE_upd ?e7 ?r7 (weakE_upd ?e6 ?r6 (weakE_upd ?e0 ?r0 (weakE_junk _ _)))
                case e0 => first | rfl | exact fI (by omega) | (simp_all)
                case r0 => intro h hh; cases hh
                case e6 => first | rfl | exact fI (by omega) | (simp_all)
                case r6 => intro h hh; cases hh
                case e7 => first | rfl | exact fI (by omega) | (simp_all)
                case r7 => intro h hh; cases hh
          · replace hb24 := dT hb24
            refine ev_q rfl (q_pickF rfl (by conv=>lhs;whnf) ?_)
            refine ev_q rfl (q_pickT rfl (by conv=>lhs;whnf) ?_)
            refine ev_nil (hK14 _ ?_); clear hK14
            refine good_condT rfl ?_
            refine good_seq fun K26 hK26 => ?_
            refine gr rfl ?_
            refine ea rfl (by conv=>lhs;whnf) ?_
            refine ev_nil (hK26 _ ?_); clear hK26
            refine good_ret ?_
            repeat first|refine thenQ_ret ?_|refine blockQ_ret ?_
            refine ret_tmp (st := _) rfl (by conv=>lhs;whnf) rfl ?_
            clear hK2 hK10
            first | exact fB (allNb_T (fun j u hj => hJ j u (by omega))).symm | exact fB (allNb_F hu (by simp only [nbc, small, digit]; grind)).symm
        · replace hb23 := dT hb23
          refine em rfl (by conv=>lhs;whnf) ?_
          refine ev_skip rfl ?_
          refine ev_skip rfl ?_
          refine ev_q rfl (q_pickT rfl (by conv=>lhs;whnf) ?_)
          refine ev_q rfl (q_pickT rfl (by conv=>lhs;whnf) ?_)
          refine ev_nil (hK14 _ ?_); clear hK14
          refine good_condT rfl ?_
          refine good_seq fun K27 hK27 => ?_
          refine gr rfl ?_
          refine ea rfl (by conv=>lhs;whnf) ?_
          refine ev_nil (hK27 _ ?_); clear hK27
          refine good_ret ?_
          repeat first|refine thenQ_ret ?_|refine blockQ_ret ?_
          refine ret_tmp (st := _) rfl (by conv=>lhs;whnf) rfl ?_
          clear hK2 hK10
          first | exact fB (allNb_T (fun j u hj => hJ j u (by omega))).symm | exact fB (allNb_F hu (by simp only [nbc, small, digit]; grind)).symm

-- impl.IsName
theorem D_impl_IsName (s : ByteArray) (hs : s.size ≤ 140737488351232) : Den Try.prog 149 [.s (.string s)] (.s (.bool (isName s))) := by
  refine den_of_good Try.func149 (by decide) rfl (Nat.le_of_ble_eq_true rfl) (Nat.le_of_ble_eq_true rfl) ?_
  refine good_seq fun K1 hK1 => ?_
  refine gr rfl ?_
  refine ea rfl (by conv=>lhs;whnf) ?_
  refine ev_nil (hK1 _ ?_); clear hK1
  refine good_seq fun K2 hK2 => ?_
  refine good_seq fun K3 hK3 => ?_
  refine gr rfl ?_
  refine em rfl (by conv=>lhs;whnf) ?_
  refine ev_q rfl (q_lenS tStr9 rfl ?_)
  intro n4 hn4
  refine ei rfl rfl rfl ?_
  intro b5 hb5; cases b5
  · replace hb5 := dF hb5
    refine em rfl (by conv=>lhs;whnf) ?_
    refine em rfl (by conv=>lhs;whnf) ?_
    refine ev_q rfl (q_lenS tStr9 rfl ?_)
    intro n6 hn6
    refine ei rfl rfl rfl ?_
    intro b7 hb7; cases b7
    · replace hb7 := dF hb7
      obtain ⟨u, hu⟩ := getB (s := s) (i := 0) (by omega)
      refine ev_q rfl (q_pickF rfl (by conv=>lhs;whnf) ?_)
      refine em rfl (by conv=>lhs;whnf) ?_
      refine em rfl (by conv=>lhs;whnf) ?_
      refine ev_q rfl (q_indexS tStr9 rfl rfl (by decide) (by exact hu) ?_)
      intro n8 hn8
      refine ei rfl rfl rfl ?_
      intro b9 hb9; cases b9
      · replace hb9 := dF hb9
        refine ev_q rfl (q_pickF rfl (by conv=>lhs;whnf) ?_)
        refine em rfl (by conv=>lhs;whnf) ?_
        refine em rfl (by conv=>lhs;whnf) ?_
        refine ev_q rfl (q_indexS tStr9 rfl rfl (by decide) (by exact hu) ?_)
        intro n10 hn10
        refine ei rfl rfl rfl ?_
        intro b11 hb11; cases b11
        · replace hb11 := dF hb11
          refine ev_q rfl (q_pickF rfl (by conv=>lhs;whnf) ?_)
          refine ev_nil (hK3 _ ?_); clear hK3
          refine good_condF rfl ?_
          refine good_skip (hK2 _ ?_); clear hK2
          refine good_seq fun K12 hK12 => ?_
          refine gr rfl ?_
          refine em rfl (by conv=>lhs;whnf) ?_
          refine ev_q rfl (q_callB rfl rfl (rfl) (D_impl_onlyNameBytes _ hs) ?_)
          intro b13 hb13; cases b13
          · first | replace hb13 := dF hb13 | skip
            refine ea rfl (by conv=>lhs;whnf) ?_
            refine ev_nil (hK12 _ ?_); clear hK12
            refine good_ret ?_
            repeat first|refine thenQ_ret ?_|refine blockQ_ret ?_
            refine ret_tmp (st := _) rfl (by conv=>lhs;whnf) rfl ?_
            first | exact fB (isName_none (by omega)).symm | exact fB (isName_long (by omega)).symm | exact fB (isName_head hu (by simp only [small]; grind)).symm | (exact fB (by rw [isName_eq (by omega) (by omega) hu (by simp only [small]; grind)]; grind))
          · first | replace hb13 := dT hb13 | skip
            refine ea rfl (by conv=>lhs;whnf) ?_
            refine ev_nil (hK12 _ ?_); clear hK12
            refine good_ret ?_
            repeat first|refine thenQ_ret ?_|refine blockQ_ret ?_
            refine ret_tmp (st := _) rfl (by conv=>lhs;whnf) rfl ?_
            first | exact fB (isName_none (by omega)).symm | exact fB (isName_long (by omega)).symm | exact fB (isName_head hu (by simp only [small]; grind)).symm | (exact fB (by rw [isName_eq (by omega) (by omega) hu (by simp only [small]; grind)]; grind))
        · replace hb11 := dT hb11
          refine ev_q rfl (q_pickF rfl (by conv=>lhs;whnf) ?_)
          refine ev_nil (hK3 _ ?_); clear hK3
          refine good_condT rfl ?_
          refine good_seq fun K14 hK14 => ?_
          refine gr rfl ?_
          refine ea rfl (by conv=>lhs;whnf) ?_
          refine ev_nil (hK14 _ ?_); clear hK14
          refine good_ret ?_
          repeat first|refine thenQ_ret ?_|refine blockQ_ret ?_
          refine ret_tmp (st := _) rfl (by conv=>lhs;whnf) rfl ?_
          clear hK2
          first | exact fB (isName_none (by omega)).symm | exact fB (isName_long (by omega)).symm | exact fB (isName_head hu (by simp only [small]; grind)).symm | (exact fB (by rw [isName_eq (by omega) (by omega) hu (by simp only [small]; grind)]; grind))
      · replace hb9 := dT hb9
        refine ev_q rfl (q_pickF rfl (by conv=>lhs;whnf) ?_)
        refine em rfl (by conv=>lhs;whnf) ?_
        refine ev_skip rfl ?_
        refine ev_skip rfl ?_
        refine ev_skip rfl ?_
        refine ev_q rfl (q_pickT rfl (by conv=>lhs;whnf) ?_)
        refine ev_nil (hK3 _ ?_); clear hK3
        refine good_condT rfl ?_
        refine good_seq fun K15 hK15 => ?_
        refine gr rfl ?_
        refine ea rfl (by conv=>lhs;whnf) ?_
        refine ev_nil (hK15 _ ?_); clear hK15
        refine good_ret ?_
        repeat first|refine thenQ_ret ?_|refine blockQ_ret ?_
        refine ret_tmp (st := _) rfl (by conv=>lhs;whnf) rfl ?_
        clear hK2
        first | exact fB (isName_none (by omega)).symm | exact fB (isName_long (by omega)).symm | exact fB (isName_head hu (by simp only [small]; grind)).symm | (exact fB (by rw [isName_eq (by omega) (by omega) hu (by simp only [small]; grind)]; grind))
    · replace hb7 := dT hb7
      refine ev_q rfl (q_pickF rfl (by conv=>lhs;whnf) ?_)
      refine em rfl (by conv=>lhs;whnf) ?_
      refine ev_skip rfl ?_
      refine ev_skip rfl ?_
      refine ev_skip rfl ?_
      refine ev_q rfl (q_pickT rfl (by conv=>lhs;whnf) ?_)
      refine em rfl (by conv=>lhs;whnf) ?_
      refine ev_skip rfl ?_
      refine ev_skip rfl ?_
      refine ev_skip rfl ?_
      refine ev_q rfl (q_pickT rfl (by conv=>lhs;whnf) ?_)
      refine ev_nil (hK3 _ ?_); clear hK3
      refine good_condT rfl ?_
      refine good_seq fun K16 hK16 => ?_
      refine gr rfl ?_
      refine ea rfl (by conv=>lhs;whnf) ?_
      refine ev_nil (hK16 _ ?_); clear hK16
      refine good_ret ?_
      repeat first|refine thenQ_ret ?_|refine blockQ_ret ?_
      refine ret_tmp (st := _) rfl (by conv=>lhs;whnf) rfl ?_
      clear hK2
      first | exact fB (isName_none (by omega)).symm | exact fB (isName_long (by omega)).symm | exact fB (isName_head hu (by simp only [small]; grind)).symm | (exact fB (by rw [isName_eq (by omega) (by omega) hu (by simp only [small]; grind)]; grind))
  · replace hb5 := dT hb5
    refine em rfl (by conv=>lhs;whnf) ?_
    refine ev_skip rfl ?_
    refine ev_skip rfl ?_
    refine ev_skip rfl ?_
    refine ev_q rfl (q_pickT rfl (by conv=>lhs;whnf) ?_)
    refine em rfl (by conv=>lhs;whnf) ?_
    refine ev_skip rfl ?_
    refine ev_skip rfl ?_
    refine ev_skip rfl ?_
    refine ev_q rfl (q_pickT rfl (by conv=>lhs;whnf) ?_)
    refine em rfl (by conv=>lhs;whnf) ?_
    refine ev_skip rfl ?_
    refine ev_skip rfl ?_
    refine ev_skip rfl ?_
    refine ev_q rfl (q_pickT rfl (by conv=>lhs;whnf) ?_)
    refine ev_nil (hK3 _ ?_); clear hK3
    refine good_condT rfl ?_
    refine good_seq fun K17 hK17 => ?_
    refine gr rfl ?_
    refine ea rfl (by conv=>lhs;whnf) ?_
    refine ev_nil (hK17 _ ?_); clear hK17
    refine good_ret ?_
    repeat first|refine thenQ_ret ?_|refine blockQ_ret ?_
    refine ret_tmp (st := _) rfl (by conv=>lhs;whnf) rfl ?_
    clear hK2
    first | exact fB (isName_none (by omega)).symm | exact fB (isName_long (by omega)).symm | exact fB (isName_head hu (by simp only [small]; grind)).symm | (exact fB (by rw [isName_eq (by omega) (by omega) hu (by simp only [small]; grind)]; grind))

-- spec.l01Name
theorem D_spec_l01Name (s : ByteArray) (hs : s.size ≤ 140737488351232) : Den Try.prog 146 [.s (.string s)] (.s (.bool (isName s))) := by
  refine den_of_good Try.func146 (by decide) rfl (Nat.le_of_ble_eq_true rfl) (Nat.le_of_ble_eq_true rfl) ?_
  refine good_seq fun K1 hK1 => ?_
  refine gr rfl ?_
  refine ea rfl (by conv=>lhs;whnf) ?_
  refine ev_nil (hK1 _ ?_); clear hK1
  refine good_seq fun K2 hK2 => ?_
  refine good_seq fun K3 hK3 => ?_
  refine gr rfl ?_
  refine em rfl (by conv=>lhs;whnf) ?_
  refine ev_q rfl (q_str rfl rfl ?_)
  intro b4 hb4; cases b4
  · replace hb4 := seF hb4
    have hz : 1 ≤ s.size := by
      apply Classical.byContradiction; intro hc; exact hb4 (size0 (by omega))
    refine em rfl (by conv=>lhs;whnf) ?_
    refine em rfl (by conv=>lhs;whnf) ?_
    refine ev_q rfl (q_lenS tStr9 rfl ?_)
    intro n5 hn5
    refine ei rfl rfl rfl ?_
    intro b6 hb6; cases b6
    · replace hb6 := dF hb6
      obtain ⟨u0, hu0⟩ := getB (s := s) (i := 0) (by omega)
      refine ev_q rfl (q_pickF rfl (by conv=>lhs;whnf) ?_)
      refine em rfl (by conv=>lhs;whnf) ?_
      refine em rfl (by conv=>lhs;whnf) ?_
      refine ev_q rfl (q_indexS tStr9 rfl rfl (by first | exact Int.natCast_nonneg _ | decide) (by first | exact hu0 | exact hu) ?_)
      intro n7 hn7
      subst hn7
      refine ev_q rfl (q_callB rfl rfl (rfl) (D_spec_l01Small ..) ?_)
      intro b8 hb8; cases b8
      · first | replace hb8 := dF hb8 | skip
        refine ev_q rfl (q_not rfl rfl ?_)
        refine ev_q rfl (q_pickF rfl (by conv=>lhs;whnf) ?_)
        refine ev_nil (hK3 _ ?_); clear hK3
        refine good_condT rfl ?_
        refine good_seq fun K9 hK9 => ?_
        refine gr rfl ?_
        refine ea rfl (by conv=>lhs;whnf) ?_
        refine ev_nil (hK9 _ ?_); clear hK9
        refine good_ret ?_
        repeat first|refine thenQ_ret ?_|refine blockQ_ret ?_
        refine ret_tmp (st := _) rfl (by conv=>lhs;whnf) rfl ?_
        clear hK2
        first | exact fB (by rw [hb4]; rfl) | exact fB (isName_long (by omega)).symm | exact fB (isName_head hu0 (by simp only [small]; grind)).symm | exact fB (by rw [isName_eq (by omega) (by omega) hu0 (by simp only [small]; grind)]; exact (allNb_T (fun j u hj => hJ j u (by omega))).symm) | exact fB (by rw [isName_eq (by omega) (by omega) hu0 (by simp only [small]; grind)]; exact (allNb_F hu (by simp only [nbc, small, digit]; grind)).symm)
      · first | replace hb8 := dT hb8 | skip
        refine ev_q rfl (q_not rfl rfl ?_)
        refine ev_q rfl (q_pickF rfl (by conv=>lhs;whnf) ?_)
        refine ev_nil (hK3 _ ?_); clear hK3
        refine good_condF rfl ?_
        refine good_skip (hK2 _ ?_); clear hK2
        refine good_seq fun K10 hK10 => ?_
        refine good_seq fun K11 hK11 => ?_
        refine gr rfl ?_
        refine ea rfl (by conv=>lhs;whnf) ?_
        refine ev_nil (hK11 _ ?_); clear hK11
        refine good_block ?_
        refine good_loop (α := Nat) (fun i => { env := upd (upd ((fun _ => .junk)) 0 (.s (.string s))) 3 (.s (.int .i64 i)), H := fun _ => none }) (fun i => i ≤ s.size ∧ ∀ j u, j < i → s[j]? = some u → nbc u = true) (fun i => s.size - i) 0 ?_ ?_ ?_
        · exact ⟨by omega, fun j u hj => by omega⟩
        · refine sub_weak ?_ ?_
          · exact weakH_none _
          · refine weakE_upd ?e3 ?r3 (weakE_upd ?e0 ?r0 (weakE_junk _ _))
            case e0 => first | rfl | exact fI (by omega) | (simp_all)
            case r0 => intro h hh; cases hh
            case e3 => first | rfl | exact fI (by omega) | (simp_all)
            case r3 => intro h hh; cases hh
        · rintro i ⟨hI, hJ⟩
          refine good_seq fun K12 hK12 => ?_
          refine good_seq fun K13 hK13 => ?_
          refine gr rfl ?_
          refine em rfl (by conv=>lhs;whnf) ?_
          refine em rfl (by conv=>lhs;whnf) ?_
          refine ev_q rfl (q_lenS tStr9 rfl ?_)
          intro n14 hn14
          refine ei rfl rfl rfl ?_
          intro b15 hb15; cases b15
          · replace hb15 := dF hb15
            refine ev_nil (hK13 _ ?_); clear hK13
            refine good_condF rfl ?_
            refine good_exit ?_
            repeat first|refine thenQ_exit ?_|refine blockQ_pass rfl ?_
            refine blockQ_exit (hK10 _ ?_); clear hK10
            refine good_seq fun K16 hK16 => ?_
            refine gr rfl ?_
            refine ea rfl (by conv=>lhs;whnf) ?_
            refine ev_nil (hK16 _ ?_); clear hK16
            refine good_ret ?_
            repeat first|refine thenQ_ret ?_|refine blockQ_ret ?_
            refine ret_tmp (st := _) rfl (by conv=>lhs;whnf) rfl ?_
            clear hK12
            first | exact fB (by rw [hb4]; rfl) | exact fB (isName_long (by omega)).symm | exact fB (isName_head hu0 (by simp only [small]; grind)).symm | exact fB (by rw [isName_eq (by omega) (by omega) hu0 (by simp only [small]; grind)]; exact (allNb_T (fun j u hj => hJ j u (by omega))).symm) | exact fB (by rw [isName_eq (by omega) (by omega) hu0 (by simp only [small]; grind)]; exact (allNb_F hu (by simp only [nbc, small, digit]; grind)).symm)
          · replace hb15 := dT hb15
            obtain ⟨u, hu⟩ := getB (s := s) (i := i) (by omega)
            refine ev_nil (hK13 _ ?_); clear hK13
            refine good_condT rfl ?_
            refine good_skip (hK12 _ ?_); clear hK12
            refine good_seq fun K17 hK17 => ?_
            refine good_block ?_
            refine good_seq fun K18 hK18 => ?_
            refine gr rfl ?_
            refine em rfl (by conv=>lhs;whnf) ?_
            refine em rfl (by conv=>lhs;whnf) ?_
            refine ev_q rfl (q_indexS tStr9 rfl rfl (by first | exact Int.natCast_nonneg _ | decide) (by first | exact hu0 | exact hu) ?_)
            intro n19 hn19
            subst hn19
            refine ev_q rfl (q_callB rfl rfl (rfl) (D_spec_l01Small ..) ?_)
            intro b20 hb20; cases b20
            · first | replace hb20 := dF hb20 | skip
              refine ev_q rfl (q_not rfl rfl ?_)
              refine em rfl (by conv=>lhs;whnf) ?_
              refine em rfl (by conv=>lhs;whnf) ?_
              refine em rfl (by conv=>lhs;whnf) ?_
              refine ev_q rfl (q_indexS tStr9 rfl rfl (by first | exact Int.natCast_nonneg _ | decide) (by first | exact hu0 | exact hu) ?_)
              intro n21 hn21
              subst hn21
              refine ev_q rfl (q_callB rfl rfl (rfl) (D_spec_l01Digit ..) ?_)
              intro b22 hb22; cases b22
              · first | replace hb22 := dF hb22 | skip
                refine ev_q rfl (q_not rfl rfl ?_)
                refine ev_q rfl (q_pickT rfl (by conv=>lhs;whnf) ?_)
                refine ev_nil (hK18 _ ?_); clear hK18
                refine good_condT rfl ?_
                refine good_seq fun K23 hK23 => ?_
                refine gr rfl ?_
                refine ea rfl (by conv=>lhs;whnf) ?_
                refine ev_nil (hK23 _ ?_); clear hK23
                refine good_ret ?_
                repeat first|refine thenQ_ret ?_|refine blockQ_ret ?_
                refine ret_tmp (st := _) rfl (by conv=>lhs;whnf) rfl ?_
                clear hK10 hK17
                first | exact fB (by rw [hb4]; rfl) | exact fB (isName_long (by omega)).symm | exact fB (isName_head hu0 (by simp only [small]; grind)).symm | exact fB (by rw [isName_eq (by omega) (by omega) hu0 (by simp only [small]; grind)]; exact (allNb_T (fun j u hj => hJ j u (by omega))).symm) | exact fB (by rw [isName_eq (by omega) (by omega) hu0 (by simp only [small]; grind)]; exact (allNb_F hu (by simp only [nbc, small, digit]; grind)).symm)
              · first | replace hb22 := dT hb22 | skip
                refine ev_q rfl (q_not rfl rfl ?_)
                refine ev_q rfl (q_pickT rfl (by conv=>lhs;whnf) ?_)
                refine ev_nil (hK18 _ ?_); clear hK18
                refine good_condF rfl ?_
                refine good_skip (hK17 _ ?_); clear hK17
                refine gr rfl ?_
                refine em rfl (by conv=>lhs;whnf) ?_
                refine ei rfl rfl rfl ?_
                intro n24 hn24
                replace hn24 := in64 hn24 (by omega) (by omega)
                refine ea rfl (by conv=>lhs;whnf) ?_
                refine ev_nil ?_
                clear hK10
                refine ⟨i + 1, ?_, ?_, ?_⟩
                · refine ⟨by omega, fun j v hj hv => ?_⟩
                  by_cases hji : j = i
                  · subst hji; rw [hu] at hv; cases hv; simp only [nbc, small, digit] at *; grind
                  · exact hJ j v (by omega) hv
                · first | omega | (simp only []; omega) | (dsimp only; omega)
                · refine sub_weak ?_ ?_
                  · exact weakH_none _
                  · refine weakE_upd ?e3 ?r3 (weakE_upd ?e0 ?r0 (weakE_junk _ _))
                    case e0 => first | rfl | exact fI (by omega) | (simp_all)
                    case r0 => intro h hh; cases hh
                    case e3 => first | rfl | exact fI (by omega) | (simp_all)
                    case r3 => intro h hh; cases hh
            · first | replace hb20 := dT hb20 | skip
              refine ev_q rfl (q_not rfl rfl ?_)
              refine em rfl (by conv=>lhs;whnf) ?_
              refine ev_skip rfl ?_
              refine ev_skip rfl ?_
              refine ev_skip rfl ?_
              refine ev_skip rfl ?_
              refine ev_skip rfl ?_
              refine ev_q rfl (q_pickF rfl (by conv=>lhs;whnf) ?_)
              refine ev_nil (hK18 _ ?_); clear hK18
              refine good_condF rfl ?_
              refine good_skip (hK17 _ ?_); clear hK17
              refine gr rfl ?_
              refine em rfl (by conv=>lhs;whnf) ?_
              refine ei rfl rfl rfl ?_
              intro n25 hn25
              replace hn25 := in64 hn25 (by omega) (by omega)
              refine ea rfl (by conv=>lhs;whnf) ?_
              refine ev_nil ?_
              clear hK10
              refine ⟨i + 1, ?_, ?_, ?_⟩
              · refine ⟨by omega, fun j v hj hv => ?_⟩
                by_cases hji : j = i
                · subst hji; rw [hu] at hv; cases hv; simp only [nbc, small, digit] at *; grind
                · exact hJ j v (by omega) hv
              · first | omega | (simp only []; omega) | (dsimp only; omega)
              · refine sub_weak ?_ ?_
                · exact weakH_none _
                · refine weakE_upd ?e3 ?r3 (weakE_upd ?e0 ?r0 (weakE_junk _ _))
                  case e0 => first | rfl | exact fI (by omega) | (simp_all)
                  case r0 => intro h hh; cases hh
                  case e3 => first | rfl | exact fI (by omega) | (simp_all)
                  case r3 => intro h hh; cases hh
    · replace hb6 := dT hb6
      refine ev_q rfl (q_pickF rfl (by conv=>lhs;whnf) ?_)
      refine em rfl (by conv=>lhs;whnf) ?_
      refine ev_skip rfl ?_
      refine ev_skip rfl ?_
      refine ev_skip rfl ?_
      refine ev_skip rfl ?_
      refine ev_q rfl (q_pickT rfl (by conv=>lhs;whnf) ?_)
      refine ev_nil (hK3 _ ?_); clear hK3
      refine good_condT rfl ?_
      refine good_seq fun K26 hK26 => ?_
      refine gr rfl ?_
      refine ea rfl (by conv=>lhs;whnf) ?_
      refine ev_nil (hK26 _ ?_); clear hK26
      refine good_ret ?_
      repeat first|refine thenQ_ret ?_|refine blockQ_ret ?_
      refine ret_tmp (st := _) rfl (by conv=>lhs;whnf) rfl ?_
      clear hK2
      first | exact fB (by rw [hb4]; rfl) | exact fB (isName_long (by omega)).symm | exact fB (isName_head hu0 (by simp only [small]; grind)).symm | exact fB (by rw [isName_eq (by omega) (by omega) hu0 (by simp only [small]; grind)]; exact (allNb_T (fun j u hj => hJ j u (by omega))).symm) | exact fB (by rw [isName_eq (by omega) (by omega) hu0 (by simp only [small]; grind)]; exact (allNb_F hu (by simp only [nbc, small, digit]; grind)).symm)
  · replace hb4 := seT hb4
    refine em rfl (by conv=>lhs;whnf) ?_
    refine ev_skip rfl ?_
    refine ev_skip rfl ?_
    refine ev_skip rfl ?_
    refine ev_q rfl (q_pickT rfl (by conv=>lhs;whnf) ?_)
    refine em rfl (by conv=>lhs;whnf) ?_
    refine ev_skip rfl ?_
    refine ev_skip rfl ?_
    refine ev_skip rfl ?_
    refine ev_skip rfl ?_
    refine ev_q rfl (q_pickT rfl (by conv=>lhs;whnf) ?_)
    refine ev_nil (hK3 _ ?_); clear hK3
    refine good_condT rfl ?_
    refine good_seq fun K27 hK27 => ?_
    refine gr rfl ?_
    refine ea rfl (by conv=>lhs;whnf) ?_
    refine ev_nil (hK27 _ ?_); clear hK27
    refine good_ret ?_
    repeat first|refine thenQ_ret ?_|refine blockQ_ret ?_
    refine ret_tmp (st := _) rfl (by conv=>lhs;whnf) rfl ?_
    clear hK2
    first | exact fB (by rw [hb4]; rfl) | exact fB (isName_long (by omega)).symm | exact fB (isName_head hu0 (by simp only [small]; grind)).symm | exact fB (by rw [isName_eq (by omega) (by omega) hu0 (by simp only [small]; grind)]; exact (allNb_T (fun j u hj => hJ j u (by omega))).symm) | exact fB (by rw [isName_eq (by omega) (by omega) hu0 (by simp only [small]; grind)]; exact (allNb_F hu (by simp only [nbc, small, digit]; grind)).symm)

-- impl.nodeOk
theorem D_impl_nodeOk (a : Int)  : Den Try.prog 172 [.s (.int .i64 a)] (.s (.bool (decide (0 ≤ a ∧ a ≤ 15)))) := by
  refine den_of_good Try.func172 (by decide) rfl (Nat.le_of_ble_eq_true rfl) (Nat.le_of_ble_eq_true rfl) ?_
  refine good_seq fun K1 hK1 => ?_
  refine gr rfl ?_
  refine ea rfl (by conv=>lhs;whnf) ?_
  refine ev_nil (hK1 _ ?_); clear hK1
  refine good_seq fun K2 hK2 => ?_
  refine gr rfl ?_
  refine em rfl (by conv=>lhs;whnf) ?_
  refine ev_q rfl (q_callB rfl rfl (rfl) (D_impl_within ..) ?_)
  intro b3 hb3; cases b3
  · first | replace hb3 := dF hb3 | skip
    refine ea rfl (by conv=>lhs;whnf) ?_
    refine ev_nil (hK2 _ ?_); clear hK2
    refine good_ret ?_
    repeat first|refine thenQ_ret ?_|refine blockQ_ret ?_
    refine ret_tmp (st := _) rfl (by conv=>lhs;whnf) rfl ?_
    first | rfl | exact fT (by first | omega | grind) | exact fF (by first | omega | grind) | exact fT' (by first | omega | grind) | (exfalso; first | omega | grind)
  · first | replace hb3 := dT hb3 | skip
    refine ea rfl (by conv=>lhs;whnf) ?_
    refine ev_nil (hK2 _ ?_); clear hK2
    refine good_ret ?_
    repeat first|refine thenQ_ret ?_|refine blockQ_ret ?_
    refine ret_tmp (st := _) rfl (by conv=>lhs;whnf) rfl ?_
    first | rfl | exact fT (by first | omega | grind) | exact fF (by first | omega | grind) | exact fT' (by first | omega | grind) | (exfalso; first | omega | grind)

-- spec.l03Ok
theorem D_spec_l03Ok (s : ByteArray) (fm tt le di lo : Int) (hs : s.size ≤ 140737488351232) : Den Try.prog 193 [.rp [.s (.string s), .s (.int .i64 fm), .s (.int .i64 tt), .s (.int .i64 le), .s (.int .i64 di), .s (.int .i64 lo)]] (.s (.bool (decide (isName s = true ∧ (0 ≤ fm ∧ fm ≤ 15) ∧ (0 ≤ tt ∧ tt ≤ 15) ∧ ¬ fm = tt ∧ (1 ≤ le ∧ le ≤ 10000) ∧ (20 ≤ di ∧ di ≤ 1000) ∧ (0 ≤ lo ∧ lo ≤ 5000))))) := by
  refine den_of_good Try.func193 (by decide) rfl (Nat.le_of_ble_eq_true rfl) (Nat.le_of_ble_eq_true rfl) ?_
  refine good_seq fun K1 hK1 => ?_
  refine gr rfl ?_
  refine ea rfl (by conv=>lhs;whnf) ?_
  refine ev_nil (hK1 _ ?_); clear hK1
  refine good_seq fun K2 hK2 => ?_
  refine good_seq fun K3 hK3 => ?_
  refine good_draw 33 hmix (by kernel_rfl) rfl ?_
  refine qm rfl (by conv=>lhs;whnf) ?_
  refine qo_q rfl (q_nilCheck (by conv=>lhs;whnf) rfl ?_)
  refine qo_q rfl (q_fieldAddr fO59_0 rfl rfl ?_)
  refine qo_q rfl (q_load tA9 rfl ?_)
  refine qo_q rfl (q_callB rfl rfl (rfl) (D_spec_l01Name _ hs) ?_)
  intro b4 hb4; cases b4
  · first | replace hb4 := dF hb4 | skip
    refine qo_q rfl (q_not rfl rfl ?_)
    refine qm rfl (by conv=>lhs;whnf) ?_
    refine qo_skip rfl ?_
    refine qo_skip rfl ?_
    refine qo_skip rfl ?_
    refine qo_skip rfl ?_
    refine qo_skip rfl ?_
    refine qo_skip rfl ?_
    refine qo_q rfl (q_pickT rfl (by conv=>lhs;whnf) ?_)
    refine qm rfl (by conv=>lhs;whnf) ?_
    refine qo_skip rfl ?_
    refine qo_skip rfl ?_
    refine qo_skip rfl ?_
    refine qo_skip rfl ?_
    refine qo_skip rfl ?_
    refine qo_skip rfl ?_
    refine qo_q rfl (q_pickT rfl (by conv=>lhs;whnf) ?_)
    refine qm rfl (by conv=>lhs;whnf) ?_
    refine qo_skip rfl ?_
    refine qo_skip rfl ?_
    refine qo_skip rfl ?_
    refine qo_skip rfl ?_
    refine qo_skip rfl ?_
    refine qo_skip rfl ?_
    refine qo_skip rfl ?_
    refine qo_skip rfl ?_
    refine qo_skip rfl ?_
    refine qo_q rfl (q_pickT rfl (by conv=>lhs;whnf) ?_)
    refine qo_nil ?_
    refine ev_nil (hK3 _ ?_); clear hK3
    refine good_condT rfl ?_
    refine good_seq fun K5 hK5 => ?_
    refine gr rfl ?_
    refine ea rfl (by conv=>lhs;whnf) ?_
    refine ev_nil (hK5 _ ?_); clear hK5
    refine good_ret ?_
    repeat first|refine thenQ_ret ?_|refine blockQ_ret ?_
    refine ret_tmp (st := _) rfl (by conv=>lhs;whnf) rfl ?_
    clear hK2
    first | rfl | exact fT (by first | omega | grind) | exact fF (by first | omega | grind) | exact fT' (by first | omega | grind) | (exfalso; first | omega | grind)
  · first | replace hb4 := dT hb4 | skip
    refine qo_q rfl (q_not rfl rfl ?_)
    refine qm rfl (by conv=>lhs;whnf) ?_
    refine qm rfl (by conv=>lhs;whnf) ?_
    refine qo_q rfl (q_nilCheck (by conv=>lhs;whnf) rfl ?_)
    refine qo_q rfl (q_fieldAddr fO59_1 rfl rfl ?_)
    refine qo_q rfl (q_load tA2 rfl ?_)
    refine qo_q rfl (q_callB rfl rfl (rfl) (D_spec_l00In ..) ?_)
    intro b6 hb6; cases b6
    · first | replace hb6 := dF hb6 | skip
      refine qo_q rfl (q_not rfl rfl ?_)
      refine qo_q rfl (q_pickF rfl (by conv=>lhs;whnf) ?_)
      refine qm rfl (by conv=>lhs;whnf) ?_
      refine qo_skip rfl ?_
      refine qo_skip rfl ?_
      refine qo_skip rfl ?_
      refine qo_skip rfl ?_
      refine qo_skip rfl ?_
      refine qo_skip rfl ?_
      refine qo_q rfl (q_pickT rfl (by conv=>lhs;whnf) ?_)
      refine qm rfl (by conv=>lhs;whnf) ?_
      refine qo_skip rfl ?_
      refine qo_skip rfl ?_
      refine qo_skip rfl ?_
      refine qo_skip rfl ?_
      refine qo_skip rfl ?_
      refine qo_skip rfl ?_
      refine qo_skip rfl ?_
      refine qo_skip rfl ?_
      refine qo_skip rfl ?_
      refine qo_q rfl (q_pickT rfl (by conv=>lhs;whnf) ?_)
      refine qo_nil ?_
      refine ev_nil (hK3 _ ?_); clear hK3
      refine good_condT rfl ?_
      refine good_seq fun K7 hK7 => ?_
      refine gr rfl ?_
      refine ea rfl (by conv=>lhs;whnf) ?_
      refine ev_nil (hK7 _ ?_); clear hK7
      refine good_ret ?_
      repeat first|refine thenQ_ret ?_|refine blockQ_ret ?_
      refine ret_tmp (st := _) rfl (by conv=>lhs;whnf) rfl ?_
      clear hK2
      first | rfl | exact fT (by first | omega | grind) | exact fF (by first | omega | grind) | exact fT' (by first | omega | grind) | (exfalso; first | omega | grind)
    · first | replace hb6 := dT hb6 | skip
      refine qo_q rfl (q_not rfl rfl ?_)
      refine qo_q rfl (q_pickF rfl (by conv=>lhs;whnf) ?_)
      refine qm rfl (by conv=>lhs;whnf) ?_
      refine qm rfl (by conv=>lhs;whnf) ?_
      refine qo_q rfl (q_nilCheck (by conv=>lhs;whnf) rfl ?_)
      refine qo_q rfl (q_fieldAddr fO59_2 rfl rfl ?_)
      refine qo_q rfl (q_load tA2 rfl ?_)
      refine qo_q rfl (q_callB rfl rfl (rfl) (D_spec_l00In ..) ?_)
      intro b8 hb8; cases b8
      · first | replace hb8 := dF hb8 | skip
        refine qo_q rfl (q_not rfl rfl ?_)
        refine qo_q rfl (q_pickF rfl (by conv=>lhs;whnf) ?_)
        refine qm rfl (by conv=>lhs;whnf) ?_
        refine qo_skip rfl ?_
        refine qo_skip rfl ?_
        refine qo_skip rfl ?_
        refine qo_skip rfl ?_
        refine qo_skip rfl ?_
        refine qo_skip rfl ?_
        refine qo_skip rfl ?_
        refine qo_skip rfl ?_
        refine qo_skip rfl ?_
        refine qo_q rfl (q_pickT rfl (by conv=>lhs;whnf) ?_)
        refine qo_nil ?_
        refine ev_nil (hK3 _ ?_); clear hK3
        refine good_condT rfl ?_
        refine good_seq fun K9 hK9 => ?_
        refine gr rfl ?_
        refine ea rfl (by conv=>lhs;whnf) ?_
        refine ev_nil (hK9 _ ?_); clear hK9
        refine good_ret ?_
        repeat first|refine thenQ_ret ?_|refine blockQ_ret ?_
        refine ret_tmp (st := _) rfl (by conv=>lhs;whnf) rfl ?_
        clear hK2
        first | rfl | exact fT (by first | omega | grind) | exact fF (by first | omega | grind) | exact fT' (by first | omega | grind) | (exfalso; first | omega | grind)
      · first | replace hb8 := dT hb8 | skip
        refine qo_q rfl (q_not rfl rfl ?_)
        refine qo_q rfl (q_pickF rfl (by conv=>lhs;whnf) ?_)
        refine qm rfl (by conv=>lhs;whnf) ?_
        refine qm rfl (by conv=>lhs;whnf) ?_
        refine qo_q rfl (q_nilCheck (by conv=>lhs;whnf) rfl ?_)
        refine qo_q rfl (q_fieldAddr fO59_1 rfl rfl ?_)
        refine qo_q rfl (q_load tA2 rfl ?_)
        refine qm rfl (by conv=>lhs;whnf) ?_
        refine qo_q rfl (q_nilCheck (by conv=>lhs;whnf) rfl ?_)
        refine qo_q rfl (q_fieldAddr fO59_2 rfl rfl ?_)
        refine qo_q rfl (q_load tA2 rfl ?_)
        refine qo_q rfl (q_int rfl rfl ?_)
        intro b10 hb10; cases b10
        · replace hb10 := eqF hb10
          refine qo_q rfl (q_pickF rfl (by conv=>lhs;whnf) ?_)
          refine qo_nil ?_
          refine ev_nil (hK3 _ ?_); clear hK3
          refine good_condF rfl ?_
          refine good_skip (hK2 _ ?_); clear hK2
          refine good_seq fun K11 hK11 => ?_
          refine gr rfl ?_
          refine em rfl (by conv=>lhs;whnf) ?_
          refine ev_q rfl (q_nilCheck (by conv=>lhs;whnf) rfl ?_)
          refine ev_q rfl (q_fieldAddr fO59_3 rfl rfl ?_)
          refine ev_q rfl (q_load tA2 rfl ?_)
          refine ev_q rfl (q_callB rfl rfl (rfl) (D_spec_l00In ..) ?_)
          intro b12 hb12; cases b12
          · first | replace hb12 := dF hb12 | skip
            refine em rfl (by conv=>lhs;whnf) ?_
            refine ev_skip rfl ?_
            refine ev_skip rfl ?_
            refine ev_skip rfl ?_
            refine ev_skip rfl ?_
            refine ev_skip rfl ?_
            refine ev_q rfl (q_pickF rfl (by conv=>lhs;whnf) ?_)
            refine em rfl (by conv=>lhs;whnf) ?_
            refine ev_skip rfl ?_
            refine ev_skip rfl ?_
            refine ev_skip rfl ?_
            refine ev_skip rfl ?_
            refine ev_skip rfl ?_
            refine ev_q rfl (q_pickF rfl (by conv=>lhs;whnf) ?_)
            refine ea rfl (by conv=>lhs;whnf) ?_
            refine ev_nil (hK11 _ ?_); clear hK11
            refine good_ret ?_
            repeat first|refine thenQ_ret ?_|refine blockQ_ret ?_
            refine ret_tmp (st := _) rfl (by conv=>lhs;whnf) rfl ?_
            first | rfl | exact fT (by first | omega | grind) | exact fF (by first | omega | grind) | exact fT' (by first | omega | grind) | (exfalso; first | omega | grind)
          · first | replace hb12 := dT hb12 | skip
            refine em rfl (by conv=>lhs;whnf) ?_
            refine em rfl (by conv=>lhs;whnf) ?_
            refine ev_q rfl (q_nilCheck (by conv=>lhs;whnf) rfl ?_)
            refine ev_q rfl (q_fieldAddr fO59_4 rfl rfl ?_)
            refine ev_q rfl (q_load tA2 rfl ?_)
            refine ev_q rfl (q_callB rfl rfl (rfl) (D_spec_l00In ..) ?_)
            intro b13 hb13; cases b13
            · first | replace hb13 := dF hb13 | skip
              refine ev_q rfl (q_pickT rfl (by conv=>lhs;whnf) ?_)
              refine em rfl (by conv=>lhs;whnf) ?_
              refine ev_skip rfl ?_
              refine ev_skip rfl ?_
              refine ev_skip rfl ?_
              refine ev_skip rfl ?_
              refine ev_skip rfl ?_
              refine ev_q rfl (q_pickF rfl (by conv=>lhs;whnf) ?_)
              refine ea rfl (by conv=>lhs;whnf) ?_
              refine ev_nil (hK11 _ ?_); clear hK11
              refine good_ret ?_
              repeat first|refine thenQ_ret ?_|refine blockQ_ret ?_
              refine ret_tmp (st := _) rfl (by conv=>lhs;whnf) rfl ?_
              first | rfl | exact fT (by first | omega | grind) | exact fF (by first | omega | grind) | exact fT' (by first | omega | grind) | (exfalso; first | omega | grind)
            · first | replace hb13 := dT hb13 | skip
              refine ev_q rfl (q_pickT rfl (by conv=>lhs;whnf) ?_)
              refine em rfl (by conv=>lhs;whnf) ?_
              refine em rfl (by conv=>lhs;whnf) ?_
              refine ev_q rfl (q_nilCheck (by conv=>lhs;whnf) rfl ?_)
              refine ev_q rfl (q_fieldAddr fO59_5 rfl rfl ?_)
              refine ev_q rfl (q_load tA2 rfl ?_)
              refine ev_q rfl (q_callB rfl rfl (rfl) (D_spec_l00In ..) ?_)
              intro b14 hb14; cases b14
              · first | replace hb14 := dF hb14 | skip
                refine ev_q rfl (q_pickT rfl (by conv=>lhs;whnf) ?_)
                refine ea rfl (by conv=>lhs;whnf) ?_
                refine ev_nil (hK11 _ ?_); clear hK11
                refine good_ret ?_
                repeat first|refine thenQ_ret ?_|refine blockQ_ret ?_
                refine ret_tmp (st := _) rfl (by conv=>lhs;whnf) rfl ?_
                first | rfl | exact fT (by first | omega | grind) | exact fF (by first | omega | grind) | exact fT' (by first | omega | grind) | (exfalso; first | omega | grind)
              · first | replace hb14 := dT hb14 | skip
                refine ev_q rfl (q_pickT rfl (by conv=>lhs;whnf) ?_)
                refine ea rfl (by conv=>lhs;whnf) ?_
                refine ev_nil (hK11 _ ?_); clear hK11
                refine good_ret ?_
                repeat first|refine thenQ_ret ?_|refine blockQ_ret ?_
                refine ret_tmp (st := _) rfl (by conv=>lhs;whnf) rfl ?_
                first | rfl | exact fT (by first | omega | grind) | exact fF (by first | omega | grind) | exact fT' (by first | omega | grind) | (exfalso; first | omega | grind)
        · replace hb10 := eqT hb10
          refine qo_q rfl (q_pickF rfl (by conv=>lhs;whnf) ?_)
          refine qo_nil ?_
          refine ev_nil (hK3 _ ?_); clear hK3
          refine good_condT rfl ?_
          refine good_seq fun K15 hK15 => ?_
          refine gr rfl ?_
          refine ea rfl (by conv=>lhs;whnf) ?_
          refine ev_nil (hK15 _ ?_); clear hK15
          refine good_ret ?_
          repeat first|refine thenQ_ret ?_|refine blockQ_ret ?_
          refine ret_tmp (st := _) rfl (by conv=>lhs;whnf) rfl ?_
          clear hK2
          first | rfl | exact fT (by first | omega | grind) | exact fF (by first | omega | grind) | exact fT' (by first | omega | grind) | (exfalso; first | omega | grind)

-- impl.ValidPipe
theorem D_impl_ValidPipe (s : ByteArray) (fm tt le di lo : Int) (hs : s.size ≤ 140737488351232) : Den Try.prog 123 [.agg [.s (.string s), .s (.int .i64 fm), .s (.int .i64 tt), .s (.int .i64 le), .s (.int .i64 di), .s (.int .i64 lo)]] (.s (.bool (decide (isName s = true ∧ (0 ≤ fm ∧ fm ≤ 15) ∧ (0 ≤ tt ∧ tt ≤ 15) ∧ ¬ fm = tt ∧ (1 ≤ le ∧ le ≤ 10000) ∧ (20 ≤ di ∧ di ≤ 1000) ∧ (0 ≤ lo ∧ lo ≤ 5000))))) := by
  refine den_of_good Try.func123 (by decide) rfl (Nat.le_of_ble_eq_true rfl) (Nat.le_of_ble_eq_true rfl) ?_
  refine good_seq fun K1 hK1 => ?_
  refine gr rfl ?_
  refine ev_k rfl (k_box (by conv=>lhs;whnf) rfl rfl rfl ?_)
  refine ea rfl (by conv=>lhs;whnf) ?_
  refine ev_nil (hK1 _ ?_); clear hK1
  refine good_seq fun K2 hK2 => ?_
  refine gr rfl ?_
  refine ev_q rfl (q_fieldAddrP fO59_0 rfl rfl ?_)
  refine ev_q rfl (q_load tA9 rfl ?_)
  refine ev_q rfl (q_callB rfl rfl (rfl) (D_impl_IsName _ hs) ?_)
  intro b3 hb3; cases b3
  · first | replace hb3 := dF hb3 | skip
    refine em rfl (by conv=>lhs;whnf) ?_
    refine ev_skip rfl ?_
    refine ev_skip rfl ?_
    refine ev_skip rfl ?_
    refine ev_q rfl (q_pickF rfl (by conv=>lhs;whnf) ?_)
    refine em rfl (by conv=>lhs;whnf) ?_
    refine ev_skip rfl ?_
    refine ev_skip rfl ?_
    refine ev_skip rfl ?_
    refine ev_q rfl (q_pickF rfl (by conv=>lhs;whnf) ?_)
    refine em rfl (by conv=>lhs;whnf) ?_
    refine ev_skip rfl ?_
    refine ev_skip rfl ?_
    refine ev_skip rfl ?_
    refine ev_skip rfl ?_
    refine ev_skip rfl ?_
    refine ev_q rfl (q_pickF rfl (by conv=>lhs;whnf) ?_)
    refine em rfl (by conv=>lhs;whnf) ?_
    refine ev_skip rfl ?_
    refine ev_skip rfl ?_
    refine ev_skip rfl ?_
    refine ev_q rfl (q_pickF rfl (by conv=>lhs;whnf) ?_)
    refine em rfl (by conv=>lhs;whnf) ?_
    refine ev_skip rfl ?_
    refine ev_skip rfl ?_
    refine ev_skip rfl ?_
    refine ev_q rfl (q_pickF rfl (by conv=>lhs;whnf) ?_)
    refine em rfl (by conv=>lhs;whnf) ?_
    refine ev_skip rfl ?_
    refine ev_skip rfl ?_
    refine ev_skip rfl ?_
    refine ev_q rfl (q_pickF rfl (by conv=>lhs;whnf) ?_)
    refine ea rfl (by conv=>lhs;whnf) ?_
    refine ev_nil (hK2 _ ?_); clear hK2
    refine good_ret ?_
    repeat first|refine thenQ_ret ?_|refine blockQ_ret ?_
    refine ret_tmp (st := _) rfl (by conv=>lhs;whnf) rfl ?_
    first | rfl | exact fT (by first | omega | grind) | exact fF (by first | omega | grind) | exact fT' (by first | omega | grind) | (exfalso; first | omega | grind)
  · first | replace hb3 := dT hb3 | skip
    refine em rfl (by conv=>lhs;whnf) ?_
    refine ev_q rfl (q_fieldAddrP fO59_1 rfl rfl ?_)
    refine ev_q rfl (q_load tA2 rfl ?_)
    refine ev_q rfl (q_callB rfl rfl (rfl) (D_impl_nodeOk ..) ?_)
    intro b4 hb4; cases b4
    · first | replace hb4 := dF hb4 | skip
      refine ev_q rfl (q_pickT rfl (by conv=>lhs;whnf) ?_)
      refine em rfl (by conv=>lhs;whnf) ?_
      refine ev_skip rfl ?_
      refine ev_skip rfl ?_
      refine ev_skip rfl ?_
      refine ev_q rfl (q_pickF rfl (by conv=>lhs;whnf) ?_)
      refine em rfl (by conv=>lhs;whnf) ?_
      refine ev_skip rfl ?_
      refine ev_skip rfl ?_
      refine ev_skip rfl ?_
      refine ev_skip rfl ?_
      refine ev_skip rfl ?_
      refine ev_q rfl (q_pickF rfl (by conv=>lhs;whnf) ?_)
      refine em rfl (by conv=>lhs;whnf) ?_
      refine ev_skip rfl ?_
      refine ev_skip rfl ?_
      refine ev_skip rfl ?_
      refine ev_q rfl (q_pickF rfl (by conv=>lhs;whnf) ?_)
      refine em rfl (by conv=>lhs;whnf) ?_
      refine ev_skip rfl ?_
      refine ev_skip rfl ?_
      refine ev_skip rfl ?_
      refine ev_q rfl (q_pickF rfl (by conv=>lhs;whnf) ?_)
      refine em rfl (by conv=>lhs;whnf) ?_
      refine ev_skip rfl ?_
      refine ev_skip rfl ?_
      refine ev_skip rfl ?_
      refine ev_q rfl (q_pickF rfl (by conv=>lhs;whnf) ?_)
      refine ea rfl (by conv=>lhs;whnf) ?_
      refine ev_nil (hK2 _ ?_); clear hK2
      refine good_ret ?_
      repeat first|refine thenQ_ret ?_|refine blockQ_ret ?_
      refine ret_tmp (st := _) rfl (by conv=>lhs;whnf) rfl ?_
      first | rfl | exact fT (by first | omega | grind) | exact fF (by first | omega | grind) | exact fT' (by first | omega | grind) | (exfalso; first | omega | grind)
    · first | replace hb4 := dT hb4 | skip
      refine ev_q rfl (q_pickT rfl (by conv=>lhs;whnf) ?_)
      refine em rfl (by conv=>lhs;whnf) ?_
      refine ev_q rfl (q_fieldAddrP fO59_2 rfl rfl ?_)
      refine ev_q rfl (q_load tA2 rfl ?_)
      refine ev_q rfl (q_callB rfl rfl (rfl) (D_impl_nodeOk ..) ?_)
      intro b5 hb5; cases b5
      · first | replace hb5 := dF hb5 | skip
        refine ev_q rfl (q_pickT rfl (by conv=>lhs;whnf) ?_)
        refine em rfl (by conv=>lhs;whnf) ?_
        refine ev_skip rfl ?_
        refine ev_skip rfl ?_
        refine ev_skip rfl ?_
        refine ev_skip rfl ?_
        refine ev_skip rfl ?_
        refine ev_q rfl (q_pickF rfl (by conv=>lhs;whnf) ?_)
        refine em rfl (by conv=>lhs;whnf) ?_
        refine ev_skip rfl ?_
        refine ev_skip rfl ?_
        refine ev_skip rfl ?_
        refine ev_q rfl (q_pickF rfl (by conv=>lhs;whnf) ?_)
        refine em rfl (by conv=>lhs;whnf) ?_
        refine ev_skip rfl ?_
        refine ev_skip rfl ?_
        refine ev_skip rfl ?_
        refine ev_q rfl (q_pickF rfl (by conv=>lhs;whnf) ?_)
        refine em rfl (by conv=>lhs;whnf) ?_
        refine ev_skip rfl ?_
        refine ev_skip rfl ?_
        refine ev_skip rfl ?_
        refine ev_q rfl (q_pickF rfl (by conv=>lhs;whnf) ?_)
        refine ea rfl (by conv=>lhs;whnf) ?_
        refine ev_nil (hK2 _ ?_); clear hK2
        refine good_ret ?_
        repeat first|refine thenQ_ret ?_|refine blockQ_ret ?_
        refine ret_tmp (st := _) rfl (by conv=>lhs;whnf) rfl ?_
        first | rfl | exact fT (by first | omega | grind) | exact fF (by first | omega | grind) | exact fT' (by first | omega | grind) | (exfalso; first | omega | grind)
      · first | replace hb5 := dT hb5 | skip
        refine ev_q rfl (q_pickT rfl (by conv=>lhs;whnf) ?_)
        refine em rfl (by conv=>lhs;whnf) ?_
        refine ev_q rfl (q_fieldAddrP fO59_1 rfl rfl ?_)
        refine ev_q rfl (q_load tA2 rfl ?_)
        refine ev_q rfl (q_fieldAddrP fO59_2 rfl rfl ?_)
        refine ev_q rfl (q_load tA2 rfl ?_)
        refine ei rfl rfl rfl ?_
        intro b6 hb6; cases b6
        · replace hb6 := neF hb6
          refine ev_q rfl (q_pickT rfl (by conv=>lhs;whnf) ?_)
          refine em rfl (by conv=>lhs;whnf) ?_
          refine ev_skip rfl ?_
          refine ev_skip rfl ?_
          refine ev_skip rfl ?_
          refine ev_q rfl (q_pickF rfl (by conv=>lhs;whnf) ?_)
          refine em rfl (by conv=>lhs;whnf) ?_
          refine ev_skip rfl ?_
          refine ev_skip rfl ?_
          refine ev_skip rfl ?_
          refine ev_q rfl (q_pickF rfl (by conv=>lhs;whnf) ?_)
          refine em rfl (by conv=>lhs;whnf) ?_
          refine ev_skip rfl ?_
          refine ev_skip rfl ?_
          refine ev_skip rfl ?_
          refine ev_q rfl (q_pickF rfl (by conv=>lhs;whnf) ?_)
          refine ea rfl (by conv=>lhs;whnf) ?_
          refine ev_nil (hK2 _ ?_); clear hK2
          refine good_ret ?_
          repeat first|refine thenQ_ret ?_|refine blockQ_ret ?_
          refine ret_tmp (st := _) rfl (by conv=>lhs;whnf) rfl ?_
          first | rfl | exact fT (by first | omega | grind) | exact fF (by first | omega | grind) | exact fT' (by first | omega | grind) | (exfalso; first | omega | grind)
        · replace hb6 := neT hb6
          refine ev_q rfl (q_pickT rfl (by conv=>lhs;whnf) ?_)
          refine em rfl (by conv=>lhs;whnf) ?_
          refine ev_q rfl (q_fieldAddrP fO59_3 rfl rfl ?_)
          refine ev_q rfl (q_load tA2 rfl ?_)
          refine ev_q rfl (q_callB rfl rfl (rfl) (D_impl_within ..) ?_)
          intro b7 hb7; cases b7
          · first | replace hb7 := dF hb7 | skip
            refine ev_q rfl (q_pickT rfl (by conv=>lhs;whnf) ?_)
            refine em rfl (by conv=>lhs;whnf) ?_
            refine ev_skip rfl ?_
            refine ev_skip rfl ?_
            refine ev_skip rfl ?_
            refine ev_q rfl (q_pickF rfl (by conv=>lhs;whnf) ?_)
            refine em rfl (by conv=>lhs;whnf) ?_
            refine ev_skip rfl ?_
            refine ev_skip rfl ?_
            refine ev_skip rfl ?_
            refine ev_q rfl (q_pickF rfl (by conv=>lhs;whnf) ?_)
            refine ea rfl (by conv=>lhs;whnf) ?_
            refine ev_nil (hK2 _ ?_); clear hK2
            refine good_ret ?_
            repeat first|refine thenQ_ret ?_|refine blockQ_ret ?_
            refine ret_tmp (st := _) rfl (by conv=>lhs;whnf) rfl ?_
            first | rfl | exact fT (by first | omega | grind) | exact fF (by first | omega | grind) | exact fT' (by first | omega | grind) | (exfalso; first | omega | grind)
          · first | replace hb7 := dT hb7 | skip
            refine ev_q rfl (q_pickT rfl (by conv=>lhs;whnf) ?_)
            refine em rfl (by conv=>lhs;whnf) ?_
            refine ev_q rfl (q_fieldAddrP fO59_4 rfl rfl ?_)
            refine ev_q rfl (q_load tA2 rfl ?_)
            refine ev_q rfl (q_callB rfl rfl (rfl) (D_impl_within ..) ?_)
            intro b8 hb8; cases b8
            · first | replace hb8 := dF hb8 | skip
              refine ev_q rfl (q_pickT rfl (by conv=>lhs;whnf) ?_)
              refine em rfl (by conv=>lhs;whnf) ?_
              refine ev_skip rfl ?_
              refine ev_skip rfl ?_
              refine ev_skip rfl ?_
              refine ev_q rfl (q_pickF rfl (by conv=>lhs;whnf) ?_)
              refine ea rfl (by conv=>lhs;whnf) ?_
              refine ev_nil (hK2 _ ?_); clear hK2
              refine good_ret ?_
              repeat first|refine thenQ_ret ?_|refine blockQ_ret ?_
              refine ret_tmp (st := _) rfl (by conv=>lhs;whnf) rfl ?_
              first | rfl | exact fT (by first | omega | grind) | exact fF (by first | omega | grind) | exact fT' (by first | omega | grind) | (exfalso; first | omega | grind)
            · first | replace hb8 := dT hb8 | skip
              refine ev_q rfl (q_pickT rfl (by conv=>lhs;whnf) ?_)
              refine em rfl (by conv=>lhs;whnf) ?_
              refine ev_q rfl (q_fieldAddrP fO59_5 rfl rfl ?_)
              refine ev_q rfl (q_load tA2 rfl ?_)
              refine ev_q rfl (q_callB rfl rfl (rfl) (D_impl_within ..) ?_)
              intro b9 hb9; cases b9
              · first | replace hb9 := dF hb9 | skip
                refine ev_q rfl (q_pickT rfl (by conv=>lhs;whnf) ?_)
                refine ea rfl (by conv=>lhs;whnf) ?_
                refine ev_nil (hK2 _ ?_); clear hK2
                refine good_ret ?_
                repeat first|refine thenQ_ret ?_|refine blockQ_ret ?_
                refine ret_tmp (st := _) rfl (by conv=>lhs;whnf) rfl ?_
                first | rfl | exact fT (by first | omega | grind) | exact fF (by first | omega | grind) | exact fT' (by first | omega | grind) | (exfalso; first | omega | grind)
              · first | replace hb9 := dT hb9 | skip
                refine ev_q rfl (q_pickT rfl (by conv=>lhs;whnf) ?_)
                refine ea rfl (by conv=>lhs;whnf) ?_
                refine ev_nil (hK2 _ ?_); clear hK2
                refine good_ret ?_
                repeat first|refine thenQ_ret ?_|refine blockQ_ret ?_
                refine ret_tmp (st := _) rfl (by conv=>lhs;whnf) rfl ?_
                first | rfl | exact fT (by first | omega | grind) | exact fF (by first | omega | grind) | exact fT' (by first | omega | grind) | (exfalso; first | omega | grind)

-- impl.allWithin$1
theorem D_impl_allWithin_1 (a lo hi : Int)  : Den Try.prog 140 [.s (.int .i64 a), .rp [.s (.int .i64 lo)], .rp [.s (.int .i64 hi)]] (.s (.bool (decide (¬ (lo ≤ a ∧ a ≤ hi))))) := by
  refine den_of_good Try.func140 (by decide) rfl (Nat.le_of_ble_eq_true rfl) (Nat.le_of_ble_eq_true rfl) ?_
  refine good_seq fun K1 hK1 => ?_
  refine gr rfl ?_
  refine ea rfl (by conv=>lhs;whnf) ?_
  refine ev_nil (hK1 _ ?_); clear hK1
  refine good_seq fun K2 hK2 => ?_
  refine gr rfl ?_
  refine em rfl (by conv=>lhs;whnf) ?_
  refine ev_q rfl (q_load tA2 rfl ?_)
  refine ev_q rfl (q_load tA2 rfl ?_)
  refine ev_q rfl (q_callB rfl rfl (rfl) (D_impl_within ..) ?_)
  intro b3 hb3; cases b3
  · first | replace hb3 := dF hb3 | skip
    refine ev_q rfl (q_not rfl rfl ?_)
    refine ea rfl (by conv=>lhs;whnf) ?_
    refine ev_nil (hK2 _ ?_); clear hK2
    refine good_ret ?_
    repeat first|refine thenQ_ret ?_|refine blockQ_ret ?_
    refine ret_tmp (st := _) rfl (by conv=>lhs;whnf) rfl ?_
    first | rfl | exact fT (by first | omega | grind) | exact fF (by first | omega | grind) | exact fT' (by first | omega | grind) | (exfalso; first | omega | grind)
  · first | replace hb3 := dT hb3 | skip
    refine ev_q rfl (q_not rfl rfl ?_)
    refine ea rfl (by conv=>lhs;whnf) ?_
    refine ev_nil (hK2 _ ?_); clear hK2
    refine good_ret ?_
    repeat first|refine thenQ_ret ?_|refine blockQ_ret ?_
    refine ret_tmp (st := _) rfl (by conv=>lhs;whnf) rfl ?_
    first | rfl | exact fT (by first | omega | grind) | exact fF (by first | omega | grind) | exact fT' (by first | omega | grind) | (exfalso; first | omega | grind)

-- slices.IndexFunc[[]int64,int64]
theorem D_slices_IndexFunc_int64_int64 (f : Nat) (caps : List AV) (p : Int → Prop) [DecidablePred p] (xs : List Int) (hx : xs.length ≤ 17592186044416) (hf : ∀ x ∈ xs, Den Try.prog f (.s (.int .i64 x) :: caps) (.s (.bool (decide (p x))))) : Den Try.prog 176 [.lst 1 (xs.map ci), .fn f caps] (.s (.int .i64 (fiM (fun x => decide (p x)) xs))) := by
  refine den_of_good Try.func176 (by decide) rfl (Nat.le_of_ble_eq_true rfl) (Nat.le_of_ble_eq_true rfl) ?_
  refine good_seq fun K1 hK1 => ?_
  refine gr rfl ?_
  refine ea rfl (by conv=>lhs;whnf) ?_
  refine ev_nil (hK1 _ ?_); clear hK1
  refine good_seq fun K2 hK2 => ?_
  refine good_seq fun K3 hK3 => ?_
  refine gr rfl ?_
  refine em rfl (by conv=>lhs;whnf) ?_
  refine ev_q rfl (q_len tEs22 rfl ?_)
  intro n4 hn4
  try simp only [List.length_map] at hn4
  refine em rfl (by conv=>lhs;whnf) ?_
  refine ev_nil (hK3 _ ?_); clear hK3
  refine good_block ?_
  refine good_loop (α := Nat) (fun i => { env := upd (upd (upd (upd ((fun _ => .junk)) 0 (.lst 1 (xs.map ci))) 1 (.fn f caps)) 7 (.s (.int .i64 ((xs.length : Int))))) 8 (.s (.int .i64 i)), H := fun _ => none }) (fun i => i ≤ xs.length ∧ ∀ j q, j < i → xs[j]? = some q → ¬ p q) (fun i => xs.length - i) 0 ?_ ?_ ?_
  · exact ⟨by omega, fun j u hj => by omega⟩
  · refine sub_weak ?_ ?_
    · exact weakH_none _
    · refine weakE_upd ?e8 ?r8 (weakE_upd ?e7 ?r7 (weakE_upd ?e1 ?r1 (weakE_upd ?e0 ?r0 (weakE_junk _ _))))
      case e0 => first | rfl | exact fI (by omega) | (simp_all)
      case r0 => intro h hh; cases hh
      case e1 => first | rfl | exact fI (by omega) | (simp_all)
      case r1 => intro h hh; cases hh
      case e7 => first | rfl | exact fI (by omega) | (simp_all)
      case r7 => intro h hh; cases hh
      case e8 => first | rfl | exact fI (by omega) | (simp_all)
      case r8 => intro h hh; cases hh
  · rintro i ⟨hI, hJ⟩
    refine good_seq fun K5 hK5 => ?_
    refine gr rfl ?_
    refine ei rfl rfl rfl ?_
    intro b6 hb6; cases b6
    · replace hb6 := dF hb6
      refine ev_nil (hK5 _ ?_); clear hK5
      refine good_seq fun K7 hK7 => ?_
      refine good_condF rfl ?_
      refine good_exit ?_
      repeat first|refine thenQ_exit ?_|refine blockQ_pass rfl ?_
      refine blockQ_exit (hK2 _ ?_); clear hK2
      refine good_seq fun K8 hK8 => ?_
      refine gr rfl ?_
      refine ea rfl (by conv=>lhs;whnf) ?_
      refine ev_nil (hK8 _ ?_); clear hK8
      refine good_ret ?_
      repeat first|refine thenQ_ret ?_|refine blockQ_ret ?_
      refine ret_tmp (st := _) rfl (by conv=>lhs;whnf) rfl ?_
      clear hK7
      first | exact fI (by have e := fi_some (i := i) hq hJ (by assumption); simp only [fiM, e]) | exact fI (by have e := fi_none (all_finI (Q := fun _ q => ¬ p q) hJ (by omega)); simp only [fiM, e])
    · replace hb6 := dT hb6
      obtain ⟨q, hq⟩ := getL (xs := xs) (n := (i : Int)) (by omega) (by omega)
      replace hq : xs[i]? = some q := hq
      refine ev_nil (hK5 _ ?_); clear hK5
      refine good_seq fun K9 hK9 => ?_
      refine good_condT rfl ?_
      refine good_skip (hK9 _ ?_); clear hK9
      refine good_seq fun K10 hK10 => ?_
      refine good_block ?_
      refine good_seq fun K11 hK11 => ?_
      refine gr rfl ?_
      refine em rfl (by conv=>lhs;whnf) ?_
      refine ea rfl (by conv=>lhs;whnf) ?_
      refine ev_nil (hK11 _ ?_); clear hK11
      refine good_seq fun K12 hK12 => ?_
      refine gr rfl ?_
      refine em rfl (by conv=>lhs;whnf) ?_
      refine em rfl (by conv=>lhs;whnf) ?_
      refine em rfl (by conv=>lhs;whnf) ?_
      refine ev_q rfl (q_idx tE22 rfl rfl (by exact Int.natCast_nonneg _) (by exact map_get hq) rfl ?_)
      refine ev_q rfl (q_load tA2 rfl ?_)
      refine ev_q rfl (q_callB rfl rfl (rfl) (hf _ (List.mem_of_getElem? hq)) ?_)
      intro b13 hb13; cases b13
      · first | replace hb13 := dF hb13 | skip
        refine ev_nil (hK12 _ ?_); clear hK12
        refine good_condF rfl ?_
        refine good_skip (hK10 _ ?_); clear hK10
        refine gr rfl ?_
        refine ei rfl rfl rfl ?_
        intro n14 hn14
        replace hn14 := in64 hn14 (by omega) (by omega)
        refine em rfl (by conv=>lhs;whnf) ?_
        refine ev_nil ?_
        clear hK2
        refine ⟨i + 1, ?_, ?_, ?_⟩
        · exact ⟨by omega, all_extI (Q := fun _ q => ¬ p q) hJ hq (by assumption)⟩
        · first | omega | (simp only []; omega) | (dsimp only; omega)
        · refine sub_weak ?_ ?_
          · exact weakH_none _
          · refine weakE_upd ?e8 ?r8 (weakE_upd ?e7 ?r7 (weakE_upd ?e1 ?r1 (weakE_upd ?e0 ?r0 (weakE_junk _ _))))
            case e0 => first | rfl | exact fI (by omega) | (simp_all)
            case r0 => intro h hh; cases hh
            case e1 => first | rfl | exact fI (by omega) | (simp_all)
            case r1 => intro h hh; cases hh
            case e7 => first | rfl | exact fI (by omega) | (simp_all)
            case r7 => intro h hh; cases hh
            case e8 => first | rfl | exact fI (by omega) | (simp_all)
            case r8 => intro h hh; cases hh
      · first | replace hb13 := dT hb13 | skip
        refine ev_nil (hK12 _ ?_); clear hK12
        refine good_condT rfl ?_
        refine good_seq fun K15 hK15 => ?_
        refine gr rfl ?_
        refine em rfl (by conv=>lhs;whnf) ?_
        refine ea rfl (by conv=>lhs;whnf) ?_
        refine ev_nil (hK15 _ ?_); clear hK15
        refine good_ret ?_
        repeat first|refine thenQ_ret ?_|refine blockQ_ret ?_
        refine ret_tmp (st := _) rfl (by conv=>lhs;whnf) rfl ?_
        clear hK2 hK10
        first | exact fI (by have e := fi_some (i := i) hq hJ (by assumption); simp only [fiM, e]) | exact fI (by have e := fi_none (all_finI (Q := fun _ q => ¬ p q) hJ (by omega)); simp only [fiM, e])

-- slices.ContainsFunc[[]int64,int64]
theorem D_slices_ContainsFunc_int64_int64 (f : Nat) (caps : List AV) (p : Int → Prop) [DecidablePred p] (xs : List Int) [Decidable (∃ x ∈ xs, p x)] (hx : xs.length ≤ 17592186044416) (hf : ∀ x ∈ xs, Den Try.prog f (.s (.int .i64 x) :: caps) (.s (.bool (decide (p x))))) : Den Try.prog 139 [.lst 1 (xs.map ci), .fn f caps] (.s (.bool (decide (∃ x ∈ xs, p x)))) := by
  refine den_of_good Try.func139 (by decide) rfl (Nat.le_of_ble_eq_true rfl) (Nat.le_of_ble_eq_true rfl) ?_
  refine good_seq fun K1 hK1 => ?_
  refine gr rfl ?_
  refine ea rfl (by conv=>lhs;whnf) ?_
  refine ev_nil (hK1 _ ?_); clear hK1
  refine good_seq fun K2 hK2 => ?_
  refine gr rfl ?_
  refine em rfl (by conv=>lhs;whnf) ?_
  refine em rfl (by conv=>lhs;whnf) ?_
  refine ev_q rfl (q_callI rfl rfl (rfl) (D_slices_IndexFunc_int64_int64 f caps p xs hx hf) ?_)
  intro n3 hn3
  refine ei rfl rfl rfl ?_
  intro b4 hb4; cases b4
  · replace hb4 := dF hb4
    refine ea rfl (by conv=>lhs;whnf) ?_
    refine ev_nil (hK2 _ ?_); clear hK2
    refine good_ret ?_
    repeat first|refine thenQ_ret ?_|refine blockQ_ret ?_
    refine ret_tmp (st := _) rfl (by conv=>lhs;whnf) rfl ?_
    first | exact fT (fi_any.1 (by omega)) | exact fF (fun h => absurd (fi_any.2 h) (by omega))
  · replace hb4 := dT hb4
    refine ea rfl (by conv=>lhs;whnf) ?_
    refine ev_nil (hK2 _ ?_); clear hK2
    refine good_ret ?_
    repeat first|refine thenQ_ret ?_|refine blockQ_ret ?_
    refine ret_tmp (st := _) rfl (by conv=>lhs;whnf) rfl ?_
    first | exact fT (fi_any.1 (by omega)) | exact fF (fun h => absurd (fi_any.2 h) (by omega))

-- impl.allWithin
theorem D_impl_allWithin (xs : List Int) (lo hi : Int) (hx : xs.length ≤ 17592186044416) : Den Try.prog 70 [.lst 1 (xs.map ci), .s (.int .i64 lo), .s (.int .i64 hi)] (.s (.bool (decide (within xs lo hi)))) := by
  classical
  refine den_of_good Try.func70 (by decide) rfl (Nat.le_of_ble_eq_true rfl) (Nat.le_of_ble_eq_true rfl) ?_
  refine good_seq fun K1 hK1 => ?_
  refine gr rfl ?_
  refine ev_k rfl (k_box (by conv=>lhs;whnf) rfl rfl rfl ?_)
  refine ev_k rfl (k_box (by conv=>lhs;whnf) rfl rfl rfl ?_)
  refine ea rfl (by conv=>lhs;whnf) ?_
  refine ev_nil (hK1 _ ?_); clear hK1
  refine good_seq fun K2 hK2 => ?_
  refine gr rfl ?_
  refine em rfl (by conv=>lhs;whnf) ?_
  refine ev_q rfl (q_clo rfl rfl ?_)
  refine ev_q rfl (q_callB rfl rfl (rfl) (D_slices_ContainsFunc_int64_int64 _ _ (fun x => ¬ (lo ≤ x ∧ x ≤ hi)) xs hx (fun x _ => D_impl_allWithin_1 x lo hi)) ?_)
  intro b3 hb3; cases b3
  · first | replace hb3 := dF hb3 | skip
    refine ev_q rfl (q_not rfl rfl ?_)
    refine ea rfl (by conv=>lhs;whnf) ?_
    refine ev_nil (hK2 _ ?_); clear hK2
    refine good_ret ?_
    repeat first|refine thenQ_ret ?_|refine blockQ_ret ?_
    refine ret_tmp (st := _) rfl (by conv=>lhs;whnf) rfl ?_
    first | exact fT (within_any.2 (by assumption)) | exact fF (fun h => absurd (within_any.1 h) (by simpa using ‹∃ x ∈ xs, ¬ (lo ≤ x ∧ x ≤ hi)›))
  · first | replace hb3 := dT hb3 | skip
    refine ev_q rfl (q_not rfl rfl ?_)
    refine ea rfl (by conv=>lhs;whnf) ?_
    refine ev_nil (hK2 _ ?_); clear hK2
    refine good_ret ?_
    repeat first|refine thenQ_ret ?_|refine blockQ_ret ?_
    refine ret_tmp (st := _) rfl (by conv=>lhs;whnf) rfl ?_
    first | exact fT (within_any.2 (by assumption)) | exact fF (fun h => absurd (within_any.1 h) (by simpa using ‹∃ x ∈ xs, ¬ (lo ≤ x ∧ x ≤ hi)›))

-- (impl.Network).hasNode
theorem D_impl_Network_hasNode (ns : List Int) (ps : List Pi) (k : Int) (hn : ns.length ≤ 17592186044416) : Den Try.prog 71 [.agg [.lst 1 (ns.map ci), .lst 6 (ps.map piA)], .s (.int .i64 k)] (.s (.bool (decide (0 ≤ k ∧ k < ns.length)))) := by
  refine den_of_good Try.func71 (by decide) rfl (Nat.le_of_ble_eq_true rfl) (Nat.le_of_ble_eq_true rfl) ?_
  refine good_seq fun K1 hK1 => ?_
  refine gr rfl ?_
  refine ev_k rfl (k_box (by conv=>lhs;whnf) rfl rfl rfl ?_)
  refine ea rfl (by conv=>lhs;whnf) ?_
  refine ev_nil (hK1 _ ?_); clear hK1
  refine good_seq fun K2 hK2 => ?_
  refine gr rfl ?_
  refine em rfl (by conv=>lhs;whnf) ?_
  refine ev_q rfl (q_fieldAddrP fO31_0 rfl rfl ?_)
  refine ev_q rfl (q_load tA22 rfl ?_)
  refine ev_q rfl (q_len tEs22 rfl ?_)
  intro n3 hn3
  try simp only [List.length_map] at hn3
  refine ei rfl rfl rfl ?_
  intro n4 hn4
  replace hn4 := in64 hn4 (by omega) (by omega)
  refine ev_q rfl (q_callB rfl rfl (rfl) (D_impl_within ..) ?_)
  intro b5 hb5; cases b5
  · first | replace hb5 := dF hb5 | skip
    refine ea rfl (by conv=>lhs;whnf) ?_
    refine ev_nil (hK2 _ ?_); clear hK2
    refine good_ret ?_
    repeat first|refine thenQ_ret ?_|refine blockQ_ret ?_
    refine ret_tmp (st := _) rfl (by conv=>lhs;whnf) rfl ?_
    first | exact fT (by omega) | exact fF (by omega)
  · first | replace hb5 := dT hb5 | skip
    refine ea rfl (by conv=>lhs;whnf) ?_
    refine ev_nil (hK2 _ ?_); clear hK2
    refine good_ret ?_
    repeat first|refine thenQ_ret ?_|refine blockQ_ret ?_
    refine ret_tmp (st := _) rfl (by conv=>lhs;whnf) rfl ?_
    first | exact fT (by omega) | exact fF (by omega)

-- (impl.Network).hasEnds
theorem D_impl_Network_hasEnds (ns : List Int) (ps : List Pi) (s : ByteArray) (fm tt le di lo : Int) (hn : ns.length ≤ 17592186044416) : Den Try.prog 124 [.agg [.lst 1 (ns.map ci), .lst 6 (ps.map piA)], .agg [.s (.string s), .s (.int .i64 fm), .s (.int .i64 tt), .s (.int .i64 le), .s (.int .i64 di), .s (.int .i64 lo)]] (.s (.bool (decide ((0 ≤ fm ∧ fm < ns.length) ∧ (0 ≤ tt ∧ tt < ns.length))))) := by
  refine den_of_good Try.func124 (by decide) rfl (Nat.le_of_ble_eq_true rfl) (Nat.le_of_ble_eq_true rfl) ?_
  refine good_seq fun K1 hK1 => ?_
  refine gr rfl ?_
  refine ev_k rfl (k_box (by conv=>lhs;whnf) rfl rfl rfl ?_)
  refine ev_k rfl (k_box (by conv=>lhs;whnf) rfl rfl rfl ?_)
  refine ea rfl (by conv=>lhs;whnf) ?_
  refine ev_nil (hK1 _ ?_); clear hK1
  refine good_seq fun K2 hK2 => ?_
  refine gr rfl ?_
  refine ev_q rfl (q_loadA tA31 rfl rfl rfl ?_)
  refine ev_q rfl (q_fieldAddrP fO59_1 rfl rfl ?_)
  refine ev_q rfl (q_load tA2 rfl ?_)
  refine ev_q rfl (q_callB rfl rfl (rfl) (D_impl_Network_hasNode _ _ _ hn) ?_)
  intro b3 hb3; cases b3
  · first | replace hb3 := dF hb3 | skip
    refine em rfl (by conv=>lhs;whnf) ?_
    refine ev_skip rfl ?_
    refine ev_skip rfl ?_
    refine ev_skip rfl ?_
    refine ev_skip rfl ?_
    refine ev_q rfl (q_pickF rfl (by conv=>lhs;whnf) ?_)
    refine ea rfl (by conv=>lhs;whnf) ?_
    refine ev_nil (hK2 _ ?_); clear hK2
    refine good_ret ?_
    repeat first|refine thenQ_ret ?_|refine blockQ_ret ?_
    refine ret_tmp (st := _) rfl (by conv=>lhs;whnf) rfl ?_
    first | rfl | exact fT (by first | omega | grind) | exact fF (by first | omega | grind) | exact fT' (by first | omega | grind) | (exfalso; first | omega | grind)
  · first | replace hb3 := dT hb3 | skip
    refine em rfl (by conv=>lhs;whnf) ?_
    refine ev_q rfl (q_loadA tA31 rfl rfl rfl ?_)
    refine ev_q rfl (q_fieldAddrP fO59_2 rfl rfl ?_)
    refine ev_q rfl (q_load tA2 rfl ?_)
    refine ev_q rfl (q_callB rfl rfl (rfl) (D_impl_Network_hasNode _ _ _ hn) ?_)
    intro b4 hb4; cases b4
    · first | replace hb4 := dF hb4 | skip
      refine ev_q rfl (q_pickT rfl (by conv=>lhs;whnf) ?_)
      refine ea rfl (by conv=>lhs;whnf) ?_
      refine ev_nil (hK2 _ ?_); clear hK2
      refine good_ret ?_
      repeat first|refine thenQ_ret ?_|refine blockQ_ret ?_
      refine ret_tmp (st := _) rfl (by conv=>lhs;whnf) rfl ?_
      first | rfl | exact fT (by first | omega | grind) | exact fF (by first | omega | grind) | exact fT' (by first | omega | grind) | (exfalso; first | omega | grind)
    · first | replace hb4 := dT hb4 | skip
      refine ev_q rfl (q_pickT rfl (by conv=>lhs;whnf) ?_)
      refine ea rfl (by conv=>lhs;whnf) ?_
      refine ev_nil (hK2 _ ?_); clear hK2
      refine good_ret ?_
      repeat first|refine thenQ_ret ?_|refine blockQ_ret ?_
      refine ret_tmp (st := _) rfl (by conv=>lhs;whnf) rfl ?_
      first | rfl | exact fT (by first | omega | grind) | exact fF (by first | omega | grind) | exact fT' (by first | omega | grind) | (exfalso; first | omega | grind)

-- spec.l04Node
theorem D_spec_l04Node (ns : List Int) (ps : List Pi) (k : Int) (hn : ns.length ≤ 17592186044416) : Den Try.prog 113 [.rp [.lst 1 (ns.map ci), .lst 6 (ps.map piA)], .s (.int .i64 k)] (.s (.bool (decide (0 ≤ k ∧ k < ns.length)))) := by
  refine den_of_good Try.func113 (by decide) rfl (Nat.le_of_ble_eq_true rfl) (Nat.le_of_ble_eq_true rfl) ?_
  refine good_seq fun K1 hK1 => ?_
  refine gr rfl ?_
  refine ea rfl (by conv=>lhs;whnf) ?_
  refine ev_nil (hK1 _ ?_); clear hK1
  refine good_seq fun K2 hK2 => ?_
  refine gr rfl ?_
  refine em rfl (by conv=>lhs;whnf) ?_
  refine em rfl (by conv=>lhs;whnf) ?_
  refine ev_q rfl (q_nilCheck (by conv=>lhs;whnf) rfl ?_)
  refine ev_q rfl (q_fieldAddr fO31_0 rfl rfl ?_)
  refine ev_q rfl (q_load tA22 rfl ?_)
  refine ev_q rfl (q_len tEs22 rfl ?_)
  intro n3 hn3
  try simp only [List.length_map] at hn3
  refine ei rfl rfl rfl ?_
  intro n4 hn4
  replace hn4 := in64 hn4 (by omega) (by omega)
  refine ev_q rfl (q_callB rfl rfl (rfl) (D_spec_l00In ..) ?_)
  intro b5 hb5; cases b5
  · first | replace hb5 := dF hb5 | skip
    refine ea rfl (by conv=>lhs;whnf) ?_
    refine ev_nil (hK2 _ ?_); clear hK2
    refine good_ret ?_
    repeat first|refine thenQ_ret ?_|refine blockQ_ret ?_
    refine ret_tmp (st := _) rfl (by conv=>lhs;whnf) rfl ?_
    first | exact fT (by omega) | exact fF (by omega)
  · first | replace hb5 := dT hb5 | skip
    refine ea rfl (by conv=>lhs;whnf) ?_
    refine ev_nil (hK2 _ ?_); clear hK2
    refine good_ret ?_
    repeat first|refine thenQ_ret ?_|refine blockQ_ret ?_
    refine ret_tmp (st := _) rfl (by conv=>lhs;whnf) rfl ?_
    first | exact fT (by omega) | exact fF (by omega)

-- spec.l04Fits
theorem D_spec_l04Fits (ns : List Int) (ps : List Pi) (s : ByteArray) (fm tt le di lo : Int) (hn : ns.length ≤ 17592186044416) (hs : s.size ≤ 140737488351232) : Den Try.prog 167 [.rp [.lst 1 (ns.map ci), .lst 6 (ps.map piA)], .rp [.s (.string s), .s (.int .i64 fm), .s (.int .i64 tt), .s (.int .i64 le), .s (.int .i64 di), .s (.int .i64 lo)]] (.s (.bool (decide ((isName s = true ∧ (0 ≤ fm ∧ fm ≤ 15) ∧ (0 ≤ tt ∧ tt ≤ 15) ∧ ¬ fm = tt ∧ (1 ≤ le ∧ le ≤ 10000) ∧ (20 ≤ di ∧ di ≤ 1000) ∧ (0 ≤ lo ∧ lo ≤ 5000)) ∧ fm < ns.length ∧ tt < ns.length)))) := by
  refine den_of_good Try.func167 (by decide) rfl (Nat.le_of_ble_eq_true rfl) (Nat.le_of_ble_eq_true rfl) ?_
  refine good_seq fun K1 hK1 => ?_
  refine gr rfl ?_
  refine ea rfl (by conv=>lhs;whnf) ?_
  refine ev_nil (hK1 _ ?_); clear hK1
  refine good_seq fun K2 hK2 => ?_
  refine good_draw 27 hmix (by kernel_rfl) rfl ?_
  refine qm rfl (by conv=>lhs;whnf) ?_
  refine qo_q rfl (q_callB rfl rfl (rfl) (D_spec_l03Ok _ _ _ _ _ _ hs) ?_)
  intro b3 hb3; cases b3
  · first | replace hb3 := dF hb3 | skip
    refine qm rfl (by conv=>lhs;whnf) ?_
    refine qo_skip rfl ?_
    refine qo_skip rfl ?_
    refine qo_skip rfl ?_
    refine qo_skip rfl ?_
    refine qo_skip rfl ?_
    refine qo_skip rfl ?_
    refine qo_skip rfl ?_
    refine qo_skip rfl ?_
    refine qo_skip rfl ?_
    refine qo_skip rfl ?_
    refine qo_q rfl (q_pickF rfl (by conv=>lhs;whnf) ?_)
    refine qm rfl (by conv=>lhs;whnf) ?_
    refine qo_skip rfl ?_
    refine qo_skip rfl ?_
    refine qo_skip rfl ?_
    refine qo_skip rfl ?_
    refine qo_skip rfl ?_
    refine qo_skip rfl ?_
    refine qo_skip rfl ?_
    refine qo_skip rfl ?_
    refine qo_skip rfl ?_
    refine qo_skip rfl ?_
    refine qo_q rfl (q_pickF rfl (by conv=>lhs;whnf) ?_)
    refine qa rfl (by conv=>lhs;whnf) ?_
    refine qo_nil ?_
    refine ev_nil (hK2 _ ?_); clear hK2
    refine good_ret ?_
    repeat first|refine thenQ_ret ?_|refine blockQ_ret ?_
    refine ret_tmp (st := _) rfl (by conv=>lhs;whnf) rfl ?_
    first | exact fT ⟨by assumption, by omega, by omega⟩ | exact fF (fun h => by first | (have := h.2.1; omega) | (have := h.2.2; omega) | exact absurd h.1 (by assumption))
  · first | replace hb3 := dT hb3 | skip
    refine qm rfl (by conv=>lhs;whnf) ?_
    refine qm rfl (by conv=>lhs;whnf) ?_
    refine qo_q rfl (q_nilCheck (by conv=>lhs;whnf) rfl ?_)
    refine qo_q rfl (q_fieldAddr fO59_1 rfl rfl ?_)
    refine qo_q rfl (q_load tA2 rfl ?_)
    refine qm rfl (by conv=>lhs;whnf) ?_
    refine qo_q rfl (q_nilCheck (by conv=>lhs;whnf) rfl ?_)
    refine qo_q rfl (q_fieldAddr fO31_0 rfl rfl ?_)
    refine qo_q rfl (q_load tA22 rfl ?_)
    refine qo_q rfl (q_len tEs22 rfl ?_)
    intro n4 hn4
    try simp only [List.length_map] at hn4
    refine qo_q rfl (q_int rfl rfl ?_)
    intro b5 hb5; cases b5
    · replace hb5 := dF hb5
      refine qo_q rfl (q_pickT rfl (by conv=>lhs;whnf) ?_)
      refine qm rfl (by conv=>lhs;whnf) ?_
      refine qo_skip rfl ?_
      refine qo_skip rfl ?_
      refine qo_skip rfl ?_
      refine qo_skip rfl ?_
      refine qo_skip rfl ?_
      refine qo_skip rfl ?_
      refine qo_skip rfl ?_
      refine qo_skip rfl ?_
      refine qo_skip rfl ?_
      refine qo_skip rfl ?_
      refine qo_q rfl (q_pickF rfl (by conv=>lhs;whnf) ?_)
      refine qa rfl (by conv=>lhs;whnf) ?_
      refine qo_nil ?_
      refine ev_nil (hK2 _ ?_); clear hK2
      refine good_ret ?_
      repeat first|refine thenQ_ret ?_|refine blockQ_ret ?_
      refine ret_tmp (st := _) rfl (by conv=>lhs;whnf) rfl ?_
      first | exact fT ⟨by assumption, by omega, by omega⟩ | exact fF (fun h => by first | (have := h.2.1; omega) | (have := h.2.2; omega) | exact absurd h.1 (by assumption))
    · replace hb5 := dT hb5
      refine qo_q rfl (q_pickT rfl (by conv=>lhs;whnf) ?_)
      refine qm rfl (by conv=>lhs;whnf) ?_
      refine qm rfl (by conv=>lhs;whnf) ?_
      refine qo_q rfl (q_nilCheck (by conv=>lhs;whnf) rfl ?_)
      refine qo_q rfl (q_fieldAddr fO59_2 rfl rfl ?_)
      refine qo_q rfl (q_load tA2 rfl ?_)
      refine qm rfl (by conv=>lhs;whnf) ?_
      refine qo_q rfl (q_nilCheck (by conv=>lhs;whnf) rfl ?_)
      refine qo_q rfl (q_fieldAddr fO31_0 rfl rfl ?_)
      refine qo_q rfl (q_load tA22 rfl ?_)
      refine qo_q rfl (q_len tEs22 rfl ?_)
      intro n6 hn6
      try simp only [List.length_map] at hn6
      refine qo_q rfl (q_int rfl rfl ?_)
      intro b7 hb7; cases b7
      · replace hb7 := dF hb7
        refine qo_q rfl (q_pickT rfl (by conv=>lhs;whnf) ?_)
        refine qa rfl (by conv=>lhs;whnf) ?_
        refine qo_nil ?_
        refine ev_nil (hK2 _ ?_); clear hK2
        refine good_ret ?_
        repeat first|refine thenQ_ret ?_|refine blockQ_ret ?_
        refine ret_tmp (st := _) rfl (by conv=>lhs;whnf) rfl ?_
        first | exact fT ⟨by assumption, by omega, by omega⟩ | exact fF (fun h => by first | (have := h.2.1; omega) | (have := h.2.2; omega) | exact absurd h.1 (by assumption))
      · replace hb7 := dT hb7
        refine qo_q rfl (q_pickT rfl (by conv=>lhs;whnf) ?_)
        refine qa rfl (by conv=>lhs;whnf) ?_
        refine qo_nil ?_
        refine ev_nil (hK2 _ ?_); clear hK2
        refine good_ret ?_
        repeat first|refine thenQ_ret ?_|refine blockQ_ret ?_
        refine ret_tmp (st := _) rfl (by conv=>lhs;whnf) rfl ?_
        first | exact fT ⟨by assumption, by omega, by omega⟩ | exact fF (fun h => by first | (have := h.2.1; omega) | (have := h.2.2; omega) | exact absurd h.1 (by assumption))

end Go.Proofs.Ytkgnbjgnddfojaa.DFnWays
