/- Walks through the functions that FnBoiling reaches: what each answers. -/
import Derived.Test.YtkgnbjgnddfojaaGreatEvO
import Derived.Test.YtkgnbjgnddfojaaGreatProg
import Derived.Test.YtkgnbjgnddfojaaGreatEvS
import Derived.Test.YtkgnbjgnddfojaaGreatPlain
set_option linter.unusedVariables false
set_option linter.unusedSimpArgs false
set_option maxRecDepth 20000
set_option maxHeartbeats 2000000
namespace Go.Proofs.YtkgnbjgnddfojaaGreat.DFnBoiling
open Go Go.RowKit Go.Proofs Go.Proofs.YtkgnbjgnddfojaaGreat Go.Proofs.YtkgnbjgnddfojaaGreat.Ev
def ci (n : Int) : AV := .s (.int .i64 n)
def within (xs : List Int) (lo hi : Int) : Prop := ∀ (j : Nat) (q : Int), xs[j]? = some q → lo ≤ q ∧ q ≤ hi
noncomputable instance (xs : List Int) (lo hi : Int) : Decidable (within xs lo hi) := Classical.propDecidable _
theorem all_extI {α : Type} {xs : List α} {i : Nat} {Q : Nat → α → Prop} {p : α} (hJ : ∀ j q, j < i → xs[j]? = some q → Q j q) (hp : xs[i]? = some p) (h : Q i p) : ∀ j q, j < i + 1 → xs[j]? = some q → Q j q := by
  intro j q hj hq
  by_cases e : j = i
  · subst e; rw [hp] at hq; cases hq; exact h
  · exact hJ j q (by omega) hq
theorem all_finI {α : Type} {xs : List α} {i : Nat} {Q : Nat → α → Prop} (hJ : ∀ j q, j < i → xs[j]? = some q → Q j q) (hi : xs.length ≤ i) : ∀ j q, xs[j]? = some q → Q j q := by
  intro j q hq
  exact hJ j q (by have := (List.getElem?_eq_some_iff.1 hq).1; omega) hq
def fiM {α : Type} (f : α → Bool) (xs : List α) : Int := match xs.findIdx? f with
  | some j => (j : Int)
  | none => -1
theorem fi_some {α : Type} {xs : List α} {p : α → Prop} [DecidablePred p] {i : Nat} {q : α} (hq : xs[i]? = some q) (hJ : ∀ (j : Nat) (q : α), j < i → xs[j]? = some q → ¬ p q) (h : p q) : xs.findIdx? (fun x => decide (p x)) = some i := by
  rw [List.findIdx?_eq_some_iff_getElem]
  obtain ⟨hl, he⟩ := List.getElem?_eq_some_iff.1 hq
  refine ⟨hl, by simpa [he] using h, fun j hj => ?_⟩
  simpa using hJ j _ hj (List.getElem?_eq_getElem (by omega))
theorem fi_none {α : Type} {xs : List α} {p : α → Prop} [DecidablePred p] (hJ : ∀ (j : Nat) (q : α), xs[j]? = some q → ¬ p q) : xs.findIdx? (fun x => decide (p x)) = none := by
  rw [List.findIdx?_eq_none_iff]
  intro x hx
  obtain ⟨j, hj⟩ := List.getElem?_of_mem hx
  simpa using hJ j x hj
theorem fi_any {α : Type} {xs : List α} {p : α → Prop} [DecidablePred p] : (0 : Int) ≤ fiM (fun x => decide (p x)) xs ↔ ∃ x ∈ xs, p x := by
  unfold fiM
  cases h : xs.findIdx? (fun x => decide (p x)) with
  | none =>
    rw [List.findIdx?_eq_none_iff] at h
    simp at h ⊢
    exact h
  | some j =>
    rw [List.findIdx?_eq_some_iff_getElem] at h
    obtain ⟨hl, h1, _⟩ := h
    simp only [Int.natCast_nonneg, true_iff]
    exact ⟨_, List.getElem_mem hl, by simpa using h1⟩
theorem within_any {xs : List Int} {lo hi : Int} : within xs lo hi ↔ ¬ ∃ x ∈ xs, ¬ (lo ≤ x ∧ x ≤ hi) := by
  constructor
  · intro h ⟨x, hx, hn⟩
    obtain ⟨j, hj⟩ := List.getElem?_of_mem hx
    exact hn (h j x hj)
  · intro h j q hq
    apply Classical.byContradiction
    intro hn
    exact h ⟨q, List.mem_of_getElem? hq, hn⟩
def small (u : UInt8) : Bool := decide (97 ≤ u.toNat ∧ u.toNat ≤ 122)
def digit (u : UInt8) : Bool := decide (48 ≤ u.toNat ∧ u.toNat ≤ 57)
def nbc (u : UInt8) : Bool := small u || digit u
def allNb (s : ByteArray) : Bool := s.data.all nbc
def head1 (s : ByteArray) : Bool := match s[0]? with
  | some u => small u
  | none => false
def isName (s : ByteArray) : Bool := decide (1 ≤ s.size) && decide (s.size ≤ 10) && head1 s && allNb s
theorem getB {s : ByteArray} {i : Nat} (h : i < s.size) : ∃ u, s[i]? = some u := ⟨s[i], by simp [h]⟩
theorem allNb_T {s : ByteArray} (h : ∀ j u, j < s.size → s[j]? = some u → nbc u = true) : allNb s = true := by
  unfold allNb
  rw [Array.all_eq_true]
  intro i hi
  exact h i _ hi (getElem?_pos s i hi)
theorem allNb_F {s : ByteArray} {j : Nat} {u : UInt8} (h : s[j]? = some u) (hn : nbc u = false) : allNb s = false := by
  have hj : j < s.size := by
    apply Classical.byContradiction; intro hc
    rw [getElem?_neg s j hc] at h; cases h
  unfold allNb
  rw [Array.all_eq_false]
  refine ⟨j, hj, ?_⟩
  rw [getElem?_pos s j hj] at h
  cases h
  intro hc
  have hc2 : nbc s[j] = true := hc
  rw [hn] at hc2; cases hc2
theorem isName_long {s : ByteArray} (h : ¬ s.size ≤ 10) : isName s = false := by simp [isName, h]
theorem isName_none {s : ByteArray} (h : s.size = 0) : isName s = false := by simp [isName, h]
theorem isName_head {s : ByteArray} {u : UInt8} (h : s[0]? = some u) (hn : small u = false) : isName s = false := by simp [isName, head1, h, hn]
theorem isName_eq {s : ByteArray} {u : UInt8} (h1 : 1 ≤ s.size) (h2 : s.size ≤ 10) (h : s[0]? = some u) (hn : small u = true) : isName s = allNb s := by simp [isName, head1, h, hn, h1, h2]
theorem fB {b c : Bool} (h : b = c) : AV.s (.bool b) = .s (.bool c) := by rw [h]
def tot {α : Type} (f : α → Nat) (xs : List α) (i : Nat) : Nat := ((xs.take i).map f).sum
theorem tot_zero {α : Type} (f : α → Nat) (xs : List α) : tot f xs 0 = 0 := by simp [tot]
theorem tot_step {α : Type} {f : α → Nat} {xs : List α} {i : Nat} {p : α} (h : xs[i]? = some p) : tot f xs (i + 1) = tot f xs i + f p := by
  unfold tot
  rw [List.take_add_one, h]; simp
theorem tot_le {α : Type} {f : α → Nat} {xs : List α} {i : Nat} : tot f xs i ≤ tot f xs xs.length := by
  unfold tot
  rw [List.take_length]
  have e : (xs.map f).sum = ((xs.take i).map f).sum + ((xs.drop i).map f).sum := by rw [← List.sum_append, ← List.map_append, List.take_append_drop]
  omega
theorem tot_end {α : Type} {f : α → Nat} {xs : List α} {i : Nat} (h : xs.length ≤ i) : tot f xs i = tot f xs xs.length := by
  unfold tot; rw [List.take_of_length_le h, List.take_of_length_le (Nat.le_refl _)]
theorem bytesLess_tri : ∀ (x y : List UInt8), Op.bytesLess x y = false ↔ (Op.bytesLess y x = true ∨ y = x)
  | [], [] => by simp [Op.bytesLess]
  | [], _ :: _ => by simp [Op.bytesLess]
  | _ :: _, [] => by simp [Op.bytesLess]
  | a :: x, b :: y => by
    have ih := bytesLess_tri x y
    have e1 : (a = b) ↔ a.toNat = b.toNat := ⟨fun h => by rw [h], fun h => UInt8.toNat_inj.1 h⟩
    have e2 : a < b ↔ a.toNat < b.toNat := UInt8.lt_iff_toNat_lt
    have e3 : b < a ↔ b.toNat < a.toNat := UInt8.lt_iff_toNat_lt
    by_cases h : a = b
    · subst h; simp [Op.bytesLess, ih]
    · have l : Op.bytesLess (a :: x) (b :: y) = decide (a < b) := by simp [Op.bytesLess, h]
      have r : Op.bytesLess (b :: y) (a :: x) = decide (b < a) := by simp [Op.bytesLess, Ne.symm h]
      have hn : ¬ a.toNat = b.toNat := fun e => h (e1.2 e)
      have hc : ¬ (b :: y = a :: x) := fun e => h (List.cons.inj e).1.symm
      rw [l, r]
      simp only [decide_eq_false_iff_not, decide_eq_true_eq, e2, e3, hc, or_false]
      omega
def idLt (x y : ByteArray) : Prop := Op.bytesLess x.toList y.toList = true
theorem all_extS {α : Type} {xs : List α} {i : Nat} {Q : Nat → α → Prop} {p : α} (hJ : ∀ j q, j < i → xs[j]? = some q → Q j q) (hp : xs[i]? = some p) (h : Q i p) : ∀ j q, j < i + 1 → xs[j]? = some q → Q j q := by
  intro j q hj hq
  by_cases e : j = i
  · subst e; rw [hp] at hq; cases hq; exact h
  · exact hJ j q (by omega) hq
theorem all_finS {α : Type} {xs : List α} {i : Nat} {Q : Nat → α → Prop} (hJ : ∀ j q, j < i → xs[j]? = some q → Q j q) (hi : xs.length ≤ i) : ∀ j q, xs[j]? = some q → Q j q := by
  intro j q hq
  exact hJ j q (by have := (List.getElem?_eq_some_iff.1 hq).1; omega) hq
theorem lt_ge {x y : ByteArray} (h : false = !Op.bytesLess x.toList y.toList) : idLt x y := by simpa [idLt] using h.symm
theorem nlt_ge {x y : ByteArray} (h : true = !Op.bytesLess x.toList y.toList) : ¬ idLt x y := by simp [idLt]; simpa using h.symm
theorem lt_le {x y : ByteArray} (h : false = (Op.bytesLess y.toList x.toList || y.toList == x.toList)) : idLt x y := by
  unfold idLt
  cases e : Op.bytesLess x.toList y.toList with
  | true => rfl
  | false =>
    have := (bytesLess_tri _ _).1 e
    rcases this with h1 | h1
    · rw [h1] at h; simp at h
    · rw [h1] at h; simp at h
theorem nlt_le {x y : ByteArray} (h : true = (Op.bytesLess y.toList x.toList || y.toList == x.toList)) : ¬ idLt x y := by
  unfold idLt
  intro e
  have : Op.bytesLess x.toList y.toList = false := (bytesLess_tri _ _).2 (by have h2 := h.symm; simp only [Bool.or_eq_true, beq_iff_eq] at h2; exact h2)
  rw [this] at e; cases e
structure Pi where
  id : ByteArray
  fm : Int
  tt : Int
  le : Int
  di : Int
  lo : Int
def piA (x : Pi) : AV := .agg [.s (.string x.id), .s (.int .i64 x.fm), .s (.int .i64 x.tt), .s (.int .i64 x.le), .s (.int .i64 x.di), .s (.int .i64 x.lo)]
def piZ : AV := .agg [.s (.string ⟨#[]⟩), .s (.int .i64 0), .s (.int .i64 0), .s (.int .i64 0), .s (.int .i64 0), .s (.int .i64 0)]
def piOk (x : Pi) : Prop := isName x.id = true ∧ (0 ≤ x.fm ∧ x.fm ≤ 15) ∧ (0 ≤ x.tt ∧ x.tt ≤ 15) ∧ ¬ x.fm = x.tt ∧ (1 ≤ x.le ∧ x.le ≤ 10000) ∧ (20 ≤ x.di ∧ x.di ≤ 1000) ∧ (0 ≤ x.lo ∧ x.lo ≤ 5000)
def piAt (ns : List Int) (ps : List Pi) (j : Nat) (x : Pi) : Prop := (piOk x ∧ x.fm < ns.length ∧ x.tt < ns.length) ∧ ∀ y, 0 < j → ps[j - 1]? = some y → idLt y.id x.id
def netOk (ns : List Int) (ps : List Pi) : Prop := ((1 ≤ ns.length ∧ ns.length ≤ 16) ∧ within ns (-100000) 100000 ∧ ps.length ≤ 20) ∧ ∀ (j : Nat) (x : Pi), ps[j]? = some x → piAt ns ps j x
noncomputable instance (ns : List Int) (ps : List Pi) : Decidable (netOk ns ps) := Classical.propDecidable _
theorem net_no {ns : List Int} {ps : List Pi} {i : Nat} {p : Pi} (h : ps[i]? = some p) (hn : ¬ piAt ns ps i p) : ¬ netOk ns ps := fun ⟨_, h2⟩ => hn (h2 i p h)
def idSz (ps : List Pi) : Prop := ∀ (j : Nat) (x : Pi), ps[j]? = some x → x.id.size ≤ 140737488351232
/-- Two nodes with pipes between them. -/
inductive Conn (es : List (Nat × Nat)) : Nat → Nat → Prop
  | rfl (u : Nat) : Conn es u u
  | step {u v w : Nat} : Conn es u v → ((v, w) ∈ es ∨ (w, v) ∈ es) → Conn es u w
theorem Conn.trans {es : List (Nat × Nat)} {u v w : Nat} (h : Conn es u v) (k : Conn es v w) : Conn es u w := by
  induction k with
  | rfl => exact h
  | step _ e ih => exact .step ih e
theorem Conn.symm {es : List (Nat × Nat)} {u v : Nat} (h : Conn es u v) : Conn es v u := by
  induction h with
  | rfl => exact .rfl _
  | step _ e ih => exact Conn.trans (.step (.rfl _) e.symm) ih
theorem Conn.mono {es fs : List (Nat × Nat)} (hs : ∀ e ∈ es, e ∈ fs) {u v : Nat} (h : Conn es u v) : Conn fs u v := by
  induction h with
  | rfl => exact .rfl _
  | step _ e ih => exact .step ih (e.imp (hs _) (hs _))
/-- A labelling, and one pipe more. -/
def mrg (L : Nat → Nat) (a b : Nat) : Nat → Nat := fun j => if L j = b then a else L j
def trS (L : Nat → Nat) (e : Nat × Nat) : Nat → Nat := if L e.1 = L e.2 then L else mrg L (L e.1) (L e.2)
def trL : List (Nat × Nat) → Nat → Nat
  | [] => id
  | e :: es => trS (trL es) e
/-- The pipes that join (the list is read from its end). -/
def trC : List (Nat × Nat) → Nat
  | [] => 0
  | e :: es => if trL es e.1 = trL es e.2 then trC es else trC es + 1
theorem tr_idem (es : List (Nat × Nat)) (j : Nat) : trL es (trL es j) = trL es j := by
  induction es generalizing j with
  | nil => rfl
  | cons e es ih =>
    show trS (trL es) e (trS (trL es) e j) = trS (trL es) e j
    unfold trS
    split
    · exact ih j
    · rename_i h
      unfold mrg
      by_cases h1 : trL es j = trL es e.2
      · simp only [h1, if_true]
        rw [ih e.1, if_neg h]
      · simp only [if_neg h1]
        rw [ih j, if_neg h1]
theorem tr_conn (es : List (Nat × Nat)) (u v : Nat) : trL es u = trL es v ↔ Conn es u v := by
  constructor
  · induction es generalizing u v with
    | nil => intro h; have : u = v := h; subst this; exact .rfl _
    | cons e es ih =>
      have up : ∀ {a b}, Conn es a b → Conn (e :: es) a b := fun h => h.mono (fun x hx => List.mem_cons_of_mem _ hx)
      have he : Conn (e :: es) e.1 e.2 := .step (.rfl _) (.inl List.mem_cons_self)
      intro h
      have h' : trS (trL es) e u = trS (trL es) e v := h
      unfold trS at h'
      split at h'
      · exact up (ih u v h')
      · unfold mrg at h'
        by_cases h1 : trL es u = trL es e.2
        · have c1 : Conn (e :: es) e.1 u := he.trans (up (ih _ _ h1.symm))
          by_cases h2 : trL es v = trL es e.2
          · exact c1.symm.trans (he.trans (up (ih _ _ h2.symm)))
          · rw [if_pos h1, if_neg h2] at h'
            exact c1.symm.trans (up (ih _ _ h'))
        · by_cases h2 : trL es v = trL es e.2
          · rw [if_neg h1, if_pos h2] at h'
            exact (up (ih _ _ h')).trans (he.trans (up (ih _ _ h2.symm)))
          · rw [if_neg h1, if_neg h2] at h'
            exact up (ih _ _ h')
  · intro h
    have edge : ∀ (es : List (Nat × Nat)) (e : Nat × Nat), e ∈ es → trL es e.1 = trL es e.2 := by
      intro es
      induction es with
      | nil => intro e he; cases he
      | cons x es ih =>
        intro e he
        show trS (trL es) x e.1 = trS (trL es) x e.2
        rcases List.mem_cons.1 he with rfl | he
        · unfold trS
          split
          · assumption
          · unfold mrg
            rename_i hn
            rw [if_neg hn, if_pos rfl]
        · have := ih e he
          unfold trS
          split
          · exact this
          · unfold mrg; rw [this]
    induction h with
    | rfl => rfl
    | step _ e ih =>
      rcases e with e | e
      · exact ih.trans (edge es _ e)
      · exact ih.trans (edge es _ e).symm
/-- Those that are their own label. -/
def reps (L : Nat → Nat) : Nat → Nat
  | 0 => 0
  | n + 1 => if L n = n then reps L n + 1 else reps L n
theorem reps_id (n : Nat) : reps id n = n := by
  induction n with
  | zero => rfl
  | succ n ih => unfold reps; rw [if_pos (show id n = n from rfl), ih]
theorem reps_same {L M : Nat → Nat} : ∀ n : Nat, (∀ j, j < n → (L j = j ↔ M j = j)) → reps L n = reps M n
  | 0, _ => rfl
  | n + 1, h => by
    have ih := reps_same n (fun j hj => h j (by omega))
    have hn := h n (by omega)
    unfold reps
    by_cases e : L n = n
    · rw [if_pos e, if_pos (hn.1 e), ih]
    · rw [if_neg e, if_neg (fun k => e (hn.2 k)), ih]
theorem reps_less {L M : Nat → Nat} {b : Nat} : ∀ n : Nat, b < n → L b = b → ¬ M b = b → (∀ j, j < n → j ≠ b → (L j = j ↔ M j = j)) → reps L n = reps M n + 1
  | 0, h, _, _, _ => by omega
  | n + 1, h, hb, hm, hj => by
    by_cases e : b = n
    · subst e
      have := reps_same (L := L) (M := M) b (fun j h => hj j (by omega) (by omega))
      unfold reps; rw [if_pos hb, if_neg hm, this]
    · have ih := reps_less n (by omega) hb hm (fun j h => hj j (by omega))
      have hn := hj n (by omega) (fun h => e h.symm)
      unfold reps
      by_cases k : L n = n
      · rw [if_pos k, if_pos (hn.1 k), ih]
      · rw [if_neg k, if_neg (fun q => k (hn.2 q)), ih]
theorem tr_lt {n : Nat} : ∀ (es : List (Nat × Nat)), (∀ e ∈ es, e.1 < n ∧ e.2 < n) → ∀ j, j < n → trL es j < n
  | [], _, j, hj => hj
  | e :: es, h, j, hj => by
    have ih := tr_lt es (fun x hx => h x (List.mem_cons_of_mem _ hx))
    have he := h e List.mem_cons_self
    show trS (trL es) e j < n
    unfold trS
    split
    · exact ih j hj
    · unfold mrg; split
      · exact ih _ he.1
      · exact ih j hj
theorem tr_reps {n : Nat} : ∀ (es : List (Nat × Nat)), (∀ e ∈ es, e.1 < n ∧ e.2 < n) → reps (trL es) n + trC es = n
  | [], _ => by show reps id n + 0 = n; rw [reps_id]; rfl
  | e :: es, h => by
    have ih := tr_reps es (fun x hx => h x (List.mem_cons_of_mem _ hx))
    have hlt := tr_lt es (fun x hx => h x (List.mem_cons_of_mem _ hx))
    have he := h e List.mem_cons_self
    by_cases c : trL es e.1 = trL es e.2
    · have e1 : trL (e :: es) = trL es := by show trS (trL es) e = _; unfold trS; rw [if_pos c]
      have e2 : trC (e :: es) = trC es := if_pos c
      rw [e1, e2]; exact ih
    · have e1 : trL (e :: es) = mrg (trL es) (trL es e.1) (trL es e.2) := by show trS (trL es) e = _; unfold trS; rw [if_neg c]
      have e2 : trC (e :: es) = trC es + 1 := if_neg c
      have hi := tr_idem es
      have := reps_less (L := trL es) (M := trL (e :: es)) (b := trL es e.2) n (hlt _ he.2) (hi _) (by
        rw [e1]; unfold mrg; rw [hi, if_pos rfl]; exact c) (fun j hj hb => by
        rw [e1]; unfold mrg
        by_cases k : trL es j = trL es e.2
        · rw [if_pos k]
          constructor
          · intro q; exact absurd (q.symm.trans k) hb
          · intro q
            have h9 := hi e.1
            rw [q] at h9
            exact absurd (h9.symm.trans k) hb
        · rw [if_neg k])
      omega
theorem reps_pos {L : Nat → Nat} {r : Nat} : ∀ n : Nat, r < n → L r = r → 1 ≤ reps L n
  | 0, h, _ => by omega
  | n + 1, h, hr => by
    unfold reps
    by_cases e : r = n
    · subst e; rw [if_pos hr]; omega
    · have := reps_pos n (by omega) hr
      split <;> omega
theorem reps_zero {L : Nat → Nat} : ∀ n : Nat, (∀ j, j < n → ¬ L j = j) → reps L n = 0
  | 0, _ => rfl
  | n + 1, h => by
    unfold reps
    rw [if_neg (h n (by omega))]
    exact reps_zero n (fun j hj => h j (by omega))
theorem reps_drop {L : Nat → Nat} {n r : Nat} (h : r < n) (hr : L r = r) : reps L n = reps (fun j => if j = r then r + 1 else L j) n + 1 :=
  reps_less n h hr (by simp) (fun j _ hj => by simp only [if_neg hj])
theorem reps_uniq {L : Nat → Nat} {n a b : Nat} (h1 : reps L n = 1) (ha : a < n) (hb : b < n) (h2 : L a = a) (h3 : L b = b) : a = b := by
  apply Classical.byContradiction
  intro hn
  have e := reps_drop ha h2
  have := reps_pos (L := fun j => if j = a then a + 1 else L j) (r := b) n hb (by show (if b = a then a + 1 else L b) = b; rw [if_neg (fun h => hn h.symm)]; exact h3)
  omega
theorem reps_one {L : Nat → Nat} {n r : Nat} (h : r < n) (hr : L r = r) (hu : ∀ j, j < n → L j = j → j = r) : reps L n = 1 := by
  have e := reps_drop h hr
  have := reps_zero (L := fun j => if j = r then r + 1 else L j) n (fun j hj hk => by
    by_cases c : j = r
    · simp only [if_pos c] at hk; omega
    · simp only [if_neg c] at hk; exact c (hu j hj hk))
  omega
/-- All nodes hang together exactly when as many pipes join as there are nodes but one. -/
theorem tree_conn {n s : Nat} {es : List (Nat × Nat)} (h : ∀ e ∈ es, e.1 < n ∧ e.2 < n) (hs : s < n) : trC es + 1 = n ↔ ∀ v, v < n → Conn es s v := by
  have hr := tr_reps es h
  have hl := tr_lt es h
  have hi := tr_idem es
  constructor
  · intro hc v hv
    refine (tr_conn es s v).1 ?_
    exact reps_uniq (L := trL es) (n := n) (by omega) (hl s hs) (hl v hv) (hi s) (hi v)
  · intro hc
    have := reps_one (L := trL es) (n := n) (r := trL es s) (hl s hs) (hi s) (fun j hj hk => by
      rw [← hk]; exact ((tr_conn es s j).2 (hc j hj)).symm)
    omega
/-- The search from a node: one pipe, all pipes, all nodes. -/
def nxt (e : Nat × Nat) (u : Nat) : Option Nat := if u = e.1 then some e.2 else if u = e.2 then some e.1 else none
def bfE (u : Nat) (ks : List Nat) (e : Nat × Nat) : List Nat := match nxt e u with
  | some v => if v ∈ ks then ks else ks ++ [v]
  | none => ks
def bfI (es : List (Nat × Nat)) (u : Nat) (ks : List Nat) : List Nat := es.foldl (bfE u) ks
def bfO (es : List (Nat × Nat)) : Nat → Nat → List Nat → List Nat
  | 0, _, ks => ks
  | f + 1, k, ks => match ks[k]? with
    | some u => bfO es f (k + 1) (bfI es u ks)
    | none => ks
theorem nxt_edge {e : Nat × Nat} {u v : Nat} (h : nxt e u = some v) : (u, v) = e ∨ (v, u) = e := by
  unfold nxt at h
  split at h
  · cases h; left; rename_i c; rw [c]
  · split at h
    · cases h; right; rename_i c; rw [c]
    · cases h
/-- What holds of the known nodes. -/
structure Inv (es : List (Nat × Nat)) (n s : Nat) (ks : List Nat) : Prop where
  nd : ks.Nodup
  lt : ∀ v ∈ ks, v < n
  cn : ∀ v ∈ ks, Conn es s v
  st : s ∈ ks
theorem bfE_pre {u : Nat} {ks : List Nat} {e : Nat × Nat} : ∃ t, bfE u ks e = ks ++ t := by
  unfold bfE
  split
  · split
    · exact ⟨[], by simp⟩
    · exact ⟨_, rfl⟩
  · exact ⟨[], by simp⟩
theorem bfI_pre {u : Nat} : ∀ (es : List (Nat × Nat)) (ks : List Nat), ∃ t, bfI es u ks = ks ++ t
  | [], ks => ⟨[], by simp [bfI]⟩
  | e :: es, ks => by
    obtain ⟨t, ht⟩ := bfE_pre (u := u) (ks := ks) (e := e)
    obtain ⟨r, hr⟩ := bfI_pre (u := u) es (ks ++ t)
    refine ⟨t ++ r, ?_⟩
    show bfI es u (bfE u ks e) = _
    rw [ht, hr, List.append_assoc]
theorem bfE_inv {es : List (Nat × Nat)} {n s u : Nat} {ks : List Nat} {e : Nat × Nat} (hr : e.1 < n ∧ e.2 < n) (he : e ∈ es) (hu : u ∈ ks) (h : Inv es n s ks) : Inv es n s (bfE u ks e) := by
  unfold bfE
  split
  · rename_i v hv
    split
    · exact h
    · rename_i hn
      have hc : Conn es s v := .step (h.cn u hu) (by
        rcases nxt_edge hv with c | c
        · left; rw [c]; exact he
        · right; rw [c]; exact he)
      have hlt : v < n := by
        rcases nxt_edge hv with c | c
        · rw [← c] at hr; exact hr.2
        · rw [← c] at hr; exact hr.1
      refine ⟨?_, fun w hw => ?_, fun w hw => ?_, List.mem_append_left _ h.st⟩
      · rw [List.nodup_append]
        refine ⟨h.nd, by simp, fun a ha b hb => ?_⟩
        simp at hb; subst hb
        intro k; subst k; exact hn ha
      · rcases List.mem_append.1 hw with c | c
        · exact h.lt w c
        · simp at c; subst c; exact hlt
      · rcases List.mem_append.1 hw with c | c
        · exact h.cn w c
        · simp at c; subst c; exact hc
  · exact h
theorem bfI_inv {es : List (Nat × Nat)} {n s u : Nat} (hr : ∀ e ∈ es, e.1 < n ∧ e.2 < n) : ∀ (fs : List (Nat × Nat)) (ks : List Nat), (∀ e ∈ fs, e ∈ es) → u ∈ ks → Inv es n s ks → Inv es n s (bfI fs u ks)
  | [], ks, _, _, h => h
  | e :: fs, ks, hf, hu, h => by
    obtain ⟨t, ht⟩ := bfE_pre (u := u) (ks := ks) (e := e)
    have he := hf e List.mem_cons_self
    exact bfI_inv hr fs (bfE u ks e) (fun x hx => hf x (List.mem_cons_of_mem _ hx)) (by rw [ht]; exact List.mem_append_left _ hu) (bfE_inv (hr e he) he hu h)
theorem bfI_closed {u : Nat} : ∀ (es : List (Nat × Nat)) (ks : List Nat) (e : Nat × Nat) (v : Nat), e ∈ es → nxt e u = some v → v ∈ bfI es u ks
  | x :: es, ks, e, v, he, hv => by
    show v ∈ bfI es u (bfE u ks x)
    rcases List.mem_cons.1 he with c | c
    · subst c
      obtain ⟨t, ht⟩ := bfI_pre (u := u) es (bfE u ks e)
      rw [ht]
      refine List.mem_append_left _ ?_
      unfold bfE
      rw [hv]
      simp only
      split
      · assumption
      · simp
    · exact bfI_closed es _ e v c hv
theorem len_le {n : Nat} : ∀ (ks : List Nat), ks.Nodup → (∀ v ∈ ks, v < n) → ks.length ≤ n := by
  induction n with
  | zero =>
    intro ks _ h
    cases ks with
    | nil => simp
    | cons v _ => exact absurd (h v List.mem_cons_self) (by omega)
  | succ n ih =>
    intro ks hd h
    have h1 := ih (ks.erase n) (hd.erase n) (fun v hv => by
      have := h v (List.mem_of_mem_erase hv)
      have : v ≠ n := fun c => by subst c; exact (List.Nodup.not_mem_erase hd) hv
      omega)
    have := List.length_erase (a := n) (l := ks)
    by_cases c : n ∈ ks
    · rw [if_pos (by simpa using c)] at this; omega
    · rw [if_neg (by simpa using c)] at this; omega
/-- What is behind has its neighbours known. -/
def Cl (es : List (Nat × Nat)) (k : Nat) (ks : List Nat) : Prop := ∀ (j u : Nat), j < k → ks[j]? = some u → ∀ e ∈ es, ∀ v, nxt e u = some v → v ∈ ks
theorem Cl.next {es : List (Nat × Nat)} {k u : Nat} {ks : List Nat} (h : Cl es k ks) (hu : ks[k]? = some u) : Cl es (k + 1) (bfI es u ks) := by
  intro j w hj hw e he v hv
  obtain ⟨t, ht⟩ := bfI_pre (u := u) es ks
  by_cases c : j = k
  · subst c
    have hl := (List.getElem?_eq_some_iff.1 hu).1
    rw [ht, List.getElem?_append_left hl, hu] at hw
    cases hw
    exact bfI_closed es ks e v he hv
  · have hl := (List.getElem?_eq_some_iff.1 hu).1
    rw [ht, List.getElem?_append_left (by omega)] at hw
    rw [ht]
    exact List.mem_append_left _ (h j w (by omega) hw e he v hv)
theorem bfO_spec {es : List (Nat × Nat)} {n s : Nat} (hr : ∀ e ∈ es, e.1 < n ∧ e.2 < n) : ∀ (f k : Nat) (ks : List Nat), Inv es n s ks → Cl es k ks → n ≤ k + f → Inv es n s (bfO es f k ks) ∧ (∀ u ∈ bfO es f k ks, ∀ e ∈ es, ∀ v, nxt e u = some v → v ∈ bfO es f k ks)
  | 0, k, ks, h, hc, hf => ⟨h, fun u hu e he v hv => by
      replace hu : u ∈ ks := hu
      show v ∈ ks
      obtain ⟨j, hj⟩ := List.getElem?_of_mem hu
      have hl := len_le ks h.nd h.lt
      exact hc j u (by have := (List.getElem?_eq_some_iff.1 hj).1; omega) hj e he v hv⟩
  | f + 1, k, ks, h, hc, hf => by
    unfold bfO
    cases hk : ks[k]? with
    | none =>
      refine ⟨h, fun u hu e he v hv => ?_⟩
      replace hu : u ∈ ks := hu
      show v ∈ ks
      obtain ⟨j, hj⟩ := List.getElem?_of_mem hu
      have : ks.length ≤ k := List.getElem?_eq_none_iff.1 hk
      exact hc j u (by have := (List.getElem?_eq_some_iff.1 hj).1; omega) hj e he v hv
    | some u =>
      exact bfO_spec hr f (k + 1) (bfI es u ks) (bfI_inv hr es ks (fun _ h => h) (List.mem_of_getElem? hk) h) (hc.next hk) (by omega)
/-- The nodes that the search finds. -/
def found (es : List (Nat × Nat)) (n s : Nat) : List Nat := bfO es n 0 [s]
theorem found_inv {es : List (Nat × Nat)} {n s : Nat} (hr : ∀ e ∈ es, e.1 < n ∧ e.2 < n) (hs : s < n) : Inv es n s (found es n s) ∧ (∀ v, v ∈ found es n s ↔ Conn es s v) := by
  have h := bfO_spec hr n 0 [s] ⟨by simp, fun v hv => by simp at hv; subst hv; exact hs, fun v hv => by simp at hv; subst hv; exact .rfl _, by simp⟩ (fun j u hj => by omega) (by omega)
  refine ⟨h.1, fun v => ⟨h.1.cn v, fun hc => ?_⟩⟩
  show v ∈ bfO es n 0 [s]
  induction hc with
  | rfl => exact h.1.st
  | @step u w _ e ih =>
    have ih := ih
    rcases e with e | e
    · refine h.2 u ih _ e w ?_
      unfold nxt; simp
    · refine h.2 u ih _ e w ?_
      unfold nxt
      by_cases c : u = w
      · subst c; simp
      · rw [if_neg c]; simp
theorem found_len {es : List (Nat × Nat)} {n s : Nat} (hr : ∀ e ∈ es, e.1 < n ∧ e.2 < n) (hs : s < n) : (found es n s).length = n ↔ ∀ v, v < n → Conn es s v := by
  have h := found_inv hr hs
  have hl := len_le (n := n) _ h.1.nd h.1.lt
  constructor
  · intro e v hv
    refine (h.2 v).1 ?_
    apply Classical.byContradiction
    intro hn
    have := len_le (n := n) (v :: found es n s) (List.nodup_cons.2 ⟨hn, h.1.nd⟩) (fun w hw => by
      rcases List.mem_cons.1 hw with c | c
      · subst c; exact hv
      · exact h.1.lt w c)
    simp at this; omega
  · intro hc
    have key : ∀ m : Nat, m ≤ n → ∀ ks : List Nat, ks.Nodup → (∀ v, v < m → v ∈ ks) → m ≤ ks.length := by
      intro m
      induction m with
      | zero => intro _ ks _ _; omega
      | succ m ih =>
        intro hm ks hd hk
        have hmem := hk m (by omega)
        have := ih (by omega) (ks.erase m) (hd.erase m) (fun v hv => (List.mem_erase_of_ne (by omega)).2 (hk v (by omega)))
        rw [List.length_erase_of_mem hmem] at this
        have := List.length_pos_of_mem hmem
        omega
    have := key n (Nat.le_refl _) _ h.1.nd (fun v hv => (h.2 v).2 (hc v hv))
    omega
/-- Both ways to tell a tree. -/
theorem tree_found {es : List (Nat × Nat)} {n s : Nat} (hr : ∀ e ∈ es, e.1 < n ∧ e.2 < n) (hs : s < n) : trC es + 1 = n ↔ (found es n s).length = n :=
  (tree_conn hr hs).trans (found_len hr hs).symm
/-- The search that keeps its ways: node, node before, pipe. -/
def wyE (u i : Nat) (st : List Nat × List (Nat × Nat × Nat)) (e : Nat × Nat) : List Nat × List (Nat × Nat × Nat) := match nxt e u with
  | some v => if v ∈ st.1 then st else (st.1 ++ [v], st.2 ++ [(v, u, i)])
  | none => st
def wyI (u : Nat) : List (Nat × Nat) → Nat → List Nat × List (Nat × Nat × Nat) → List Nat × List (Nat × Nat × Nat)
  | [], _, st => st
  | e :: es, i, st => wyI u es (i + 1) (wyE u i st e)
def wyO (es : List (Nat × Nat)) : Nat → Nat → List Nat × List (Nat × Nat × Nat) → List Nat × List (Nat × Nat × Nat)
  | 0, _, st => st
  | f + 1, k, st => match st.1[k]? with
    | some u => wyO es f (k + 1) (wyI u es 0 st)
    | none => st
theorem wyE_1 {u i : Nat} {st : List Nat × List (Nat × Nat × Nat)} {e : Nat × Nat} : (wyE u i st e).1 = bfE u st.1 e := by
  unfold wyE bfE
  split
  · split <;> rfl
  · rfl
theorem wyI_1 {u : Nat} : ∀ (es : List (Nat × Nat)) (i : Nat) (st : List Nat × List (Nat × Nat × Nat)), (wyI u es i st).1 = bfI es u st.1
  | [], _, _ => rfl
  | e :: es, i, st => by
    show (wyI u es (i + 1) (wyE u i st e)).1 = bfI es u (bfE u st.1 e)
    rw [wyI_1 es, wyE_1]
theorem wyO_1 {es : List (Nat × Nat)} : ∀ (f k : Nat) (st : List Nat × List (Nat × Nat × Nat)), (wyO es f k st).1 = bfO es f k st.1
  | 0, _, _ => rfl
  | f + 1, k, st => by
    unfold wyO bfO
    cases st.1[k]? with
    | none => rfl
    | some u =>
      show (wyO es f (k + 1) (wyI u es 0 st)).1 = bfO es f (k + 1) (bfI es u st.1)
      rw [wyO_1 f, wyI_1]
/-- What holds of the ways: the nodes are the source and theirs, each by a pipe from a known node. -/
structure WInv (es : List (Nat × Nat)) (s : Nat) (st : List Nat × List (Nat × Nat × Nat)) : Prop where
  hd : st.1 = s :: st.2.map fun w => w.1
  ed : ∀ w ∈ st.2, ∃ e, es[w.2.2]? = some e ∧ nxt e w.2.1 = some w.1 ∧ w.2.1 ∈ st.1
theorem wyE_inv {es : List (Nat × Nat)} {s u i : Nat} {st : List Nat × List (Nat × Nat × Nat)} {e : Nat × Nat} (he : es[i]? = some e) (hu : u ∈ st.1) (h : WInv es s st) : WInv es s (wyE u i st e) := by
  unfold wyE
  split
  · rename_i v hv
    split
    · exact h
    · refine ⟨?_, fun w hw => ?_⟩
      · show st.1 ++ [v] = s :: (st.2 ++ [(v, u, i)]).map _
        rw [List.map_append, ← List.cons_append, ← h.hd]; rfl
      · rcases List.mem_append.1 hw with c | c
        · obtain ⟨e, a, b, d⟩ := h.ed w c
          exact ⟨e, a, b, List.mem_append_left _ d⟩
        · simp at c; subst c
          exact ⟨e, he, hv, List.mem_append_left _ hu⟩
  · exact h
theorem wyI_inv {es : List (Nat × Nat)} {s u : Nat} : ∀ (fs : List (Nat × Nat)) (i : Nat) (st : List Nat × List (Nat × Nat × Nat)), (∀ j e, fs[j]? = some e → es[i + j]? = some e) → u ∈ st.1 → WInv es s st → WInv es s (wyI u fs i st)
  | [], _, _, _, _, h => h
  | e :: fs, i, st, hf, hu, h => by
    show WInv es s (wyI u fs (i + 1) (wyE u i st e))
    refine wyI_inv fs (i + 1) _ (fun j x hx => ?_) ?_ (wyE_inv (hf 0 e rfl) hu h)
    · have := hf (j + 1) x (by simpa using hx)
      rwa [show i + 1 + j = i + (j + 1) by omega]
    · rw [wyE_1]
      obtain ⟨t, ht⟩ := bfE_pre (u := u) (ks := st.1) (e := e)
      rw [ht]; exact List.mem_append_left _ hu
theorem wyO_inv {es : List (Nat × Nat)} {s : Nat} : ∀ (f k : Nat) (st : List Nat × List (Nat × Nat × Nat)), WInv es s st → WInv es s (wyO es f k st)
  | 0, _, _, h => h
  | f + 1, k, st, h => by
    unfold wyO
    cases hk : st.1[k]? with
    | none => exact h
    | some u => exact wyO_inv f (k + 1) _ (wyI_inv es 0 st (fun j e he => by rw [Nat.zero_add]; exact he) (List.mem_of_getElem? hk) h)
/-- The ways from a node. -/
def waysF (es : List (Nat × Nat)) (n s : Nat) : List Nat × List (Nat × Nat × Nat) := wyO es n 0 ([s], [])
theorem waysF_1 {es : List (Nat × Nat)} {n s : Nat} : (waysF es n s).1 = found es n s := wyO_1 n 0 ([s], [])
theorem waysF_inv {es : List (Nat × Nat)} {n s : Nat} : WInv es s (waysF es n s) := wyO_inv n 0 _ ⟨rfl, fun w hw => by cases hw⟩
def pe (p : Pi) : Nat × Nat := (p.fm.toNat, p.tt.toNat)
/-- The first pipes, the last one ahead. -/
def esL (ps : List Pi) (i : Nat) : List (Nat × Nat) := ((ps.take i).map pe).reverse
theorem esL_s {ps : List Pi} {i : Nat} {p : Pi} (h : ps[i]? = some p) : esL ps (i + 1) = pe p :: esL ps i := by
  unfold esL
  rw [List.take_add_one, h]; simp
theorem esL_lt {ns : List Int} {ps : List Pi} (h : netOk ns ps) (i : Nat) : ∀ e ∈ esL ps i, e.1 < ns.length ∧ e.2 < ns.length := fun e he => by
  unfold esL at he
  rw [List.mem_reverse, List.mem_map] at he
  obtain ⟨p, hp, rfl⟩ := he
  obtain ⟨j, hj⟩ := List.getElem?_of_mem (List.mem_of_mem_take hp)
  have := (h.2 j p hj).1
  have h1 := this.1.2.1
  have h2 := this.1.2.2.1
  unfold pe
  simp only
  omega
/-- The row of labels. -/
def lbR (L : Nat → Nat) (n : Nat) : List AV := (List.range n).map fun j => ci ((L j : Nat) : Int)
theorem lbR_len {L : Nat → Nat} {n : Nat} : (lbR L n).length = n := by simp [lbR]
theorem lbR_get {L : Nat → Nat} {n : Nat} {k : Int} (h0 : 0 ≤ k) (h : k < n) : (lbR L n)[k.toNat]? = some (ci ((L k.toNat : Nat) : Int)) := by
  unfold lbR
  rw [List.getElem?_map, List.getElem?_range (by omega)]; rfl
theorem lbR_s {n : Nat} : lbR id n ++ [ci (n : Int)] = lbR id (n + 1) := by
  unfold lbR
  rw [List.range_succ, List.map_append]; rfl
/-- Some labels changed. -/
def mgL (L : Nat → Nat) (a b j : Nat) : Nat → Nat := fun m => if m < j ∧ L m = b then a else L m
theorem mgL_0 {L : Nat → Nat} {a b : Nat} : mgL L a b 0 = L := by funext m; unfold mgL; rw [if_neg (by omega)]
theorem mgL_end {L : Nat → Nat} {a b n : Nat} : lbR (mgL L a b n) n = lbR (mrg L a b) n := by
  unfold lbR
  refine List.map_congr_left fun m hm => ?_
  have : m < n := by simpa using hm
  unfold mgL mrg
  by_cases h : L m = b
  · rw [if_pos ⟨this, h⟩, if_pos h]
  · rw [if_neg (fun k => h k.2), if_neg h]
theorem mgL_F {L : Nat → Nat} {a b j : Nat} (h : ¬ L j = b) : mgL L a b (j + 1) = mgL L a b j := by
  funext m
  unfold mgL
  by_cases c : m = j
  · subst c; rw [if_neg (fun k => h k.2), if_neg (fun k => h k.2)]
  · by_cases d : m < j ∧ L m = b
    · rw [if_pos d, if_pos ⟨by omega, d.2⟩]
    · rw [if_neg d, if_neg (fun k => d ⟨by omega, k.2⟩)]
theorem mgL_T {L : Nat → Nat} {a b j n : Nat} (hj : j < n) (h : L j = b) : (lbR (mgL L a b j) n).set j (ci ((a : Nat) : Int)) = lbR (mgL L a b (j + 1)) n := by
  refine List.ext_getElem? fun m => ?_
  unfold lbR
  rw [List.getElem?_set]
  by_cases c : j = m
  · subst c
    rw [if_pos rfl]
    simp only [List.length_map, List.length_range, hj, if_true, List.getElem?_map, List.getElem?_range hj, Option.map_some]
    unfold mgL
    rw [if_pos ⟨by omega, h⟩]
  · rw [if_neg c, List.getElem?_map, List.getElem?_map]
    by_cases hm : m < n
    · rw [List.getElem?_range hm]
      simp only [Option.map_some]
      unfold mgL
      by_cases d : m < j ∧ L m = b
      · rw [if_pos d, if_pos ⟨by omega, d.2⟩]
      · rw [if_neg d, if_neg (fun k => d ⟨by omega, k.2⟩)]
    · rw [List.getElem?_eq_none (by simp; omega)]; rfl
theorem mgL_at {L : Nat → Nat} {a b j : Nat} : mgL L a b j j = L j := if_neg (by omega)
theorem lbR_gm {L : Nat → Nat} {a b m n : Nat} (h : m < n) : (lbR (mgL L a b m) n)[m]? = some (ci ((L m : Nat) : Int)) := by
  have := lbR_get (L := mgL L a b m) (n := n) (k := (m : Int)) (by omega) (by omega)
  have e : ((m : Int)).toNat = m := rfl
  rw [e, mgL_at] at this; exact this
theorem trL_s {ps : List Pi} {i : Nat} {p : Pi} (h : ps[i]? = some p) {n : Nat} (hn : ¬ trL (esL ps i) p.fm.toNat = trL (esL ps i) p.tt.toNat) : lbR (mrg (trL (esL ps i)) (trL (esL ps i) p.fm.toNat) (trL (esL ps i) p.tt.toNat)) n = lbR (trL (esL ps (i + 1))) n ∧ trC (esL ps (i + 1)) = trC (esL ps i) + 1 := by
  rw [esL_s h]
  refine ⟨?_, if_neg hn⟩
  congr 1
  exact (if_neg hn).symm
theorem trL_e {ps : List Pi} {i : Nat} {p : Pi} (h : ps[i]? = some p) (hn : trL (esL ps i) p.fm.toNat = trL (esL ps i) p.tt.toNat) : trL (esL ps (i + 1)) = trL (esL ps i) ∧ trC (esL ps (i + 1)) = trC (esL ps i) := by
  rw [esL_s h]
  exact ⟨if_pos hn, if_pos hn⟩
/-- The pipes that join. -/
def trO (ps : List Pi) : Nat → List Int
  | 0 => []
  | i + 1 => match ps[i]? with
    | some p => if trL (esL ps i) p.fm.toNat = trL (esL ps i) p.tt.toNat then trO ps i else trO ps i ++ [(i : Int)]
    | none => trO ps i
theorem trO_T {ps : List Pi} {i : Nat} {p : Pi} (h : ps[i]? = some p) (hn : trL (esL ps i) p.fm.toNat = trL (esL ps i) p.tt.toNat) : trO ps (i + 1) = trO ps i := by
  show (match ps[i]? with | some p => if trL (esL ps i) p.fm.toNat = trL (esL ps i) p.tt.toNat then trO ps i else trO ps i ++ [(i : Int)] | none => trO ps i) = _
  rw [h]; exact if_pos hn
theorem trO_F {ps : List Pi} {i : Nat} {p : Pi} (h : ps[i]? = some p) (hn : ¬ trL (esL ps i) p.fm.toNat = trL (esL ps i) p.tt.toNat) : trO ps (i + 1) = trO ps i ++ [(i : Int)] := by
  show (match ps[i]? with | some p => if trL (esL ps i) p.fm.toNat = trL (esL ps i) p.tt.toNat then trO ps i else trO ps i ++ [(i : Int)] | none => trO ps i) = _
  rw [h]; exact if_neg hn
theorem trO_len {ps : List Pi} : ∀ i : Nat, i ≤ ps.length → (trO ps i).length = trC (esL ps i)
  | 0, _ => rfl
  | i + 1, hi => by
    have ih := trO_len (ps := ps) i (by omega)
    have hp : ps[i]? = some (ps[i]'(by omega)) := List.getElem?_eq_getElem (by omega)
    by_cases h : trL (esL ps i) (ps[i]'(by omega)).fm.toNat = trL (esL ps i) (ps[i]'(by omega)).tt.toNat
    · rw [trO_T hp h, (trL_e hp h).2, ih]
    · rw [trO_F hp h, (trL_s (n := 0) hp h).2, List.length_append, ih]; rfl
theorem trC_le {ps : List Pi} (i : Nat) : trC (esL ps i) ≤ i := by
  induction i with
  | zero => simp [esL, trC]
  | succ i ih =>
    by_cases h : i < ps.length
    · have hp : ps[i]? = some (ps[i]'h) := List.getElem?_eq_getElem h
      rw [esL_s hp]
      by_cases c : trL (esL ps i) (pe (ps[i]'h)).1 = trL (esL ps i) (pe (ps[i]'h)).2
      · have : trC (pe (ps[i]'h) :: esL ps i) = trC (esL ps i) := if_pos c
        omega
      · have : trC (pe (ps[i]'h) :: esL ps i) = trC (esL ps i) + 1 := if_neg c
        omega
    · have : esL ps (i + 1) = esL ps i := by unfold esL; rw [List.take_of_length_le (by omega), List.take_of_length_le (by omega)]
      rw [this]; omega
def wLt (K : Int → Int) (a b : Int) : Prop := K b < K a ∨ (K a = K b ∧ a < b)
def iot (n : Nat) : List Int := (List.range n).map fun j : Nat => (j : Int)
def restR (i n : Nat) : List Int := (List.range' i (n - i)).map fun j : Nat => (j : Int)
def insOk (K : Int → Int) (S : List Int) : Prop := S.Pairwise (wLt K) ∧ S.Perm (iot S.length)
def rowS (S : List Int) (n : Nat) : List Int := S ++ restR S.length n
def rowAB (A B : List Int) (n : Nat) : List Int := A ++ ((A.length + B.length : Nat) : Int) :: (B ++ restR (A.length + B.length + 1) n)
theorem iot_s {n : Nat} : iot (n + 1) = iot n ++ [(n : Int)] := by simp [iot, List.range_succ]
theorem iot_mem {n : Nat} {x : Int} (h : x ∈ iot n) : 0 ≤ x ∧ x < n := by
  obtain ⟨j, hj, rfl⟩ := List.mem_map.1 h
  have := List.mem_range.1 hj; omega
theorem iot_len {n : Nat} : (iot n).length = n := by simp [iot]
theorem restR_s {i n : Nat} (h : i < n) : restR i n = (i : Int) :: restR (i + 1) n := by
  unfold restR
  obtain ⟨k, hk⟩ : ∃ k, n - i = k + 1 := ⟨n - i - 1, by omega⟩
  rw [hk, List.range'_succ, List.map_cons, show n - (i + 1) = k by omega]
theorem restR_0 {n : Nat} : restR 0 n = iot n := by simp [restR, iot, List.range_eq_range']
theorem rowS_full {S : List Int} {n : Nat} (h : n ≤ S.length) : rowS S n = S := by unfold rowS restR; rw [show n - S.length = 0 by omega]; simp
theorem rowS_x0 {n : Nat} : iot n = rowS (if n = 0 then [] else [0]) n := by
  by_cases h : n = 0
  · subst h; rfl
  · rw [if_neg h, ← restR_0, restR_s (by omega)]; rfl
theorem rowS_AB {S : List Int} {n : Nat} (h : S.length < n) : rowS S n = rowAB S [] n := by
  unfold rowS rowAB; rw [restR_s h]; simp
theorem rowAB_S {A B : List Int} {n : Nat} : rowAB A B n = rowS (A ++ ((A.length + B.length : Nat) : Int) :: B) n := by
  unfold rowS rowAB
  rw [List.append_assoc, show (A ++ ((A.length + B.length : Nat) : Int) :: B).length = A.length + B.length + 1 by simp; omega]
  rfl
theorem rowAB_v {A B : List Int} {n : Nat} : (rowAB A B n)[A.length]? = some ((A.length + B.length : Nat) : Int) := by simp [rowAB]
theorem rowAB_a {A A' B : List Int} {a : Int} {n k : Nat} (h : A = A' ++ [a]) (hk : k = A'.length) : (rowAB A B n)[k]? = some a := by subst h hk; simp [rowAB]
theorem rowAB_sw {A A' B : List Int} {a : Int} {n k : Nat} (h : A = A' ++ [a]) (hk : k = A'.length) : (((rowAB A B n).map ci).set A.length (ci a)).set k (ci ((A.length + B.length : Nat) : Int)) = (rowAB A' (a :: B) n).map ci := by
  subst h hk
  rw [← List.map_set, ← List.map_set]
  congr 1
  have e : A'.length + (a :: B).length = (A' ++ [a]).length + B.length := by simp; omega
  unfold rowAB
  rw [e]
  simp [List.set_append]
theorem iot_ok0 {K : Int → Int} {n : Nat} : insOk K (if n = 0 then [] else [0]) := by
  by_cases h : n = 0
  · rw [if_pos h]; exact ⟨.nil, .refl _⟩
  · rw [if_neg h]; exact ⟨by simp, .refl _⟩
theorem last_ex : ∀ {A : List Int}, 0 < A.length → ∃ A' a, A = A' ++ [a] := fun {A} h => ⟨A.dropLast, A.getLast (by intro e; subst e; simp at h), (List.dropLast_concat_getLast _).symm⟩
theorem ins_mem {K : Int → Int} {S : List Int} {x : Int} (h : insOk K S) (hx : x ∈ S) : 0 ≤ x ∧ x < S.length := iot_mem (h.2.mem_iff.1 hx)
theorem ins_end {K : Int → Int} {A B : List Int} {i : Nat} (hi : A.length + B.length = i) (h : insOk K (A ++ B)) (hB : ∀ x ∈ B, K x < K i) (hA : A.length = 0 ∨ ∃ A' a, A = A' ++ [a] ∧ ¬ K a < K i) : insOk K (A ++ (i : Int) :: B) := by
  obtain ⟨hp, hq⟩ := h
  obtain ⟨p1, p2, p3⟩ := List.pairwise_append.1 hp
  have hlen : (A ++ B).length = i := by simp; exact hi
  have key : ∀ x ∈ A, K i ≤ K x := by
    rcases hA with h0 | ⟨A', a, rfl, ha⟩
    · intro x hx; rw [List.eq_nil_of_length_eq_zero h0] at hx; cases hx
    · intro x hx
      rcases List.mem_append.1 hx with h1 | h1
      · have := (List.pairwise_append.1 p1).2.2 x h1 a (by simp)
        unfold wLt at this; omega
      · simp at h1; subst h1; omega
  refine ⟨List.pairwise_append.2 ⟨p1, List.pairwise_cons.2 ⟨fun b hb => .inl (hB b hb), p2⟩, fun x hx y hy => ?_⟩, ?_⟩
  · rcases List.mem_cons.1 hy with e | e
    · subst e
      have h1 := key x hx
      have h2 := ins_mem (K := K) ⟨hp, hq⟩ (List.mem_append.2 (.inl hx))
      rw [hlen] at h2
      unfold wLt; omega
    · exact p3 x hx y e
  · rw [show (A ++ (i : Int) :: B).length = i + 1 by simp; omega, iot_s]
    rw [hlen] at hq
    exact (List.perm_middle.trans (List.Perm.cons _ hq)).trans (List.perm_append_singleton _ _).symm
theorem ins_uniq {K : Int → Int} {S T : List Int} (h : insOk K S) (h2 : insOk K T) (hl : S.length = T.length) : S = T :=
  List.Perm.eq_of_pairwise (le := wLt K) (fun a b _ _ h1 h2 => by unfold wLt at h1 h2; omega) h.1 h2.1 (h.2.trans (by rw [hl]; exact h2.2.symm))
def wLe (K : Int → Int) (a b : Int) : Bool := decide (K b < K a ∨ (K a = K b ∧ a ≤ b))
def wl (K : Int → Int) (n : Nat) : List Int := (iot n).mergeSort (wLe K)
theorem wl_len {K : Int → Int} {n : Nat} : (wl K n).length = n := by unfold wl; rw [List.length_mergeSort, iot_len]
theorem iot_nd {n : Nat} : (iot n).Pairwise (· ≠ ·) := by
  unfold iot
  rw [List.pairwise_map]
  exact (List.pairwise_lt_range (n := n)).imp (fun h => by omega)
theorem wl_ok {K : Int → Int} {n : Nat} : insOk K (wl K n) := by
  have hp : (wl K n).Perm (iot n) := List.mergeSort_perm _ _
  refine ⟨?_, by rw [wl_len]; exact hp⟩
  have h1 : (wl K n).Pairwise (fun a b => wLe K a b = true) := List.pairwise_mergeSort (fun a b c h1 h2 => by simp only [wLe, decide_eq_true_eq] at *; omega) (fun a b => by simp only [wLe, Bool.or_eq_true, decide_eq_true_eq]; omega) _
  have h2 : (wl K n).Pairwise (· ≠ ·) := (hp.pairwise_iff (fun h => Ne.symm h)).2 iot_nd
  exact (h1.and h2).imp (fun ⟨h, h3⟩ => by simp only [wLe, decide_eq_true_eq] at h; unfold wLt; omega)
theorem wl_eq {K : Int → Int} {S : List Int} {n : Nat} (h : insOk K S) (hl : S.length = n) : wl K n = S := ins_uniq wl_ok h (wl_len.trans hl.symm)
def toI (ks : List Nat) : List Int := ks.map (fun (v : Nat) => (v : Int))
theorem toI_len {ks : List Nat} : (toI ks).length = ks.length := by simp [toI]
theorem toI_get {ks : List Nat} {k u : Nat} (h : ks[k]? = some u) : ((toI ks).map ci)[((k : Nat) : Int).toNat]? = some (ci (u : Int)) := by
  have e : (((k : Nat) : Int)).toNat = k := rfl
  rw [e]; unfold toI
  rw [List.getElem?_map, List.getElem?_map, h]; rfl
theorem toI_mem {ks : List Nat} {x : Int} (h0 : 0 ≤ x) : x ∈ toI ks ↔ x.toNat ∈ ks := by
  unfold toI
  rw [List.mem_map]
  constructor
  · rintro ⟨v, hv, rfl⟩; simpa using hv
  · intro h; exact ⟨x.toNat, h, by omega⟩
theorem toI_app {ks : List Nat} {x : Int} (h0 : 0 ≤ x) : (toI ks).map ci ++ [ci x] = (toI (ks ++ [x.toNat])).map ci := by
  unfold toI
  rw [List.map_append, List.map_append]
  have : ((x.toNat : Nat) : Int) = x := by omega
  simp [this]
def oth (fm tt k : Int) : Int := if k = fm then tt else if k = tt then fm else 0
theorem oth_y {p : Pi} {u : Nat} (h1 : 0 ≤ p.fm) (h2 : 0 ≤ p.tt) (h : (u : Int) = p.fm ∨ (u : Int) = p.tt) : nxt (pe p) u = some (oth p.fm p.tt u).toNat ∧ 0 ≤ oth p.fm p.tt u := by
  unfold nxt pe oth
  by_cases c : (u : Int) = p.fm
  · rw [if_pos c, if_pos (show u = p.fm.toNat by omega)]; exact ⟨rfl, h2⟩
  · rw [if_neg c, if_neg (show ¬ u = p.fm.toNat by omega)]
    have d : (u : Int) = p.tt := by omega
    rw [if_pos d, if_pos (show u = p.tt.toNat by omega)]; exact ⟨rfl, h1⟩
theorem oth_n {p : Pi} {u : Nat} (h1 : 0 ≤ p.fm) (h2 : 0 ≤ p.tt) (h : ¬ ((u : Int) = p.fm ∨ (u : Int) = p.tt)) : nxt (pe p) u = none := by
  unfold nxt pe
  rw [if_neg (show ¬ u = p.fm.toNat by omega), if_neg (show ¬ u = p.tt.toNat by omega)]
theorem bfE_F {e : Nat × Nat} {u : Nat} {v : List Nat} (h : nxt e u = none) : bfE u v e = v := by unfold bfE; rw [h]
theorem bfE_M {e : Nat × Nat} {u x : Nat} {v : List Nat} (h : nxt e u = some x) (hm : x ∈ v) : bfE u v e = v := by unfold bfE; rw [h]; exact if_pos hm
theorem bfE_T {e : Nat × Nat} {u x : Nat} {v : List Nat} (h : nxt e u = some x) (hm : ¬ x ∈ v) : bfE u v e = v ++ [x] := by unfold bfE; rw [h]; exact if_neg hm
theorem bfI_d {ps : List Pi} {i u : Nat} {p : Pi} {v : List Nat} (h : ps[i]? = some p) : bfI ((ps.map pe).drop i) u v = bfI ((ps.map pe).drop (i + 1)) u (bfE u v (pe p)) := by
  have hl := (List.getElem?_eq_some_iff.1 h).1
  have hg : (ps.map pe)[i]'(by simpa using hl) = pe p := by
    have := (List.getElem?_eq_some_iff.1 h).2
    simp [this]
  rw [List.drop_eq_getElem_cons (by simpa using hl), hg]; rfl
theorem bfI_end {ps : List Pi} {i u : Nat} {v : List Nat} (h : ps.length ≤ i) : bfI ((ps.map pe).drop i) u v = v := by
  rw [List.drop_of_length_le (by simpa using h)]; rfl
theorem bfO_s {es : List (Nat × Nat)} {n k u : Nat} {w : List Nat} (h : w[k]? = some u) (hk : k < n) : bfO es (n - k) k w = bfO es (n - (k + 1)) (k + 1) (bfI es u w) := by
  have e : n - k = (n - (k + 1)) + 1 := by omega
  rw [e]
  show (match w[k]? with | some u => _ | none => _) = _
  rw [h]
theorem bfO_e {es : List (Nat × Nat)} {k f : Nat} {w : List Nat} (h : w.length ≤ k) : bfO es f k w = w := by
  cases f with
  | zero => rfl
  | succ f =>
    show (match w[k]? with | some u => _ | none => _) = _
    rw [List.getElem?_eq_none h]
theorem esF_lt {ns : List Int} {ps : List Pi} (h : netOk ns ps) : ∀ e ∈ ps.map pe, e.1 < ns.length ∧ e.2 < ns.length := fun e he => by
  obtain ⟨p, hp, rfl⟩ := List.mem_map.1 he
  obtain ⟨j, hj⟩ := List.getElem?_of_mem hp
  have := (h.2 j p hj).1
  have h1 := this.1.2.1
  have h2 := this.1.2.2.1
  unfold pe
  simp only
  omega
theorem has_iff {x : Int} {xs : List Int} : 0 ≤ fiM (fun y => decide (x = y)) xs ↔ x ∈ xs := fi_any.trans ⟨fun ⟨y, h, e⟩ => by rw [e]; exact h, fun h => ⟨x, h, rfl⟩⟩
def treeP (ns : List Int) (ps : List Pi) : Prop := ps.length + 1 = ns.length ∧ ∀ v, v < ns.length → Conn (ps.map pe) 0 v
noncomputable instance (ns : List Int) (ps : List Pi) : Decidable (treeP ns ps) := Classical.propDecidable _
theorem esL_conn {ps : List Pi} {n : Nat} : (∀ v, v < n → Conn (esL ps ps.length) 0 v) ↔ ∀ v, v < n → Conn (ps.map pe) 0 v := by
  have hm : ∀ e, e ∈ esL ps ps.length ↔ e ∈ ps.map pe := fun e => by unfold esL; rw [List.take_length, List.mem_reverse]
  exact ⟨fun h v hv => (h v hv).mono fun e he => (hm e).1 he, fun h v hv => (h v hv).mono fun e he => (hm e).2 he⟩
def flP (ps : List Pi) (fl : List Int) : Prop := fl.length = ps.length ∧ within fl (-100000) 100000
noncomputable instance (ps : List Pi) (fl : List Int) : Decidable (flP ps fl) := Classical.propDecidable _
noncomputable def fcC (ns : List Int) (ps : List Pi) (s : Int) (fl : List Int) : Int := if netOk ns ps then (if 0 ≤ s ∧ s < ns.length then (if flP ps fl then (if treeP ns ps then 0 else 6) else 7) else 2) else 1
theorem ask_y {ns : List Int} {ps : List Pi} {s n : Int} {fl : List Int} (h : n = if netOk ns ps then (if 0 ≤ s ∧ s < ns.length then 0 else 2) else 1) : (n = 0 → netOk ns ps ∧ (0 ≤ s ∧ s < ns.length)) ∧ (¬ n = 0 → fcC ns ps s fl = n) := by
  by_cases a : netOk ns ps
  · by_cases b : 0 ≤ s ∧ s < ns.length
    · rw [if_pos a, if_pos b] at h; exact ⟨fun _ => ⟨a, b⟩, fun k => absurd h k⟩
    · rw [if_pos a, if_neg b] at h; subst h; exact ⟨fun k => by omega, fun _ => by unfold fcC; rw [if_pos a, if_neg b]⟩
  · rw [if_neg a] at h; subst h; exact ⟨fun k => by omega, fun _ => by unfold fcC; rw [if_neg a]⟩
def wyA (w : Nat × Nat × Nat) : AV := .agg [.s (.int .i64 (w.1 : Int)), .s (.int .i64 (w.2.1 : Int)), .s (.int .i64 (w.2.2 : Int))]
theorem wyE_F {e : Nat × Nat} {u i : Nat} {y : List Nat × List (Nat × Nat × Nat)} (h : nxt e u = none) : wyE u i y e = y := by unfold wyE; rw [h]
theorem wyE_M {e : Nat × Nat} {u i x : Nat} {y : List Nat × List (Nat × Nat × Nat)} (h : nxt e u = some x) (hm : x ∈ y.1) : wyE u i y e = y := by unfold wyE; rw [h]; exact if_pos hm
theorem wyE_T {e : Nat × Nat} {u i x : Nat} {y : List Nat × List (Nat × Nat × Nat)} (h : nxt e u = some x) (hm : ¬ x ∈ y.1) : wyE u i y e = (y.1 ++ [x], y.2 ++ [(x, u, i)]) := by unfold wyE; rw [h]; exact if_neg hm
theorem wyI_d {ps : List Pi} {i u : Nat} {p : Pi} {y : List Nat × List (Nat × Nat × Nat)} (h : ps[i]? = some p) : wyI u ((ps.map pe).drop i) i y = wyI u ((ps.map pe).drop (i + 1)) (i + 1) (wyE u i y (pe p)) := by
  have hl := (List.getElem?_eq_some_iff.1 h).1
  have hg : (ps.map pe)[i]'(by simpa using hl) = pe p := by
    have := (List.getElem?_eq_some_iff.1 h).2
    simp [this]
  rw [List.drop_eq_getElem_cons (by simpa using hl), hg]; rfl
theorem wyI_end {ps : List Pi} {i u : Nat} {y : List Nat × List (Nat × Nat × Nat)} (h : ps.length ≤ i) : wyI u ((ps.map pe).drop i) i y = y := by
  rw [List.drop_of_length_le (by simpa using h)]; rfl
theorem wyO_s {es : List (Nat × Nat)} {n k u : Nat} {y : List Nat × List (Nat × Nat × Nat)} (h : y.1[k]? = some u) (hk : k < n) : wyO es (n - k) k y = wyO es (n - (k + 1)) (k + 1) (wyI u es 0 y) := by
  have e : n - k = (n - (k + 1)) + 1 := by omega
  rw [e]
  show (match y.1[k]? with | some u => _ | none => _) = _
  rw [h]
theorem wyO_e {es : List (Nat × Nat)} {k f : Nat} {y : List Nat × List (Nat × Nat × Nat)} (h : y.1.length ≤ k) : wyO es f k y = y := by
  cases f with
  | zero => rfl
  | succ f =>
    show (match y.1[k]? with | some u => _ | none => _) = _
    rw [List.getElem?_eq_none h]
theorem wyA_app {ws : List (Nat × Nat × Nat)} {a : Int} {u i : Nat} (h : 0 ≤ a) : ws.map wyA ++ [.agg [.s (.int .i64 a), .s (.int .i64 (u : Int)), .s (.int .i64 (i : Int))]] = (ws ++ [(a.toNat, u, i)]).map wyA := by
  have : ((a.toNat : Nat) : Int) = a := by omega
  simp [wyA, this]
theorem wk_get {ks : List Nat} {k u : Nat} {x : AV} (h : ks[k]? = some u) : ((toI ks).map ci ++ [x])[((k : Nat) : Int).toNat]? = some (ci (u : Int)) := by
  have e : (((k : Nat) : Int)).toNat = k := rfl
  have hg := toI_get h
  rw [e] at hg ⊢
  rw [List.getElem?_append_left (List.getElem?_eq_some_iff.1 hg).1]; exact hg
/-- Found by its node. -/
def wfd (ws : List (Nat × Nat × Nat)) (j : Nat) : Option (Nat × Nat × Nat) := ws.find? (fun w => w.1 == j)
theorem wfd_ne {ws : List (Nat × Nat × Nat)} {w : Nat × Nat × Nat} {j : Nat} (h : ¬ w.1 = j) : wfd (ws ++ [w]) j = wfd ws j := by
  unfold wfd
  rw [List.find?_append, List.find?_cons_of_neg (by simpa using h)]; simp
theorem wfd_no {ws : List (Nat × Nat × Nat)} {j : Nat} (h : ¬ j ∈ ws.map fun w => w.1) : wfd ws j = none := by
  unfold wfd
  rw [List.find?_eq_none]
  intro x hx
  simp only [beq_iff_eq]
  intro e
  exact h (e ▸ List.mem_map_of_mem hx)
theorem wfd_eq {ws : List (Nat × Nat × Nat)} {w : Nat × Nat × Nat} (h : ¬ w.1 ∈ ws.map fun w => w.1) : wfd (ws ++ [w]) w.1 = some w := by
  have := wfd_no h
  unfold wfd at this ⊢
  rw [List.find?_append, this]; simp
theorem wfd_get {w : Nat × Nat × Nat} : ∀ {ws : List (Nat × Nat × Nat)} (_ : (ws.map fun w => w.1).Nodup) (_ : w ∈ ws), wfd ws w.1 = some w
  | x :: ws, hn, hm => by
    rw [List.map_cons, List.nodup_cons] at hn
    unfold wfd
    by_cases c : x.1 = w.1
    · rw [List.find?_cons_of_pos (by simpa using c)]
      rcases List.mem_cons.1 hm with k | k
      · rw [k]
      · exact absurd (c ▸ List.mem_map_of_mem k) hn.1
    · rw [List.find?_cons_of_neg (by simpa using c)]
      rcases List.mem_cons.1 hm with k | k
      · rw [k] at c; exact absurd rfl c
      · exact wfd_get hn.2 k
/-- The number that the specification keeps for a way. -/
def sgW (es : List (Nat × Nat)) (w : Nat × Nat × Nat) : Int := match es[w.2.2]? with
  | some e => if w.2.1 = e.1 then (w.2.2 : Int) + 1 else -((w.2.2 : Int) + 1)
  | none => 0
def byW (es : List (Nat × Nat)) (ws : List (Nat × Nat × Nat)) (j : Nat) : Int := match wfd ws j with
  | some w => sgW es w
  | none => 0
/-- More of the ways: each from a node that was known, no pipe twice. -/
structure WIn2 (es : List (Nat × Nat)) (s : Nat) (st : List Nat × List (Nat × Nat × Nat)) : Prop extends WInv es s st where
  bf : ∀ m w, st.2[m]? = some w → w.2.1 ∈ s :: (st.2.take m).map fun w => w.1
  pn : (st.2.map fun w => w.2.2).Nodup
theorem wyE_in2 {es : List (Nat × Nat)} {s u i : Nat} {st : List Nat × List (Nat × Nat × Nat)} {e : Nat × Nat} (he : es[i]? = some e) (hu : u ∈ st.1) (h : WIn2 es s st) : WIn2 es s (wyE u i st e) := by
  refine ⟨wyE_inv he hu h.toWInv, ?_, ?_⟩
  · unfold wyE
    split
    · rename_i v hv
      split
      · exact h.bf
      · intro m w hw
        by_cases c : m < st.2.length
        · rw [show (st.1 ++ [v], st.2 ++ [(v, u, i)]).2 = st.2 ++ [(v, u, i)] from rfl] at hw ⊢
          rw [List.getElem?_append_left c] at hw
          rw [List.take_append_of_le_length (by omega)]
          exact h.bf m w hw
        · have hl := (List.getElem?_eq_some_iff.1 hw).1
          simp only [List.length_append, List.length_cons, List.length_nil] at hl
          have : m = st.2.length := by omega
          subst this
          simp only [List.getElem?_append_right (Nat.le_refl _), Nat.sub_self, List.getElem?_cons_zero, Option.some.injEq] at hw
          subst hw
          simp only [List.take_append_of_le_length (Nat.le_refl _), List.take_length]
          rw [← h.hd]; exact hu
    · exact h.bf
  · unfold wyE
    split
    · rename_i v hv
      split
      · exact h.pn
      · rename_i hn
        show ((st.2 ++ [(v, u, i)]).map fun w => w.2.2).Nodup
        rw [List.map_append, List.nodup_append]
        refine ⟨h.pn, by simp, fun a ha b hb => ?_⟩
        simp at hb; subst hb
        intro k; subst k
        obtain ⟨w, hw, hwi⟩ := List.mem_map.1 ha
        obtain ⟨f, hf, hx, hb⟩ := h.ed w hw
        have hwi : w.2.2 = a := hwi
        rw [hwi, he] at hf
        cases hf
        have h1 : w.1 ∈ st.1 := by rw [h.hd]; exact List.mem_cons_of_mem _ (List.mem_map_of_mem hw)
        apply hn
        rcases nxt_edge hv with c | c <;> rcases nxt_edge hx with d | d <;> rw [← c] at d <;> cases d <;> assumption
    · exact h.pn
theorem wyI_in2 {es : List (Nat × Nat)} {s u : Nat} : ∀ (fs : List (Nat × Nat)) (i : Nat) (st : List Nat × List (Nat × Nat × Nat)), (∀ j e, fs[j]? = some e → es[i + j]? = some e) → u ∈ st.1 → WIn2 es s st → WIn2 es s (wyI u fs i st)
  | [], _, _, _, _, h => h
  | e :: fs, i, st, hf, hu, h => by
    show WIn2 es s (wyI u fs (i + 1) (wyE u i st e))
    refine wyI_in2 fs (i + 1) _ (fun j x hx => ?_) ?_ (wyE_in2 (hf 0 e rfl) hu h)
    · have := hf (j + 1) x (by simpa using hx)
      rwa [show i + 1 + j = i + (j + 1) by omega]
    · rw [wyE_1]
      obtain ⟨t, ht⟩ := bfE_pre (u := u) (ks := st.1) (e := e)
      rw [ht]; exact List.mem_append_left _ hu
theorem wyO_in2 {es : List (Nat × Nat)} {s : Nat} : ∀ (f k : Nat) (st : List Nat × List (Nat × Nat × Nat)), WIn2 es s st → WIn2 es s (wyO es f k st)
  | 0, _, _, h => h
  | f + 1, k, st, h => by
    unfold wyO
    cases hk : st.1[k]? with
    | none => exact h
    | some u => exact wyO_in2 f (k + 1) _ (wyI_in2 es 0 st (fun j e he => by rw [Nat.zero_add]; exact he) (List.mem_of_getElem? hk) h)
theorem waysF_in2 {es : List (Nat × Nat)} {n s : Nat} : WIn2 es s (waysF es n s) := wyO_in2 n 0 _ { hd := rfl, ed := fun w hw => (by cases hw), bf := fun m w hw => (by cases hw), pn := (by simp) }
/-- A list without doubles of n numbers below n has all of them. -/
theorem all_of_len {n : Nat} {ks : List Nat} (hd : ks.Nodup) (hl : ∀ v ∈ ks, v < n) (hn : n ≤ ks.length) {v : Nat} (hv : v < n) : v ∈ ks := by
  apply Classical.byContradiction
  intro h
  have := len_le (n := n) (v :: ks) (List.nodup_cons.2 ⟨h, hd⟩) (fun w hw => by
    rcases List.mem_cons.1 hw with c | c
    · subst c; exact hv
    · exact hl w c)
  simp at this; omega
/-- Of a way: its nodes and its pipe are there. -/
theorem ways_lt {es : List (Nat × Nat)} {n s : Nat} (hr : ∀ e ∈ es, e.1 < n ∧ e.2 < n) (hs : s < n) {w : Nat × Nat × Nat} (hw : w ∈ (waysF es n s).2) : w.1 < n ∧ w.2.1 < n ∧ ¬ w.1 = w.2.1 ∧ w.2.2 < es.length ∧ ¬ w.1 = s ∧ ∃ e, es[w.2.2]? = some e ∧ nxt e w.2.1 = some w.1 := by
  have hi := waysF_in2 (es := es) (n := n) (s := s)
  have hf := (found_inv hr hs).1
  obtain ⟨e, he, hx, hb⟩ := hi.ed w hw
  rw [waysF_1] at hb
  have h1 : w.1 ∈ found es n s := by rw [← waysF_1, hi.hd]; exact List.mem_cons_of_mem _ (List.mem_map_of_mem hw)
  have hnd := hf.nd
  rw [← waysF_1, hi.hd, List.nodup_cons] at hnd
  refine ⟨hf.lt _ h1, hf.lt _ hb, ?_, (List.getElem?_eq_some_iff.1 he).1, fun c => ?_, e, he, hx⟩
  · obtain ⟨m, hm⟩ := List.getElem?_of_mem hw
    have hbf := hi.bf m w hm
    intro c
    rw [← c] at hbf
    rcases List.mem_cons.1 hbf with k | k
    · exact hnd.1 (List.mem_map.2 ⟨w, hw, k⟩)
    · have hml := (List.getElem?_eq_some_iff.1 hm).1
      have hsp : ((waysF es n s).2.take m).map (fun w => w.1) ++ w.1 :: ((waysF es n s).2.drop (m + 1)).map (fun w => w.1) = (waysF es n s).2.map fun w => w.1 := by
        conv => rhs; rw [← List.take_append_drop m (waysF es n s).2, List.map_append]
        congr 1
        rw [List.drop_eq_getElem_cons hml, (List.getElem?_eq_some_iff.1 hm).2]; rfl
      have := hnd.2
      rw [← hsp, List.nodup_append] at this
      exact this.2.2 w.1 k w.1 List.mem_cons_self rfl
  · exact hnd.1 (List.mem_map.2 ⟨w, hw, c⟩)
theorem ways_nd {es : List (Nat × Nat)} {n s : Nat} (hr : ∀ e ∈ es, e.1 < n ∧ e.2 < n) (hs : s < n) : ((waysF es n s).2.map fun w => w.1).Nodup := by
  have hf := (found_inv hr hs).1.nd
  rw [← waysF_1, (waysF_in2 (es := es) (n := n) (s := s)).hd, List.nodup_cons] at hf
  exact hf.2
theorem ways_len {es : List (Nat × Nat)} {n s : Nat} : (waysF es n s).2.length + 1 = (found es n s).length := by
  rw [← waysF_1, (waysF_in2 (es := es) (n := n) (s := s)).hd]; simp
/-- In a tree each pipe is the last one of a way. -/
theorem ways_all {es : List (Nat × Nat)} {n s : Nat} (hr : ∀ e ∈ es, e.1 < n ∧ e.2 < n) (hs : s < n) (hc : ∀ v, v < n → Conn es s v) (hl : es.length + 1 = n) {i : Nat} (hi : i < es.length) : ∃ w ∈ (waysF es n s).2, w.2.2 = i := by
  have h2 := (found_len hr hs).2 hc
  have h3 := ways_len (es := es) (n := n) (s := s)
  have := all_of_len (n := es.length) (waysF_in2 (es := es) (n := n) (s := s)).pn (fun v hv => by
    obtain ⟨w, hw, rfl⟩ := List.mem_map.1 hv
    exact (ways_lt hr hs hw).2.2.2.1) (by rw [List.length_map]; omega) hi
  obtain ⟨w, hw, e⟩ := List.mem_map.1 this
  exact ⟨w, hw, e⟩
/-- A row that is filled along the ways. -/
def wyT (f : Nat × Nat × Nat → Int → Int) (ws : List (Nat × Nat × Nat)) (t : List Int) : List Int := ws.foldl (fun t w => t.set w.1 (f w (t.getD w.2.1 0))) t
theorem wyT_s {f : Nat × Nat × Nat → Int → Int} {ws : List (Nat × Nat × Nat)} {m : Nat} {w : Nat × Nat × Nat} {t : List Int} (h : ws[m]? = some w) : wyT f (ws.take (m + 1)) t = (wyT f (ws.take m) t).set w.1 (f w ((wyT f (ws.take m) t).getD w.2.1 0)) := by
  unfold wyT
  rw [List.take_add_one, h, List.foldl_append]; rfl
theorem wyT_len {f : Nat × Nat × Nat → Int → Int} : ∀ (ws : List (Nat × Nat × Nat)) (t : List Int), (wyT f ws t).length = t.length
  | [], _ => rfl
  | w :: ws, t => by
    show (wyT f ws _).length = _
    rw [wyT_len ws]; simp
theorem wyT_all {f : Nat × Nat × Nat → Int → Int} {Q : Int → Prop} (h0 : Q 0) : ∀ (ws : List (Nat × Nat × Nat)) (t : List Int), (∀ w ∈ ws, ∀ a, Q a → Q (f w a)) → (∀ x ∈ t, Q x) → ∀ x ∈ wyT f ws t, Q x
  | [], _, _, ht => ht
  | w :: ws, t, hf, ht => by
    refine wyT_all h0 ws _ (fun x hx => hf x (List.mem_cons_of_mem _ hx)) ?_
    intro x hx
    rcases List.mem_or_eq_of_mem_set hx with c | c
    · exact ht x c
    · rw [c]
      refine hf w List.mem_cons_self _ ?_
      unfold List.getD
      cases hg : t[w.2.1]? with
      | none => exact h0
      | some a => exact ht a (List.mem_of_getElem? hg)
/-- A sum over a list. -/
def su {α : Type} (f : α → Int) : List α → Int
  | [] => 0
  | x :: l => f x + su f l
theorem su_perm {α : Type} {f : α → Int} {l m : List α} (h : l.Perm m) : su f l = su f m := by
  induction h with
  | nil => rfl
  | cons x _ ih => show f x + _ = f x + _; rw [ih]
  | swap x y l => show f y + (f x + su f l) = f x + (f y + su f l); omega
  | trans _ _ h1 h2 => exact h1.trans h2
theorem su_app {α : Type} {f : α → Int} : ∀ (l m : List α), su f (l ++ m) = su f l + su f m
  | [], m => by show _ = 0 + _; rw [Int.zero_add]; rfl
  | x :: l, m => by show f x + su f (l ++ m) = f x + su f l + su f m; rw [su_app l m]; omega
theorem su_map {α β : Type} {f : β → Int} {g : α → β} : ∀ (l : List α), su f (l.map g) = su (fun x => f (g x)) l
  | [] => rfl
  | x :: l => by show f (g x) + su f (l.map g) = f (g x) + _; rw [su_map l]
theorem su_cong {α : Type} {f g : α → Int} : ∀ (l : List α), (∀ x ∈ l, f x = g x) → su f l = su g l
  | [], _ => rfl
  | x :: l, h => by show f x + su f l = g x + su g l; rw [h x List.mem_cons_self, su_cong l (fun y hy => h y (List.mem_cons_of_mem _ hy))]
theorem su_add {α : Type} {f g : α → Int} : ∀ (l : List α), su (fun x => f x + g x) l = su f l + su g l
  | [] => rfl
  | x :: l => by show f x + g x + su _ l = f x + su f l + (g x + su g l); rw [su_add l]; omega
theorem su_neg {α : Type} {f : α → Int} : ∀ (l : List α), su (fun x => -(f x)) l = -(su f l)
  | [] => rfl
  | x :: l => by show -(f x) + su _ l = -(f x + su f l); rw [su_neg l]; omega
theorem su_0 {α : Type} {f : α → Int} : ∀ (l : List α), (∀ x ∈ l, f x = 0) → su f l = 0
  | [], _ => rfl
  | x :: l, h => by show f x + su f l = 0; rw [h x List.mem_cons_self, su_0 l (fun y hy => h y (List.mem_cons_of_mem _ hy))]; rfl
theorem su_nn {α : Type} {f : α → Int} : ∀ (l : List α), (∀ x ∈ l, 0 ≤ f x) → 0 ≤ su f l
  | [], _ => Int.le_refl _
  | x :: l, h => by
    have h1 := h x List.mem_cons_self
    have h2 := su_nn l (fun y hy => h y (List.mem_cons_of_mem _ hy))
    show 0 ≤ f x + su f l; omega
theorem su_le {α : Type} {f : α → Int} {b : Int} : ∀ (l : List α), (∀ x ∈ l, f x ≤ b) → su f l ≤ b * l.length
  | [], _ => by simp [su]
  | x :: l, h => by
    have h1 := h x List.mem_cons_self
    have h2 := su_le (b := b) l (fun y hy => h y (List.mem_cons_of_mem _ hy))
    show f x + su f l ≤ b * ((l.length + 1 : Nat) : Int)
    have e : b * ((l.length + 1 : Nat) : Int) = b * (l.length : Int) + b := by rw [Int.natCast_add, Int.mul_add]; simp
    omega
theorem su_mem {α : Type} {f : α → Int} {x : α} : ∀ (l : List α), (∀ y ∈ l, 0 ≤ f y) → x ∈ l → f x ≤ su f l
  | y :: l, h, hx => by
    have h1 := h y List.mem_cons_self
    have h2 := su_nn l (fun z hz => h z (List.mem_cons_of_mem _ hz))
    show f x ≤ f y + su f l
    rcases List.mem_cons.1 hx with c | c
    · rw [c]; omega
    · have := su_mem l (fun z hz => h z (List.mem_cons_of_mem _ hz)) c
      omega
/-- One place of a list without doubles counts more. -/
theorem su_upd {α : Type} {f g : α → Int} {a : α} {k : Int} : ∀ (l : List α), l.Nodup → a ∈ l → g a = f a + k → (∀ x, ¬ x = a → g x = f x) → su g l = su f l + k
  | y :: l, hn, ha, h1, h2 => by
    rw [List.nodup_cons] at hn
    show g y + su g l = f y + su f l + k
    rcases List.mem_cons.1 ha with c | c
    · subst c
      rw [h1, su_cong (f := g) (g := f) l (fun x hx => h2 x (fun e => hn.1 (e ▸ hx)))]; omega
    · rw [h2 y (fun e => hn.1 (e ▸ c)), su_upd l hn.2 c h1 h2]; omega
/-- The sums of demands: from the last way to the first one. -/
def smB (ws : List (Nat × Nat × Nat)) (d : List Int) : List Int := ws.foldr (fun w t => t.set w.2.1 (t.getD w.2.1 0 + t.getD w.1 0)) d
theorem smB_s {ws : List (Nat × Nat × Nat)} {m : Nat} {w : Nat × Nat × Nat} {d : List Int} (h : ws[m]? = some w) : smB (ws.drop m) d = (smB (ws.drop (m + 1)) d).set w.2.1 ((smB (ws.drop (m + 1)) d).getD w.2.1 0 + (smB (ws.drop (m + 1)) d).getD w.1 0) := by
  obtain ⟨hl, he⟩ := List.getElem?_eq_some_iff.1 h
  rw [List.drop_eq_getElem_cons hl, he]; rfl
theorem smB_len : ∀ (ws : List (Nat × Nat × Nat)) (d : List Int), (smB ws d).length = d.length
  | [], _ => rfl
  | w :: ws, d => by
    show ((smB ws d).set _ _).length = _
    rw [List.length_set, smB_len ws]
theorem getD_set {t : List Int} {i j : Nat} {x : Int} : (t.set i x).getD j 0 = if i = j ∧ i < t.length then x else t.getD j 0 := by
  unfold List.getD
  rw [List.getElem?_set]
  by_cases c : i = j
  · subst c
    by_cases d : i < t.length
    · rw [if_pos rfl, if_pos d, if_pos ⟨rfl, d⟩]; rfl
    · rw [if_pos rfl, if_neg d, if_neg (fun h => d h.2), List.getElem?_eq_none (by omega)]
  · rw [if_neg c, if_neg (fun h => c h.1)]
theorem smB_keep {v : Nat} : ∀ (ws : List (Nat × Nat × Nat)) (d : List Int), (∀ w ∈ ws, ¬ w.2.1 = v) → (smB ws d).getD v 0 = d.getD v 0
  | [], _, _ => rfl
  | w :: ws, d, h => by
    show ((smB ws d).set _ _).getD v 0 = _
    rw [getD_set, if_neg (fun k => h w List.mem_cons_self k.1), smB_keep ws d (fun x hx => h x (List.mem_cons_of_mem _ hx))]
theorem smB_app (ws vs : List (Nat × Nat × Nat)) (d : List Int) : smB (ws ++ vs) d = smB ws (smB vs d) := by unfold smB; rw [List.foldr_append]
theorem smB_nn : ∀ (ws : List (Nat × Nat × Nat)) (d : List Int), (∀ v, 0 ≤ d.getD v 0) → ∀ v, 0 ≤ (smB ws d).getD v 0
  | [], _, h => h
  | w :: ws, d, h => fun v => by
    have ih := smB_nn ws d h
    show 0 ≤ ((smB ws d).set _ _).getD v 0
    rw [getD_set]
    split
    · have h1 : 0 ≤ (smB ws d).getD w.2.1 0 := ih w.2.1
      have h2 : 0 ≤ (smB ws d).getD w.1 0 := ih w.1
      exact Int.add_nonneg h1 h2
    · exact ih v
/-- Ways in order: each node once and not the source, each from a node before. -/
structure WOrd (s : Nat) (ws : List (Nat × Nat × Nat)) : Prop where
  nd : (s :: ws.map fun w => w.1).Nodup
  bf : ∀ m w, ws[m]? = some w → w.2.1 ∈ s :: (ws.take m).map fun w => w.1
theorem ways_ord {es : List (Nat × Nat)} {n s : Nat} (hr : ∀ e ∈ es, e.1 < n ∧ e.2 < n) (hs : s < n) : WOrd s (waysF es n s).2 := by
  have hf := (found_inv hr hs).1.nd
  rw [← waysF_1, (waysF_in2 (es := es) (n := n) (s := s)).hd] at hf
  exact ⟨hf, (waysF_in2 (es := es) (n := n) (s := s)).bf⟩
theorem WOrd.tk {s : Nat} {ws : List (Nat × Nat × Nat)} (h : WOrd s ws) {m : Nat} {w : Nat × Nat × Nat} (hm : ws[m]? = some w) : (s :: (ws.take m).map fun w => w.1).Nodup ∧ ¬ w.1 ∈ s :: (ws.take m).map (fun w => w.1) ∧ ws.take (m + 1) = ws.take m ++ [w] := by
  have e : ws.take (m + 1) = ws.take m ++ [w] := by rw [List.take_add_one, hm]; rfl
  have h1 : (s :: (ws.take (m + 1)).map fun w => w.1).Nodup := by
    refine List.Nodup.sublist ?_ h.nd
    exact List.Sublist.cons_cons _ ((List.take_sublist _ _).map _)
  rw [e, List.map_append, ← List.cons_append, List.nodup_append] at h1
  exact ⟨h1.1, fun k => h1.2.2 _ k w.1 (by simp) rfl, e⟩
/-- Before its own turn a node has its whole sum. -/
theorem smB_fin {s : Nat} {ws : List (Nat × Nat × Nat)} {d : List Int} (h : WOrd s ws) {m : Nat} {w : Nat × Nat × Nat} (hm : ws[m]? = some w) : (smB (ws.drop (m + 1)) d).getD w.1 0 = (smB ws d).getD w.1 0 := by
  have e : smB ws d = smB (ws.take (m + 1)) (smB (ws.drop (m + 1)) d) := by rw [← smB_app, List.take_append_drop]
  rw [e]
  refine (smB_keep _ _ ?_).symm
  intro x hx c
  obtain ⟨i, hi⟩ := List.getElem?_of_mem hx
  have hil := (List.getElem?_eq_some_iff.1 hi).1
  rw [List.length_take] at hil
  rw [List.getElem?_take] at hi
  split at hi
  · have hb := h.bf i x hi
    rw [c] at hb
    have hk := (h.tk hm).2.1
    apply hk
    rcases List.mem_cons.1 hb with q | q
    · rw [q]; exact List.mem_cons_self
    · refine List.mem_cons_of_mem _ ?_
      obtain ⟨y, hy, ey⟩ := List.mem_map.1 q
      exact List.mem_map.2 ⟨y, (List.take_subset_take_left ws (by omega)) hy, ey⟩
  · cases hi
/-- What a node has at the end: its demand and what its followers have. -/
theorem smB_eq {s n : Nat} {ws : List (Nat × Nat × Nat)} {d : List Int} (h : WOrd s ws) (hn : d.length = n) (hlt : ∀ w ∈ ws, w.2.1 < n) (v : Nat) : ∀ j m : Nat, j + m = ws.length → (smB (ws.drop m) d).getD v 0 = d.getD v 0 + su (fun w => if w.2.1 = v then (smB ws d).getD w.1 0 else 0) (ws.drop m)
  | 0, m, hm => by rw [List.drop_of_length_le (by omega)]; show d.getD v 0 = d.getD v 0 + 0; omega
  | j + 1, m, hm => by
    have hl : m < ws.length := by omega
    have hg : ws[m]? = some (ws[m]) := List.getElem?_eq_getElem hl
    have ih := smB_eq h hn hlt v j (m + 1) (by omega)
    have hf := smB_fin (d := d) h hg
    have hw := hlt _ (List.getElem_mem hl)
    rw [smB_s hg, getD_set]
    rw [List.drop_eq_getElem_cons hl]
    show _ = _ + ((if (ws[m]).2.1 = v then _ else 0) + su _ (ws.drop (m + 1)))
    have hll := smB_len (ws.drop (m + 1)) d
    by_cases c : (ws[m]).2.1 = v
    · rw [if_pos ⟨c, by omega⟩, if_pos c, hf, c, ih]; omega
    · rw [if_neg (fun k => c k.1), if_neg c, ih]; omega
/-- No sum is above the whole demand. -/
theorem smB_tot {s : Nat} {ws : List (Nat × Nat × Nat)} {d : List Int} (h : WOrd s ws) (hlt : ∀ w ∈ ws, w.2.1 < d.length) : ∀ j m : Nat, j + m = ws.length → su (fun v => (smB (ws.drop m) d).getD v 0) (s :: (ws.take m).map fun w => w.1) = su (fun v => d.getD v 0) (s :: ws.map fun w => w.1)
  | 0, m, hm => by rw [List.drop_of_length_le (by omega), List.take_of_length_le (by omega)]; rfl
  | j + 1, m, hm => by
    have hl : m < ws.length := by omega
    have hg : ws[m]? = some (ws[m]) := List.getElem?_eq_getElem hl
    have ih := smB_tot h hlt j (m + 1) (by omega)
    obtain ⟨h1, h2, h3⟩ := h.tk hg
    have hw := hlt _ (List.getElem_mem hl)
    have hb := h.bf m _ hg
    have hll := smB_len (ws.drop (m + 1)) d
    rw [h3, List.map_append, ← List.cons_append, su_app] at ih
    rw [← ih]
    refine (su_upd (f := fun v => (smB (ws.drop (m + 1)) d).getD v 0) (a := (ws[m]).2.1) (k := (smB (ws.drop (m + 1)) d).getD (ws[m]).1 0) _ h1 hb ?_ ?_).trans ?_
    · show (smB (ws.drop m) d).getD _ 0 = _
      rw [smB_s hg, getD_set, if_pos ⟨rfl, by omega⟩]
    · intro x hx
      show (smB (ws.drop m) d).getD _ 0 = _
      rw [smB_s hg, getD_set, if_neg (fun k => hx k.1.symm)]
    · show _ + _ = _ + ((smB (ws.drop (m + 1)) d).getD (ws[m]).1 0 + 0)
      omega
theorem smB_le {s : Nat} {ws : List (Nat × Nat × Nat)} {d : List Int} (h : WOrd s ws) (hlt : ∀ w ∈ ws, w.2.1 < d.length) (hd : ∀ v, 0 ≤ d.getD v 0) {w : Nat × Nat × Nat} (hw : w ∈ ws) : 0 ≤ (smB ws d).getD w.1 0 ∧ (smB ws d).getD w.1 0 ≤ su (fun v => d.getD v 0) (s :: ws.map fun w => w.1) := by
  obtain ⟨m, hm⟩ := List.getElem?_of_mem hw
  have hl := (List.getElem?_eq_some_iff.1 hm).1
  have ht := smB_tot h hlt (ws.length - (m + 1)) (m + 1) (by omega)
  have hnn := smB_nn (ws.drop (m + 1)) d hd
  refine ⟨smB_nn ws d hd _, ?_⟩
  rw [← ht, ← smB_fin (d := d) h hm]
  refine su_mem (f := fun v => (smB (ws.drop (m + 1)) d).getD v 0) _ (fun y _ => hnn y) ?_
  rw [(h.tk hm).2.2]; simp
/-- The pipe of a way. -/
def wpi (ws : List (Nat × Nat × Nat)) (i : Nat) : Option (Nat × Nat × Nat) := ws.find? (fun w => w.2.2 == i)
theorem wpi_get {w : Nat × Nat × Nat} : ∀ {ws : List (Nat × Nat × Nat)} (_ : (ws.map fun w => w.2.2).Nodup) (_ : w ∈ ws), wpi ws w.2.2 = some w
  | x :: ws, hn, hm => by
    rw [List.map_cons, List.nodup_cons] at hn
    unfold wpi
    by_cases c : x.2.2 = w.2.2
    · rw [List.find?_cons_of_pos (by simpa using c)]
      rcases List.mem_cons.1 hm with k | k
      · rw [k]
      · exact absurd (c ▸ List.mem_map_of_mem (f := fun w : Nat × Nat × Nat => w.2.2) k) hn.1
    · rw [List.find?_cons_of_neg (by simpa using c)]
      rcases List.mem_cons.1 hm with k | k
      · rw [k] at c; exact absurd rfl c
      · exact wpi_get hn.2 k
/-- The flow of a pipe: the sum of its node, against its direction below 0. -/
def flW (es : List (Nat × Nat)) (S : List Int) (w : Nat × Nat × Nat) : Int := match es[w.2.2]? with
  | some e => if e.1 = w.1 then -(S.getD w.1 0) else S.getD w.1 0
  | none => 0
def flL (es : List (Nat × Nat)) (S : List Int) (ws : List (Nat × Nat × Nat)) : List Int := (List.range es.length).map fun i => match wpi ws i with
  | some w => flW es S w
  | none => 0
theorem flL_len {es : List (Nat × Nat)} {S : List Int} {ws : List (Nat × Nat × Nat)} : (flL es S ws).length = es.length := by simp [flL]
theorem flL_0 {es : List (Nat × Nat)} {S : List Int} : flL es S [] = List.replicate es.length 0 := by
  unfold flL wpi
  refine List.ext_getElem? fun j => ?_
  rw [List.getElem?_map, List.getElem?_replicate]
  by_cases c : j < es.length
  · rw [List.getElem?_range c, if_pos c]; rfl
  · rw [List.getElem?_eq_none (by simpa using c), if_neg c]; rfl
theorem flL_set {es : List (Nat × Nat)} {S : List Int} {ws : List (Nat × Nat × Nat)} {w : Nat × Nat × Nat} (hi : w.2.2 < es.length) : (flL es S ws).set w.2.2 (flW es S w) = flL es S (w :: ws) := by
  refine List.ext_getElem? fun j => ?_
  rw [List.getElem?_set]
  unfold flL
  by_cases hj : j < es.length
  · rw [List.getElem?_map, List.getElem?_map, List.getElem?_range hj]
    simp only [Option.map_some, List.length_map, List.length_range]
    by_cases c : w.2.2 = j
    · subst c
      rw [if_pos rfl, if_pos hi]
      unfold wpi
      rw [List.find?_cons_of_pos (by simp)]
    · rw [if_neg c]
      unfold wpi
      rw [List.find?_cons_of_neg (by simpa using c)]
  · rw [List.getElem?_eq_none (by simp; omega)]
    rw [List.getElem?_eq_none (by simp; omega)]
    split
    · rw [if_neg (by simp; omega)]
    · rfl
theorem flL_get {es : List (Nat × Nat)} {S : List Int} {ws : List (Nat × Nat × Nat)} (hn : (ws.map fun w => w.2.2).Nodup) {w : Nat × Nat × Nat} (hw : w ∈ ws) (hi : w.2.2 < es.length) : (flL es S ws)[w.2.2]? = some (flW es S w) := by
  unfold flL
  rw [List.getElem?_map, List.getElem?_range hi]
  simp only [Option.map_some, wpi_get hn hw]
/-- Two rows that are filled along the same ways. -/
theorem wyT_rel {s : Nat} {ws : List (Nat × Nat × Nat)} {R : Int → Int → Prop} {f g : Nat × Nat × Nat → Int → Int} {t u : List Int} (h : WOrd s ws) (hst : s < t.length) (hlt : ∀ w ∈ ws, w.1 < t.length) (hl : u.length = t.length) (h0 : R (t.getD s 0) (u.getD s 0)) (hf : ∀ w ∈ ws, ∀ a b, R a b → R (f w a) (g w b)) : ∀ m : Nat, m ≤ ws.length → ∀ v ∈ s :: (ws.take m).map (fun w => w.1), R ((wyT f (ws.take m) t).getD v 0) ((wyT g (ws.take m) u).getD v 0)
  | 0, _, v, hv => by
    have e : v = s := by simpa using hv
    rw [e]; exact h0
  | m + 1, hm, v, hv => by
    have hg : ws[m]? = some ws[m] := List.getElem?_eq_getElem (by omega)
    obtain ⟨h1, h2, h3⟩ := h.tk hg
    have ih := wyT_rel h hst hlt hl h0 hf m (by omega)
    have hw := hlt _ (List.getElem_mem (show m < ws.length by omega))
    rw [wyT_s hg, wyT_s hg, getD_set, getD_set, wyT_len, wyT_len]
    by_cases c : (ws[m]).1 = v
    · rw [if_pos ⟨c, hw⟩, if_pos ⟨c, by omega⟩]
      exact hf _ (List.getElem_mem _) _ _ (ih _ (h.bf m _ hg))
    · rw [if_neg (fun k => c k.1), if_neg (fun k => c k.1)]
      refine ih v ?_
      rw [h3, List.map_append, ← List.cons_append] at hv
      rcases List.mem_append.1 hv with k | k
      · exact k
      · exact absurd (show (ws[m]).1 = v from (List.mem_singleton.1 k).symm) c
theorem wyT_src {f : Nat × Nat × Nat → Int → Int} {s : Nat} : ∀ (ws : List (Nat × Nat × Nat)) (t : List Int), ¬ s ∈ ws.map (fun w => w.1) → (wyT f ws t).getD s 0 = t.getD s 0
  | [], _, _ => rfl
  | w :: ws, t, h => by
    rw [List.map_cons, List.mem_cons] at h
    show (wyT f ws (t.set w.1 _)).getD s 0 = _
    rw [wyT_src ws _ (fun k => h (.inr k)), getD_set, if_neg (fun k => h (.inl k.1.symm))]
def byL (es : List (Nat × Nat)) (ws : List (Nat × Nat × Nat)) (n : Nat) : List Int := (List.range n).map (byW es ws)
theorem byL_len {es : List (Nat × Nat)} {ws : List (Nat × Nat × Nat)} {n : Nat} : (byL es ws n).length = n := by simp [byL]
theorem byL_0 {es : List (Nat × Nat)} {n : Nat} : byL es [] n = List.replicate n 0 := by
  unfold byL
  refine List.ext_getElem? fun j => ?_
  rw [List.getElem?_map, List.getElem?_replicate]
  by_cases c : j < n
  · rw [List.getElem?_range c, if_pos c]; rfl
  · rw [List.getElem?_eq_none (by simpa using c), if_neg c]; rfl
theorem byL_set {es : List (Nat × Nat)} {ws : List (Nat × Nat × Nat)} {n : Nat} {w : Nat × Nat × Nat} (h : w.1 < n) (hn : ¬ w.1 ∈ ws.map fun w => w.1) : (byL es ws n).set w.1 (sgW es w) = byL es (ws ++ [w]) n := by
  refine List.ext_getElem? fun j => ?_
  rw [List.getElem?_set, byL_len]
  unfold byL
  rw [List.getElem?_map, List.getElem?_map]
  by_cases c : w.1 = j
  · subst c
    rw [if_pos rfl, if_pos h, List.getElem?_range h]
    simp only [Option.map_some]
    unfold byW
    rw [wfd_eq hn]
  · rw [if_neg c]
    by_cases hj : j < n
    · rw [List.getElem?_range hj]
      simp only [Option.map_some]
      unfold byW
      rw [wfd_ne c]
    · rw [List.getElem?_eq_none (by simpa using hj)]; rfl
theorem byL_get {es : List (Nat × Nat)} {ws : List (Nat × Nat × Nat)} {n : Nat} {w : Nat × Nat × Nat} (hn : (ws.map fun w => w.1).Nodup) (hw : w ∈ ws) (h : w.1 < n) : (byL es ws n)[w.1]? = some (sgW es w) := by
  unfold byL
  rw [List.getElem?_map, List.getElem?_range h]
  simp only [Option.map_some]
  unfold byW
  rw [wfd_get hn hw]
theorem mapSet {xs : List Int} {i : Nat} {x : Int} : (xs.map ci).set i (ci x) = (xs.set i x).map ci := List.map_set.symm
theorem repI {n : Nat} : List.replicate n (ci 0) = (List.replicate n (0 : Int)).map ci := by simp [ci]
def seR (ks : List Nat) (n : Nat) : List AV := (List.range n).map fun j => .s (.bool (decide (j ∈ ks)))
theorem seR_len {ks : List Nat} {n : Nat} : (seR ks n).length = n := by simp [seR]
theorem seR_0 {n : Nat} : List.replicate n (AV.s (.bool false)) = seR [] n := by
  unfold seR
  refine List.ext_getElem? fun j => ?_
  rw [List.getElem?_map, List.getElem?_replicate]
  by_cases c : j < n
  · rw [List.getElem?_range c, if_pos c]; simp
  · rw [List.getElem?_eq_none (by simpa using c), if_neg c]; rfl
theorem seR_set {ks : List Nat} {n v : Nat} (h : v < n) : (seR ks n).set v (.s (.bool true)) = seR (ks ++ [v]) n := by
  refine List.ext_getElem? fun j => ?_
  rw [List.getElem?_set, seR_len]
  unfold seR
  rw [List.getElem?_map, List.getElem?_map]
  by_cases c : v = j
  · subst c
    rw [if_pos rfl, if_pos h, List.getElem?_range h]; simp
  · rw [if_neg c]
    by_cases hj : j < n
    · rw [List.getElem?_range hj]
      simp only [Option.map_some]
      have : (j ∈ ks ++ [v]) ↔ j ∈ ks := by simp [Ne.symm (Ne.intro c)]
      simp only [this]
    · rw [List.getElem?_eq_none (by simpa using hj)]; rfl
theorem seR_get {ks : List Nat} {n v : Nat} (h : v < n) : (seR ks n)[v]? = some (.s (.bool (decide (v ∈ ks)))) := by
  unfold seR
  rw [List.getElem?_map, List.getElem?_range h]; rfl
theorem repG {n i : Nat} {z : AV} (h : i < n) : (List.replicate n z)[i]? = some z := by rw [List.getElem?_replicate, if_pos h]
theorem byG {es : List (Nat × Nat)} {ws : List (Nat × Nat × Nat)} {n v : Nat} (h : v < n) : ((byL es ws n).map ci)[v]? = some (ci (byW es ws v)) := by
  unfold byL
  rw [List.getElem?_map, List.getElem?_map, List.getElem?_range h]; rfl
theorem nx_f {p : Pi} {u : Nat} (h : p.fm = (u : Int)) : nxt (pe p) u = some p.tt.toNat := by
  unfold nxt pe
  simp only
  rw [if_pos (by omega)]
theorem nx_t {p : Pi} {u : Nat} (h0 : 0 ≤ p.fm) (h1 : ¬ p.fm = (u : Int)) (h : p.tt = (u : Int)) : nxt (pe p) u = some p.fm.toNat := by
  unfold nxt pe
  simp only
  rw [if_neg (by omega), if_pos (by omega)]
theorem nx_n {p : Pi} {u : Nat} (h0 : 0 ≤ p.fm) (h2 : 0 ≤ p.tt) (h1 : ¬ p.fm = (u : Int)) (h : ¬ p.tt = (u : Int)) : nxt (pe p) u = none := by
  unfold nxt pe
  simp only
  rw [if_neg (by omega), if_neg (by omega)]
theorem sg_f {ps : List Pi} {p : Pi} {i u v : Nat} (hp : ps[i]? = some p) (h : p.fm = (u : Int)) : sgW (ps.map pe) (v, u, i) = (i : Int) + 1 := by
  unfold sgW
  simp only [List.getElem?_map, hp, Option.map_some]
  exact if_pos (by unfold pe; simp only; omega)
theorem sg_t {ps : List Pi} {p : Pi} {i u v : Nat} (hp : ps[i]? = some p) (h0 : 0 ≤ p.fm) (h : ¬ p.fm = (u : Int)) : sgW (ps.map pe) (v, u, i) = -((i : Int) + 1) := by
  unfold sgW
  simp only [List.getElem?_map, hp, Option.map_some]
  exact if_neg (by unfold pe; simp only; omega)
theorem not_nodes {es : List (Nat × Nat)} {s v : Nat} {st : List Nat × List (Nat × Nat × Nat)} (h : WInv es s st) (hn : ¬ v ∈ st.1) : ¬ v ∈ st.2.map fun w => w.1 := fun k => hn (by rw [h.hd]; exact List.mem_cons_of_mem _ k)
def flS (es : List (Nat × Nat)) (fl : List Int) (w : Nat × Nat × Nat) : Int := match es[w.2.2]? with
  | some e => if w.1 = e.2 then fl.getD w.2.2 0 else -(fl.getD w.2.2 0)
  | none => 0
theorem flS_y {ps : List Pi} {fl : List Int} {w : Nat × Nat × Nat} {p : Pi} {l : Int} (hp : ps[w.2.2]? = some p) (hl : fl[w.2.2]? = some l) : flS (ps.map pe) fl w = if w.1 = p.tt.toNat then l else -l := by
  unfold flS
  rw [List.getElem?_map, hp]
  simp only [Option.map_some, List.getD, hl, Option.getD_some]
  rfl
/-- The first ways' row. -/
def wyR (f : Nat × Nat × Nat → Int → Int) (es : List (Nat × Nat)) (n s : Nat) (x : Int) (m : Nat) : List Int := wyT f ((waysF es n s).2.take m) ((List.replicate n 0).set s x)
theorem wyR_len {f : Nat × Nat × Nat → Int → Int} {es : List (Nat × Nat)} {n s m : Nat} {x : Int} : (wyR f es n s x m).length = n := by unfold wyR; rw [wyT_len]; simp
theorem wyR_s {f : Nat × Nat × Nat → Int → Int} {es : List (Nat × Nat)} {n s m : Nat} {x : Int} {w : Nat × Nat × Nat} (h : (waysF es n s).2[m]? = some w) : wyR f es n s x (m + 1) = (wyR f es n s x m).set w.1 (f w ((wyR f es n s x m).getD w.2.1 0)) := wyT_s h
theorem wyR_0 {f : Nat × Nat × Nat → Int → Int} {es : List (Nat × Nat)} {n s : Nat} {x : Int} : (List.replicate n (ci 0)).set s (ci x) = (wyR f es n s x 0).map ci := by
  rw [repI, mapSet]; rfl
theorem wyR_all {f : Nat × Nat × Nat → Int → Int} {es : List (Nat × Nat)} {n s m : Nat} {x : Int} {Q : Int → Prop} (h0 : Q 0) (hx : Q x) (hf : ∀ w ∈ (waysF es n s).2, ∀ a, Q a → Q (f w a)) (v : Nat) : Q ((wyR f es n s x m).getD v 0) := by
  have h := wyT_all (f := f) h0 ((waysF es n s).2.take m) ((List.replicate n 0).set s x) (fun w hw => hf w (List.mem_of_mem_take hw)) (fun y hy => by
    rcases List.mem_or_eq_of_mem_set hy with c | c
    · rw [(List.mem_replicate.1 c).2]; exact h0
    · rw [c]; exact hx)
  unfold List.getD
  cases hg : (wyR f es n s x m)[v]? with
  | none => exact h0
  | some a => exact h a (List.mem_of_getElem? hg)
theorem getG {t : List Int} {v : Nat} (h : v < t.length) : (t.map ci)[v]? = some (ci (t.getD v 0)) := by
  rw [List.getElem?_map, List.getElem?_eq_getElem h]
  simp [List.getD, h]
theorem getS {t : List Int} {v a : Nat} {x : AV} (h : v < t.length) (hn : ¬ a = v) : ((t.map ci).set a x)[v]? = some (ci (t.getD v 0)) := by
  rw [List.getElem?_set_ne hn]; exact getG h
theorem getM {es : List AV} {v : Nat} {x : AV} (h : v < es.length) : (es.set v x)[v]? = some x := by simp [h]
/-- What is told of a way of a network. -/
structure WayOf (ns : List Int) (ps : List Pi) (w : Nat × Nat × Nat) (p : Pi) : Prop where
  hp : ps[w.2.2]? = some p
  l1 : w.1 < ns.length
  l2 : w.2.1 < ns.length
  ne : ¬ w.1 = w.2.1
  sg : (sgW (ps.map pe) w = (w.2.2 : Int) + 1 ∧ p.fm = (w.2.1 : Int) ∧ p.tt = (w.1 : Int)) ∨ (sgW (ps.map pe) w = -((w.2.2 : Int) + 1) ∧ p.tt = (w.2.1 : Int) ∧ p.fm = (w.1 : Int))
theorem wayOf {ns : List Int} {ps : List Pi} {s : Nat} (ok : netOk ns ps) (hs : s < ns.length) {w : Nat × Nat × Nat} (hw : w ∈ (waysF (ps.map pe) ns.length s).2) : ∃ p, WayOf ns ps w p := by
  obtain ⟨h1, h2, h3, h4, _, e, he, hx⟩ := ways_lt (esF_lt ok) hs hw
  rw [List.length_map] at h4
  have hp : ps[w.2.2]? = some ps[w.2.2] := List.getElem?_eq_getElem h4
  rw [List.getElem?_map, hp] at he
  cases he
  have hpo := (ok.2 _ _ hp).1
  have h5 := hpo.1.2.1
  have h6 := hpo.1.2.2.1
  have h7 := hpo.1.2.2.2.1
  refine ⟨ps[w.2.2], hp, h1, h2, h3, ?_⟩
  rcases nxt_edge hx with c | c
  · left
    have c1 : w.2.1 = (pe ps[w.2.2]).1 := (Prod.mk.inj c).1
    have c2 : w.1 = (pe ps[w.2.2]).2 := (Prod.mk.inj c).2
    unfold pe at c1 c2
    have e1 : (ps[w.2.2]).fm = (w.2.1 : Int) := by simp only at c1; omega
    exact ⟨sg_f (v := w.1) hp e1, e1, by simp only at c2; omega⟩
  · right
    have c1 : w.1 = (pe ps[w.2.2]).1 := (Prod.mk.inj c).1
    have c2 : w.2.1 = (pe ps[w.2.2]).2 := (Prod.mk.inj c).2
    unfold pe at c1 c2
    have e1 : ¬ (ps[w.2.2]).fm = (w.2.1 : Int) := by simp only at c1; omega
    exact ⟨sg_t (v := w.1) hp h5.1 e1, by simp only at c2; omega, by simp only at c1; omega⟩
theorem ord_get {es : List (Nat × Nat)} {n s m : Nat} {w : Nat × Nat × Nat} (h : (waysF es n s).2[m]? = some w) : ((toI (waysF es n s).1).map ci)[((m : Int) + 1).toNat]? = some (ci (w.1 : Int)) := by
  have e : ((m : Int) + 1).toNat = m + 1 := by omega
  rw [e, (waysF_in2 (es := es) (n := n) (s := s)).hd]
  unfold toI
  rw [List.map_cons, List.map_cons, List.getElem?_cons_succ, List.getElem?_map, List.getElem?_map, List.getElem?_map, h]; rfl
theorem ord_len {es : List (Nat × Nat)} {n s : Nat} : (toI (waysF es n s).1).length = (waysF es n s).2.length + 1 := by
  rw [toI_len, (waysF_in2 (es := es) (n := n) (s := s)).hd]; simp
theorem ways_le {es : List (Nat × Nat)} {n s : Nat} (hr : ∀ e ∈ es, e.1 < n ∧ e.2 < n) (hs : s < n) : (waysF es n s).2.length + 1 ≤ n := by
  rw [ways_len]
  have h := (found_inv hr hs).1
  exact len_le _ h.nd h.lt
theorem getSv {t : List Int} {v a : Nat} {x : AV} {k : Int} (h : v < t.length) (hn : ¬ a = v) (hk : k = (v : Int)) : ((t.map ci).set a x)[k.toNat]? = some (ci (t.getD v 0)) := by
  rw [show k.toNat = v by omega]; exact getS h hn
theorem wy_get {ws : List (Nat × Nat × Nat)} {m : Nat} {w : Nat × Nat × Nat} (h : ws[m]? = some w) : (ws.map wyA)[((m : Nat) : Int).toNat]? = some (wyA w) := by
  have e : (((m : Nat) : Int)).toNat = m := rfl
  rw [e, List.getElem?_map, h]; rfl
theorem by_get {ns : List Int} {ps : List Pi} {s : Nat} (ok : netOk ns ps) (hs : s < ns.length) {w : Nat × Nat × Nat} (hw : w ∈ (waysF (ps.map pe) ns.length s).2) {v : Int} (hv : v = (w.1 : Int)) : ((byL (ps.map pe) (waysF (ps.map pe) ns.length s).2 ns.length).map ci)[v.toNat]? = some (ci (sgW (ps.map pe) w)) := by
  have e : v.toNat = w.1 := by omega
  rw [e, List.getElem?_map, byL_get (ways_nd (esF_lt ok) hs) hw (ways_lt (esF_lt ok) hs hw).1]; rfl
def mkC (k : Int) (xs : List Int) (i : Nat) : List AV := ((List.range i).map fun (j : Nat) => ci (k + j)) ++ (xs.drop i).map ci
theorem mkC0 {k : Int} {xs : List Int} : mkC k xs 0 = xs.map ci := by simp [mkC]
theorem mkC_len {k : Int} {xs : List Int} {i : Nat} (h : i ≤ xs.length) : (mkC k xs i).length = xs.length := by simp [mkC]; omega
theorem mkC_get {k : Int} {xs : List Int} {i : Nat} {p : Int} (h : xs[i]? = some p) : (mkC k xs i)[i]? = some (ci p) := by
  unfold mkC
  rw [List.getElem?_append_right (by simp)]
  simp [h]
theorem mkC_set {k : Int} {xs : List Int} {i : Nat} (h : i < xs.length) : (mkC k xs i).set i (ci (k + i)) = mkC k xs (i + 1) := by
  unfold mkC
  rw [List.set_append_right _ _ (by simp)]
  simp only [List.length_map, List.length_range, Nat.sub_self]
  rw [List.drop_eq_getElem_cons h, List.map_cons, List.set_cons_zero, List.range_succ, List.map_append]
  simp
theorem mkC_held {k : Int} {xs : List Int} {i : Nat} (h : i < xs.length) : (mkC k xs xs.length)[i]? = some (ci (k + i)) := by
  unfold mkC
  rw [List.getElem?_append_left (by simpa using h)]
  simp [h]
theorem mkC_take {k : Int} {xs : List Int} : (mkC k xs xs.length).take xs.length = mkC k xs xs.length := takeLen (by rw [mkC_len (Nat.le_refl _)]; exact Nat.le_refl _)
theorem pure_ci {xs : List Int} : (flats (xs.map ci)).all noMem = true := by
  induction xs with
  | nil => rfl
  | cons x xs ih => simp only [List.map_cons, flats, List.flatMap_cons, List.all_append, Bool.and_eq_true]; exact ⟨rfl, ih⟩
def ixs (p : Nat → Prop) [DecidablePred p] : Nat → List Int
  | 0 => []
  | n + 1 => if p n then ixs p n ++ [(n : Int)] else ixs p n
theorem ixs_T {p : Nat → Prop} [DecidablePred p] {n : Nat} (h : p n) : ixs p (n + 1) = ixs p n ++ [(n : Int)] := if_pos h
theorem ixs_F {p : Nat → Prop} [DecidablePred p] {n : Nat} (h : ¬ p n) : ixs p (n + 1) = ixs p n := if_neg h
theorem ixs_len {p : Nat → Prop} [DecidablePred p] : ∀ n : Nat, (ixs p n).length ≤ n
  | 0 => Nat.le_refl _
  | n + 1 => by
    have := ixs_len (p := p) n
    by_cases h : p n
    · rw [ixs_T h]; simp; omega
    · rw [ixs_F h]; omega
def gd (xs : List Int) (i : Nat) : Int := xs.getD i 0
theorem gd_eq {xs : List Int} {i : Nat} {p : Int} (h : xs[i]? = some p) : gd xs i = p := by simp [gd, List.getD, h]
def bl (x0 y0 x1 y1 x : Int) : Int := if x ≤ x0 ∨ x1 ≤ x0 then y0 else if x ≥ x1 then y1 else y0 + dr ((y1 - y0) * (x - x0)) (x1 - x0)
def tP : List Int := [1000, 2000, 10000, 50000, 101325, 200000, 400000, 600000, 1000000, 1200000]
def tV : List Int := [700, 1750, 4580, 8135, 9961, 12023, 14361, 15883, 17988, 18796]
def boil (x : Int) : Int := if x ≤ 2000 then bl 1000 700 2000 1750 x else if x ≤ 10000 then bl 2000 1750 10000 4580 x else if x ≤ 50000 then bl 10000 4580 50000 8135 x else if x ≤ 101325 then bl 50000 8135 101325 9961 x else if x ≤ 200000 then bl 101325 9961 200000 12023 x else if x ≤ 400000 then bl 200000 12023 400000 14361 x else if x ≤ 600000 then bl 400000 14361 600000 15883 x else if x ≤ 1000000 then bl 600000 15883 1000000 17988 x else bl 1000000 17988 1200000 18796 x
def boilC : List AV := [.s (.int .i64 1000), .s (.int .i64 700), .s (.int .i64 2000), .s (.int .i64 1750), .s (.int .i64 10000), .s (.int .i64 4580), .s (.int .i64 50000), .s (.int .i64 8135), .s (.int .i64 101325), .s (.int .i64 9961), .s (.int .i64 200000), .s (.int .i64 12023), .s (.int .i64 400000), .s (.int .i64 14361), .s (.int .i64 600000), .s (.int .i64 15883), .s (.int .i64 1000000), .s (.int .i64 17988), .s (.int .i64 1200000), .s (.int .i64 18796)]
theorem tabP {k o : Nat} {p : Int} (h : tP[k]? = some p) (ho : o = 2 * k) : boilC[o]? = some (.s (.int .i64 p)) := by
  subst ho
  have hk : k < 10 := (List.getElem?_eq_some_iff.1 h).1
  rcases (by omega : k = 0 ∨ k = 1 ∨ k = 2 ∨ k = 3 ∨ k = 4 ∨ k = 5 ∨ k = 6 ∨ k = 7 ∨ k = 8 ∨ k = 9) with rfl | rfl | rfl | rfl | rfl | rfl | rfl | rfl | rfl | rfl <;> (simp [tP] at h; subst h; rfl)
theorem tabV {k o : Nat} {p : Int} (h : tV[k]? = some p) (ho : o = 2 * k + 1) : boilC[o]? = some (.s (.int .i64 p)) := by
  subst ho
  have hk : k < 10 := (List.getElem?_eq_some_iff.1 h).1
  rcases (by omega : k = 0 ∨ k = 1 ∨ k = 2 ∨ k = 3 ∨ k = 4 ∨ k = 5 ∨ k = 6 ∨ k = 7 ∨ k = 8 ∨ k = 9) with rfl | rfl | rfl | rfl | rfl | rfl | rfl | rfl | rfl | rfl <;> (simp [tV] at h; subst h; rfl)
theorem tP_bd {k : Nat} {p : Int} (h : tP[k]? = some p) : 1000 ≤ p ∧ p ≤ 1200000 := by
  have := List.mem_of_getElem? h
  simp only [tP, List.mem_cons, List.not_mem_nil, or_false] at this
  omega
theorem tV_bd {k : Nat} {p : Int} (h : tV[k]? = some p) : 700 ≤ p ∧ p ≤ 18796 := by
  have := List.mem_of_getElem? h
  simp only [tV, List.mem_cons, List.not_mem_nil, or_false] at this
  omega
theorem boil_at {i : Nat} {a b c d x : Int} (h9 : i ≤ 8) (ha : tP[i]? = some a) (hb : tV[i]? = some b) (hc : tP[i + 1]? = some c) (hd : tV[i + 1]? = some d) (hlo : i = 0 ∨ a < x) (hhi : i = 8 ∨ x ≤ c) : bl a b c d x = boil x := by
  rcases (by omega : i = 0 ∨ i = 1 ∨ i = 2 ∨ i = 3 ∨ i = 4 ∨ i = 5 ∨ i = 6 ∨ i = 7 ∨ i = 8) with rfl | rfl | rfl | rfl | rfl | rfl | rfl | rfl | rfl <;>
    (simp [tP] at ha hc; simp [tV] at hb hd; subst ha hb hc hd; unfold boil; repeat (first | rw [if_pos (by omega)] | rw [if_neg (by omega)]))
theorem boil_at2 {i : Nat} {a b c d x : Int} (h9 : i ≤ 8) (ha : tP[i]? = some a) (hb : tV[i]? = some b) (hc : tP[i + 1]? = some c) (hd : tV[i + 1]? = some d) (hlo : i = 0 ∨ a ≤ x) (hhi : i = 8 ∨ x < c) : bl a b c d x = boil x := by
  by_cases e : i = 0 ∨ a < x
  · exact boil_at h9 ha hb hc hd e (by omega)
  · have hx : x = a := by omega
    subst hx
    rcases (by omega : i = 1 ∨ i = 2 ∨ i = 3 ∨ i = 4 ∨ i = 5 ∨ i = 6 ∨ i = 7 ∨ i = 8) with rfl | rfl | rfl | rfl | rfl | rfl | rfl | rfl <;>
      (simp [tP] at ha hc; simp [tV] at hb hd; subst ha hb hc hd; decide)
theorem srN_ex (p : Int → Prop) : ∀ n : Nat, ∃ k : Nat, k ≤ n ∧ (∀ j : Nat, j < k → ¬ p j) ∧ (k < n → p k)
  | 0 => ⟨0, Nat.le_refl _, fun j h => absurd h (Nat.not_lt_zero _), fun h => absurd h (Nat.not_lt_zero _)⟩
  | n + 1 => by
    obtain ⟨k, h1, h2, h3⟩ := srN_ex p n
    by_cases e : k = n
    · subst e
      by_cases hp : p k
      · exact ⟨k, by omega, h2, fun _ => hp⟩
      · refine ⟨k + 1, Nat.le_refl _, fun j hj => ?_, fun h => by omega⟩
        by_cases ej : j = k
        · subst ej; exact hp
        · exact h2 j (by omega)
    · exact ⟨k, by omega, h2, fun _ => h3 (by omega)⟩
noncomputable def srN (p : Int → Prop) [DecidablePred p] (n : Nat) : Nat := Classical.choose (srN_ex p n)
theorem srN_spec (p : Int → Prop) [DecidablePred p] (n : Nat) : srN p n ≤ n ∧ (∀ j : Nat, j < srN p n → ¬ p j) ∧ (srN p n < n → p (srN p n)) := Classical.choose_spec (srN_ex p n)
theorem srN_uniq {p : Int → Prop} [DecidablePred p] {n k : Nat} (h1 : k ≤ n) (h2 : ∀ j : Nat, j < k → ¬ p j) (h3 : k < n → p k) : srN p n = k := by
  obtain ⟨g1, g2, g3⟩ := srN_spec p n
  rcases Nat.lt_trichotomy (srN p n) k with h | h | h
  · exact absurd (g3 (by omega)) (h2 _ h)
  · exact h
  · exact absurd (h3 (by omega)) (g2 _ h)
theorem shr1 {x n : Int} (h : n = x.fdiv (2 ^ (min (1 : Int).toNat IntKind.u64.bits))) (h0 : 0 ≤ x) : n = x / 2 := by
  rw [h, Int.fdiv_eq_ediv_of_nonneg _ (by decide)]; rfl
theorem wrapU {m n : Int} (h : n = IntKind.u64.wrap m) (h0 : 0 ≤ m) (h1 : m ≤ 9223372036854775807) : n = m := by
  have e : IntKind.u64.wrap m = m % 18446744073709551616 := by simp [IntKind.wrap, IntKind.bits, IntKind.signed]
  rw [e] at h; omega
noncomputable def lst (p : Int → Prop) [DecidablePred p] (lo hi : Int) : Int := lo + srN (fun i => p (lo + i)) (hi - lo + 1).toNat
theorem lst_spec (p : Int → Prop) [DecidablePred p] {lo hi : Int} (h : lo ≤ hi + 1) : lo ≤ lst p lo hi ∧ lst p lo hi ≤ hi + 1 ∧ (∀ a, lo ≤ a → a < lst p lo hi → ¬ p a) ∧ (lst p lo hi ≤ hi → p (lst p lo hi)) := by
  obtain ⟨h1, h2, h3⟩ := srN_spec (fun i => p (lo + i)) (hi - lo + 1).toNat
  refine ⟨by unfold lst; omega, by unfold lst; omega, fun a ha hl => ?_, fun hl => h3 (by unfold lst at hl; omega)⟩
  have := h2 (a - lo).toNat (by unfold lst at hl; omega)
  rwa [show lo + ((a - lo).toNat : Int) = a by omega] at this
theorem lst_uniq {p : Int → Prop} [DecidablePred p] {lo hi k : Int} (h0 : lo ≤ k) (h1 : k ≤ hi + 1) (h2 : ∀ a, lo ≤ a → a < k → ¬ p a) (h3 : k ≤ hi → p k) : lst p lo hi = k := by
  obtain ⟨g0, g1, g2, g3⟩ := lst_spec p (lo := lo) (hi := hi) (by omega)
  by_cases e : lst p lo hi < k
  · exact absurd (g3 (by omega)) (h2 _ g0 e)
  · by_cases e2 : k < lst p lo hi
    · exact absurd (h3 (by omega)) (g2 _ h0 e2)
    · omega
theorem dr_nn {a b : Int} (hb : 0 < b) (ha : 0 ≤ a) : dr a b = (2 * a + b) / (2 * b) := by
  unfold dr drP; rw [if_neg (by omega), if_neg (by omega)]
theorem dr_mono {a a' b : Int} (hb : 0 < b) (ha : 0 ≤ a) (h : a ≤ a') : dr a b ≤ dr a' b := by
  rw [dr_nn hb ha, dr_nn hb (by omega)]
  exact Int.ediv_le_ediv (by omega) (by omega)
theorem dr_ge0 {a b : Int} (hb : 0 < b) (ha : 0 ≤ a) : 0 ≤ dr a b := by
  rw [dr_nn hb ha]
  exact Int.ediv_nonneg (by omega) (by omega)
theorem dr_le {a b k : Int} (hb : 0 < b) (ha : 0 ≤ a) (h : a ≤ k * b) : dr a b ≤ k := by
  rw [dr_nn hb ha]
  have e : 2 * (k * b) = k * (2 * b) := by rw [Int.mul_left_comm]
  have : (2 * a + b) < (k + 1) * (2 * b) := by rw [Int.add_mul, Int.one_mul, ← e]; omega
  have := Int.ediv_lt_of_lt_mul (by omega : 0 < 2 * b) this
  omega
theorem bl_bd {x0 y0 x1 y1 : Int} (x : Int) (hx : x0 < x1) (hy : y0 ≤ y1) : y0 ≤ bl x0 y0 x1 y1 x ∧ bl x0 y0 x1 y1 x ≤ y1 := by
  unfold bl
  split
  · omega
  · split
    · omega
    · have h0 := Int.mul_nonneg (show 0 ≤ y1 - y0 by omega) (show 0 ≤ x - x0 by omega)
      have h1 := Int.mul_le_mul_of_nonneg_left (show x - x0 ≤ x1 - x0 by omega) (show 0 ≤ y1 - y0 by omega)
      have h2 := dr_ge0 (b := x1 - x0) (by omega) h0
      have h3 := dr_le (b := x1 - x0) (by omega) h0 h1
      omega
theorem bl_mono {x0 y0 x1 y1 x y : Int} (hx : x0 < x1) (hy : y0 ≤ y1) (h : x ≤ y) : bl x0 y0 x1 y1 x ≤ bl x0 y0 x1 y1 y := by
  have b1 := bl_bd x hx hy
  have b2 := bl_bd y hx hy
  by_cases h1 : x ≤ x0 ∨ x1 ≤ x0
  · have : bl x0 y0 x1 y1 x = y0 := if_pos h1
    omega
  · by_cases h2 : y ≥ x1
    · have : bl x0 y0 x1 y1 y = y1 := by unfold bl; rw [if_neg (by omega), if_pos h2]
      omega
    · unfold bl
      rw [if_neg h1, if_neg (by omega), if_neg (by omega), if_neg h2]
      have h0 := Int.mul_nonneg (show 0 ≤ y1 - y0 by omega) (show 0 ≤ x - x0 by omega)
      have h3 := Int.mul_le_mul_of_nonneg_left (show x - x0 ≤ y - x0 by omega) (show 0 ≤ y1 - y0 by omega)
      have := dr_mono (b := x1 - x0) (by omega) h0 h3
      omega
set_option maxHeartbeats 4000000 in
theorem boil_mono {x y : Int} (h : x ≤ y) : boil x ≤ boil y := by
  have a1 := bl_bd (x0 := 1000) (y0 := 700) (x1 := 2000) (y1 := 1750) x (by omega) (by omega)
  have a2 := bl_bd (x0 := 2000) (y0 := 1750) (x1 := 10000) (y1 := 4580) x (by omega) (by omega)
  have a3 := bl_bd (x0 := 10000) (y0 := 4580) (x1 := 50000) (y1 := 8135) x (by omega) (by omega)
  have a4 := bl_bd (x0 := 50000) (y0 := 8135) (x1 := 101325) (y1 := 9961) x (by omega) (by omega)
  have a5 := bl_bd (x0 := 101325) (y0 := 9961) (x1 := 200000) (y1 := 12023) x (by omega) (by omega)
  have a6 := bl_bd (x0 := 200000) (y0 := 12023) (x1 := 400000) (y1 := 14361) x (by omega) (by omega)
  have a7 := bl_bd (x0 := 400000) (y0 := 14361) (x1 := 600000) (y1 := 15883) x (by omega) (by omega)
  have a8 := bl_bd (x0 := 600000) (y0 := 15883) (x1 := 1000000) (y1 := 17988) x (by omega) (by omega)
  have a9 := bl_bd (x0 := 1000000) (y0 := 17988) (x1 := 1200000) (y1 := 18796) x (by omega) (by omega)
  have b1 := bl_bd (x0 := 1000) (y0 := 700) (x1 := 2000) (y1 := 1750) y (by omega) (by omega)
  have b2 := bl_bd (x0 := 2000) (y0 := 1750) (x1 := 10000) (y1 := 4580) y (by omega) (by omega)
  have b3 := bl_bd (x0 := 10000) (y0 := 4580) (x1 := 50000) (y1 := 8135) y (by omega) (by omega)
  have b4 := bl_bd (x0 := 50000) (y0 := 8135) (x1 := 101325) (y1 := 9961) y (by omega) (by omega)
  have b5 := bl_bd (x0 := 101325) (y0 := 9961) (x1 := 200000) (y1 := 12023) y (by omega) (by omega)
  have b6 := bl_bd (x0 := 200000) (y0 := 12023) (x1 := 400000) (y1 := 14361) y (by omega) (by omega)
  have b7 := bl_bd (x0 := 400000) (y0 := 14361) (x1 := 600000) (y1 := 15883) y (by omega) (by omega)
  have b8 := bl_bd (x0 := 600000) (y0 := 15883) (x1 := 1000000) (y1 := 17988) y (by omega) (by omega)
  have b9 := bl_bd (x0 := 1000000) (y0 := 17988) (x1 := 1200000) (y1 := 18796) y (by omega) (by omega)
  have c1 := bl_mono (x0 := 1000) (y0 := 700) (x1 := 2000) (y1 := 1750) (by omega) (by omega) h
  have c2 := bl_mono (x0 := 2000) (y0 := 1750) (x1 := 10000) (y1 := 4580) (by omega) (by omega) h
  have c3 := bl_mono (x0 := 10000) (y0 := 4580) (x1 := 50000) (y1 := 8135) (by omega) (by omega) h
  have c4 := bl_mono (x0 := 50000) (y0 := 8135) (x1 := 101325) (y1 := 9961) (by omega) (by omega) h
  have c5 := bl_mono (x0 := 101325) (y0 := 9961) (x1 := 200000) (y1 := 12023) (by omega) (by omega) h
  have c6 := bl_mono (x0 := 200000) (y0 := 12023) (x1 := 400000) (y1 := 14361) (by omega) (by omega) h
  have c7 := bl_mono (x0 := 400000) (y0 := 14361) (x1 := 600000) (y1 := 15883) (by omega) (by omega) h
  have c8 := bl_mono (x0 := 600000) (y0 := 15883) (x1 := 1000000) (y1 := 17988) (by omega) (by omega) h
  have c9 := bl_mono (x0 := 1000000) (y0 := 17988) (x1 := 1200000) (y1 := 18796) (by omega) (by omega) h
  unfold boil
  split <;> (first | (rw [if_pos (by omega)]; omega) | skip) <;> (repeat' split) <;> omega
theorem boil_top : boil 1200000 = 18796 := by decide
noncomputable def stm (t : Int) : Int := lst (fun n => boil n ≥ t) 1000 1200000
theorem stm_spec (t : Int) : 1000 ≤ stm t ∧ stm t ≤ 1200001 ∧ (∀ a, 1000 ≤ a → a < stm t → ¬ boil a ≥ t) ∧ (stm t ≤ 1200000 → boil (stm t) ≥ t) := by
  have := lst_spec (fun n => boil n ≥ t) (lo := 1000) (hi := 1200000) (by omega)
  exact this
theorem stm_mono {s t : Int} (h : s ≤ t) : stm s ≤ stm t := by
  obtain ⟨a1, a2, a3, a4⟩ := stm_spec s
  obtain ⟨b1, b2, b3, b4⟩ := stm_spec t
  by_cases e : stm t < stm s
  · have h1 := a3 _ b1 e
    have h2 := b4 (by omega)
    omega
  · omega
theorem stm_bd (t : Int) : 1000 ≤ stm t ∧ stm t ≤ 1200001 := ⟨(stm_spec t).1, (stm_spec t).2.1⟩
theorem stm_uniq {t h : Int} (h0 : 1000 ≤ h) (h1 : h ≤ 1200000) (h2 : ∀ a, 1000 ≤ a → a < h → ¬ boil a ≥ t) (h3 : boil h ≥ t) : stm t = h :=
  lst_uniq (p := fun n => boil n ≥ t) h0 (by omega) h2 (fun _ => h3)
noncomputable def hot (p m : Int) : Int := lst (fun n => stm n + m > p) 0 18000
theorem hot_spec (p m : Int) : 0 ≤ hot p m ∧ hot p m ≤ 18001 := by
  have := lst_spec (fun n => stm n + m > p) (lo := 0) (hi := 18000) (by omega)
  exact ⟨this.1, this.2.1⟩
theorem hot_uniq {p m k : Int} (h0 : 0 ≤ k) (h1 : k ≤ 18001) (h2 : ∀ a, 0 ≤ a → a < k → ¬ stm a + m > p) (h3 : k ≤ 18000 → stm k + m > p) : hot p m = k :=
  lst_uniq (p := fun n => stm n + m > p) h0 (by omega) h2 h3
noncomputable def ln (xs ds : List Int) : Int := if within xs (-100000000) 100000000 ∧ within ds 0 18000 then (if xs.length = ds.length ∧ xs.length ≤ 16 then 0 else 7) else 2
noncomputable def bc (xs ds : List Int) (m lim : Int) : Int := if (0 ≤ m ∧ m ≤ 1000000) ∧ (0 ≤ lim ∧ lim ≤ 100000000) then ln xs ds else 2
theorem ln_ok {xs ds : List Int} (h : ln xs ds = 0) : (xs.length = ds.length ∧ xs.length ≤ 16) ∧ within xs (-100000000) 100000000 ∧ within ds 0 18000 := by
  unfold ln at h
  split at h
  · split at h
    · exact ⟨by assumption, by assumption⟩
    · omega
  · omega
theorem bc_ok {xs ds : List Int} {m lim : Int} (h : bc xs ds m lim = 0) : ((0 ≤ m ∧ m ≤ 1000000) ∧ (0 ≤ lim ∧ lim ≤ 100000000)) ∧ (xs.length = ds.length ∧ xs.length ≤ 16) ∧ within xs (-100000000) 100000000 ∧ within ds 0 18000 := by
  unfold bc at h
  split at h
  · exact ⟨by assumption, ln_ok h⟩
  · omega
theorem bc_zero {xs ds : List Int} {m lim : Int} (h1 : (0 ≤ m ∧ m ≤ 1000000) ∧ (0 ≤ lim ∧ lim ≤ 100000000)) : bc xs ds m lim = ln xs ds := if_pos h1
theorem ln2 {xs ds : List Int} (h : ¬ within xs (-100000000) 100000000 ∨ ¬ within ds 0 18000) : ln xs ds = 2 := by
  unfold ln; rw [if_neg (fun hh => by rcases h with h | h; exact h hh.1; exact h hh.2)]
theorem ln7 {xs ds : List Int} (h1 : within xs (-100000000) 100000000) (h2 : within ds 0 18000) (h : ¬ (xs.length = ds.length ∧ xs.length ≤ 16)) : ln xs ds = 7 := by
  unfold ln; rw [if_pos ⟨h1, h2⟩, if_neg h]
theorem ln0 {xs ds : List Int} (h1 : within xs (-100000000) 100000000) (h2 : within ds 0 18000) (h : xs.length = ds.length ∧ xs.length ≤ 16) : ln xs ds = 0 := by
  unfold ln; rw [if_pos ⟨h1, h2⟩, if_pos h]
theorem within_zero {n : Nat} : within (List.replicate n 0) 0 18000 := by
  intro j q hq
  have := List.mem_of_getElem? hq
  rw [(List.mem_replicate.1 this).2]; omega
noncomputable def thC (xs : List Int) (lim : Int) : Int := bc xs (List.replicate xs.length 0) 0 lim
noncomputable def thL (xs : List Int) (lim : Int) : List Int := if thC xs lim = 0 then ixs (fun i => lim < gd xs i) xs.length else []
theorem thL_no {xs : List Int} {lim : Int} (h : ¬ thC xs lim = 0) : thL xs lim = [] := if_neg h
theorem thL_ok {xs : List Int} {lim : Int} (h : thC xs lim = 0) : thL xs lim = ixs (fun i => lim < gd xs i) xs.length := if_pos h
theorem thL_len {xs : List Int} {lim : Int} : (thL xs lim).length ≤ 16 ∧ (thL xs lim).length ≤ xs.length := by
  by_cases h : thC xs lim = 0
  · rw [thL_ok h]
    have := (bc_ok h).2.1.2
    have := ixs_len (p := fun i => lim < gd xs i) xs.length
    omega
  · rw [thL_no h]; simp
theorem takeRep {n : Nat} : (List.replicate n (zelem [AV.s (.int .i64 0)])).take n = (List.replicate n (0 : Int)).map ci := by rw [takeLen (by simp), List.map_replicate]; rfl
theorem repC {n : Nat} : List.replicate n (zelem [AV.s (.int .i64 0)]) = (List.replicate n (0 : Int)).map ci := by rw [List.map_replicate]; rfl
theorem nodes_p {xs ds : List Int} {i : Nat} {p : Int} (h : within xs (-100000000) 100000000) (hp : xs[i]? = some p) : -100000000 ≤ p ∧ p ≤ 100000000 := h _ _ hp
theorem nodes_q {ds : List Int} {i : Nat} {q : Int} (h : within ds 0 18000) (hq : ds[i]? = some q) : (0 ≤ q ∧ q ≤ 18000) ∧ 1000 ≤ stm q ∧ stm q ≤ 1200001 := ⟨h _ _ hq, stm_bd q⟩
def d5 (d : Int) : Int := d * d * d * d * d
theorem d5_bd {d : Int} (h : 20 ≤ d ∧ d ≤ 1000) : 3200000 ≤ d5 d ∧ d5 d ≤ 1000000000000000 ∧ (400 ≤ d * d ∧ d * d ≤ 1000000) ∧ (8000 ≤ d * d * d ∧ d * d * d ≤ 1000000000) ∧ (160000 ≤ d * d * d * d ∧ d * d * d * d ≤ 1000000000000) := by
  have h2l := Int.mul_le_mul h.1 h.1 (by omega) (show (0 : Int) ≤ d by omega)
  have h2u := Int.mul_le_mul h.2 h.2 (by omega) (show (0 : Int) ≤ 1000 by omega)
  have h3l := Int.mul_le_mul h2l h.1 (by omega) (show (0 : Int) ≤ d * d by omega)
  have h3u := Int.mul_le_mul h2u h.2 (by omega) (show (0 : Int) ≤ 1000 * 1000 by omega)
  have h4l := Int.mul_le_mul h3l h.1 (by omega) (show (0 : Int) ≤ d * d * d by omega)
  have h4u := Int.mul_le_mul h3u h.2 (by omega) (show (0 : Int) ≤ 1000 * 1000 * 1000 by omega)
  have h5l := Int.mul_le_mul h4l h.1 (by omega) (show (0 : Int) ≤ d * d * d * d by omega)
  have h5u := Int.mul_le_mul h4u h.2 (by omega) (show (0 : Int) ≤ 1000 * 1000 * 1000 * 1000 by omega)
  unfold d5
  omega
def drN (le q : Int) : Int := le * 16200 * q * (q.natAbs : Int)
theorem drN_bd {le q : Int} (h : 1 ≤ le ∧ le ≤ 10000) (hq : -100000 ≤ q ∧ q ≤ 100000) : (-16200000000000 ≤ le * 16200 * q ∧ le * 16200 * q ≤ 16200000000000) ∧ -1620000000000000000 ≤ drN le q ∧ drN le q ≤ 1620000000000000000 := by
  have h1 := mulS (a := le * 16200) (b := q) (A := 162000000) (B := 100000) (by omega) (by omega) (by omega) (by omega)
  have h2 := mulS (a := le * 16200 * q) (b := (q.natAbs : Int)) (A := 16200000000000) (B := 100000) (by omega) (by omega) (by omega) (by omega)
  unfold drN
  omega
def drp (le di q : Int) : Int := dr (drN le q) (d5 di)
theorem dr_eqP {a b : Int} (hb : 0 < b) : dr a b = if a < 0 then -((b - 2 * a) / (2 * b)) else (2 * a + b) / (2 * b) := by unfold dr drP; rw [if_neg (by omega)]
theorem dr_neg {a b : Int} (hb : 0 < b) : dr (-a) b = - dr a b := by
  rw [dr_eqP hb, dr_eqP hb]
  by_cases h : a < 0
  · rw [if_neg (by omega), if_pos h]
    rw [show 2 * -a + b = b - 2 * a by omega]; omega
  · by_cases h0 : a = 0
    · subst h0
      rw [if_neg (by omega), if_neg (by omega)]
      have : (2 * (0 : Int) + b) / (2 * b) = 0 := Int.ediv_eq_zero_of_lt (by omega) (by omega)
      rw [show 2 * -(0 : Int) + b = 2 * 0 + b by omega, this]; rfl
    · rw [if_pos (by omega), if_neg h]
      rw [show b - 2 * -a = 2 * a + b by omega]
theorem dr_abs {a b B : Int} (hb : 0 < b) (hB : 0 ≤ B) (h : -(b * B) ≤ a ∧ a ≤ b * B) : -B ≤ dr a b ∧ dr a b ≤ B := by
  have key : ∀ a : Int, 0 ≤ a → a ≤ b * B → 0 ≤ dr a b ∧ dr a b ≤ B := fun a h0 h1 => by
    rw [dr_eqP hb, if_neg (by omega)]
    refine ⟨Int.ediv_nonneg (by omega) (by omega), ?_⟩
    have h2 : (2 * a + b) / (2 * b) < B + 1 := by
      refine Int.ediv_lt_of_lt_mul (by omega) ?_
      have e : (B + 1) * (2 * b) = 2 * (b * B) + 2 * b := by rw [Int.add_mul, Int.one_mul, Int.mul_comm B (2 * b), Int.mul_assoc]
      omega
    omega
  by_cases c : 0 ≤ a
  · have := key a c h.2; omega
  · have := key (-a) (by omega) (by omega)
    rw [dr_neg hb] at this; omega
theorem drN_neg {le q : Int} : drN le (-q) = - drN le q := by
  unfold drN
  rw [Int.natAbs_neg, Int.mul_neg, Int.neg_mul]
theorem drp_neg {le di q : Int} (h : 20 ≤ di ∧ di ≤ 1000) : drp le di (-q) = - drp le di q := by
  unfold drp
  rw [drN_neg, dr_neg (by have := (d5_bd h).1; omega)]
theorem drp_nn {le di q : Int} (h : 20 ≤ di ∧ di ≤ 1000) (h2 : 1 ≤ le) (hq : 0 ≤ q) : 0 ≤ drp le di q := by
  have hd := (d5_bd h).1
  have hn : 0 ≤ drN le q := by unfold drN; exact Int.mul_nonneg (Int.mul_nonneg (by omega) hq) (by omega)
  unfold drp
  rw [dr_eqP (by omega), if_neg (by omega)]
  exact Int.ediv_nonneg (by omega) (by omega)
theorem drp_bd {le di q : Int} (h2 : 1 ≤ le ∧ le ≤ 10000) (h : 20 ≤ di ∧ di ≤ 1000) (hq : -100000 ≤ q ∧ q ≤ 100000) : -600000000000 ≤ drp le di q ∧ drp le di q ≤ 600000000000 := by
  have hd := (d5_bd h).1
  have hn := (drN_bd h2 hq).2
  have hm : 3200000 * 600000000000 ≤ d5 di * 600000000000 := Int.mul_le_mul_of_nonneg_right hd (by omega)
  exact dr_abs (by omega) (by omega) ⟨by omega, by omega⟩
def drW (ps : List Pi) (fl : List Int) (w : Nat × Nat × Nat) : Int := match ps[w.2.2]? with
  | some p => drp p.le p.di (flS (ps.map pe) fl w)
  | none => 0
theorem drW_eq {ps : List Pi} {fl : List Int} {w : Nat × Nat × Nat} {p : Pi} (h : ps[w.2.2]? = some p) : drW ps fl w = drp p.le p.di (flS (ps.map pe) fl w) := by unfold drW; rw [h]
def riW (ns : List Int) (w : Nat × Nat × Nat) : Int := dr (981 * (ns.getD w.1 0 - ns.getD w.2.1 0)) 10
theorem riW_bd {ns : List Int} {w : Nat × Nat × Nat} (h1 : -100000 ≤ ns.getD w.1 0 ∧ ns.getD w.1 0 ≤ 100000) (h2 : -100000 ≤ ns.getD w.2.1 0 ∧ ns.getD w.2.1 0 ≤ 100000) : -20000000 ≤ riW ns w ∧ riW ns w ≤ 20000000 := by
  unfold riW
  exact dr_abs (by omega) (by omega) ⟨by omega, by omega⟩
def prF (ns : List Int) (ps : List Pi) (fl : List Int) (w : Nat × Nat × Nat) (a : Int) : Int := a - drW ps fl w - riW ns w
theorem prF_eq {ns : List Int} {ps : List Pi} {fl : List Int} {w : Nat × Nat × Nat} {a : Int} : prF ns ps fl w a = a - drW ps fl w - riW ns w := rfl
def dfF (ps : List Pi) (fl : List Int) (w : Nat × Nat × Nat) (a : Int) : Int := a - 2 * drW ps fl w
def dropP (ps : List Pi) (fl : List Int) : Prop := ∀ (i : Nat) (p : Pi) (l : Int), ps[i]? = some p → fl[i]? = some l → (drp p.le p.di l).natAbs ≤ 100000000
noncomputable instance (ps : List Pi) (fl : List Int) : Decidable (dropP ps fl) := Classical.propDecidable _
theorem nsG {ns : List Int} (h : within ns (-100000) 100000) (v : Nat) : -100000 ≤ ns.getD v 0 ∧ ns.getD v 0 ≤ 100000 := by
  unfold List.getD
  cases hg : ns[v]? with
  | none => simp
  | some a => exact h v a hg
/-- Bounds that grow along the ways. -/
theorem wyT_grow {f : Nat × Nat × Nat → Int → Int} {C : Int} (hC : 0 ≤ C) : ∀ (ws : List (Nat × Nat × Nat)) (t : List Int) (B : Int), 0 ≤ B → (∀ w ∈ ws, ∀ a, -C ≤ f w a - a ∧ f w a - a ≤ C) → (∀ v, -B ≤ t.getD v 0 ∧ t.getD v 0 ≤ B) → ∀ v, -(B + C * ws.length) ≤ (wyT f ws t).getD v 0 ∧ (wyT f ws t).getD v 0 ≤ B + C * ws.length
  | [], t, B, _, _, ht, v => by have := ht v; simp only [List.length_nil, Int.natCast_zero, Int.mul_zero, Int.add_zero]; exact this
  | w :: ws, t, B, hB, hf, ht, v => by
    have ih := wyT_grow hC ws (t.set w.1 (f w (t.getD w.2.1 0))) (B + C) (by omega) (fun x hx => hf x (List.mem_cons_of_mem _ hx)) (fun u => by
      have h1 := ht u
      have h2 := ht w.2.1
      have h3 := hf w List.mem_cons_self (t.getD w.2.1 0)
      rw [getD_set]
      split <;> omega) v
    have e : C * ((ws.length + 1 : Nat) : Int) = C * (ws.length : Int) + C := by rw [Int.natCast_add, Int.mul_add]; simp
    show -(B + C * ((ws.length + 1 : Nat) : Int)) ≤ (wyT f ws (t.set w.1 (f w (t.getD w.2.1 0)))).getD v 0 ∧ (wyT f ws (t.set w.1 (f w (t.getD w.2.1 0)))).getD v 0 ≤ B + C * ((ws.length + 1 : Nat) : Int)
    rw [e]
    omega
theorem wyR_grow {f : Nat × Nat × Nat → Int → Int} {es : List (Nat × Nat)} {n s m : Nat} {x C : Int} (hr : ∀ e ∈ es, e.1 < n ∧ e.2 < n) (hs : s < n) (hn : n ≤ 16) (hx : -100000000 ≤ x ∧ x ≤ 100000000) (hC : 0 ≤ C ∧ C ≤ 10000000000000) (hf : ∀ w ∈ (waysF es n s).2, ∀ a, -C ≤ f w a - a ∧ f w a - a ≤ C) (v : Nat) : -(100000000 + C * 16) ≤ (wyR f es n s x m).getD v 0 ∧ (wyR f es n s x m).getD v 0 ≤ 100000000 + C * 16 := by
  have h := wyT_grow (f := f) hC.1 ((waysF es n s).2.take m) ((List.replicate n 0).set s x) 100000000 (by omega) (fun w hw => hf w (List.mem_of_mem_take hw)) (fun u => by
    rw [getD_set]
    split
    · exact hx
    · unfold List.getD
      rw [List.getElem?_replicate]
      split <;> simp) v
  have hl := ways_le hr hs
  have hl2 : ((waysF es n s).2.take m).length ≤ 16 := by rw [List.length_take]; omega
  have hm : C * (((waysF es n s).2.take m).length : Int) ≤ C * 16 := Int.mul_le_mul_of_nonneg_left (by omega) hC.1
  unfold wyR
  omega
theorem drW_bd {ns : List Int} {ps : List Pi} {fl : List Int} {s : Nat} (ok : netOk ns ps) (hfl : flP ps fl) {w : Nat × Nat × Nat} (hs : s < ns.length) (hw : w ∈ (waysF (ps.map pe) ns.length s).2) : -600000000000 ≤ drW ps fl w ∧ drW ps fl w ≤ 600000000000 := by
  obtain ⟨p, hW⟩ := wayOf ok hs hw
  have hpo := (ok.2 _ p hW.hp).1.1
  have hpl := (List.getElem?_eq_some_iff.1 hW.hp).1
  have hl : fl[w.2.2]? = some (fl[w.2.2]'(by have := hfl.1; omega)) := List.getElem?_eq_getElem (by have := hfl.1; omega)
  have hlb := hfl.2 _ _ hl
  have hfs := flS_y hW.hp hl
  rw [drW_eq hW.hp]
  refine drp_bd hpo.2.2.2.2.1 hpo.2.2.2.2.2.1 ?_
  rw [hfs]; split <;> omega
theorem drW_ab {ps : List Pi} {fl : List Int} {w : Nat × Nat × Nat} {p : Pi} {l : Int} (hp : ps[w.2.2]? = some p) (hl : fl[w.2.2]? = some l) (hd : 20 ≤ p.di ∧ p.di ≤ 1000) : (drW ps fl w).natAbs = (drp p.le p.di l).natAbs := by
  rw [drW_eq hp, flS_y hp hl]
  split
  · rfl
  · rw [drp_neg hd, Int.natAbs_neg]
/-- In a tree it is the same to look at the pipes or at the ways. -/
theorem drop_ways {ns : List Int} {ps : List Pi} {fl : List Int} {s : Nat} (ok : netOk ns ps) (hfl : flP ps fl) (ht : treeP ns ps) (hs : s < ns.length) (h : ∀ w ∈ (waysF (ps.map pe) ns.length s).2, (drW ps fl w).natAbs ≤ 100000000) : dropP ps fl := fun i p l hp hl => by
  have hpl := (List.getElem?_eq_some_iff.1 hp).1
  have hc : ∀ v, v < ns.length → Conn (ps.map pe) s v := fun v hv => (ht.2 s hs).symm.trans (ht.2 v hv)
  obtain ⟨w, hw, e⟩ := ways_all (esF_lt ok) hs hc (by rw [List.length_map]; exact ht.1) (i := i) (by rw [List.length_map]; exact hpl)
  subst e
  rw [← drW_ab hp hl (ok.2 _ p hp).1.1.2.2.2.2.2.1]
  exact h w hw
theorem drop_no {ns : List Int} {ps : List Pi} {fl : List Int} {w : Nat × Nat × Nat} {p : Pi} {l : Int} (ok : netOk ns ps) (hp : ps[w.2.2]? = some p) (hl : fl[w.2.2]? = some l) (h : 100000000 < (drW ps fl w).natAbs) : ¬ dropP ps fl := fun k => by
  have := k _ p l hp hl
  rw [← drW_ab hp hl (ok.2 _ p hp).1.1.2.2.2.2.2.1] at this
  omega
theorem prF_d {ns : List Int} {ps : List Pi} {fl : List Int} {s : Nat} (ok : netOk ns ps) (hfl : flP ps fl) (hs : s < ns.length) : ∀ w ∈ (waysF (ps.map pe) ns.length s).2, ∀ a, -1000000000000 ≤ prF ns ps fl w a - a ∧ prF ns ps fl w a - a ≤ 1000000000000 := fun w hw a => by
  have h1 := drW_bd ok hfl hs hw
  have h2 := riW_bd (ns := ns) (w := w) (nsG ok.1.2.1 _) (nsG ok.1.2.1 _)
  unfold prF; omega
theorem dfF_d {ns : List Int} {ps : List Pi} {fl : List Int} {s : Nat} (ok : netOk ns ps) (hfl : flP ps fl) (hs : s < ns.length) : ∀ w ∈ (waysF (ps.map pe) ns.length s).2, ∀ a, -2000000000000 ≤ dfF ps fl w a - a ∧ dfF ps fl w a - a ≤ 2000000000000 := fun w hw a => by
  have h1 := drW_bd ok hfl hs hw
  unfold dfF; omega
theorem getW {t : List Int} {v : Nat} {k : Int} (h : v < t.length) (hk : k = (v : Int)) : (t.map ci)[k.toNat]? = some (ci (t.getD v 0)) := by
  rw [show k.toNat = v by omega]; exact getG h
def dgP (ns ds : List Int) : Prop := ds.length = ns.length ∧ within ds 0 18000
noncomputable instance (ns ds : List Int) : Decidable (dgP ns ds) := Classical.propDecidable _
noncomputable def srC (ns : List Int) (ps : List Pi) (s : Int) (fl ds : List Int) (mg : Int) : Int := if netOk ns ps then (if (0 ≤ s ∧ s < ns.length) ∧ 0 ≤ mg ∧ mg ≤ 1000000 then (if flP ps fl ∧ dgP ns ds then (if treeP ns ps then (if dropP ps fl then 0 else 5) else 6) else 7) else 2) else 1
noncomputable def spM (xs ds : List Int) (mg : Int) : Nat → Int
  | 0 => 0
  | n + 1 => if stm (ds.getD n 0) + mg - xs.getD n 0 > spM xs ds mg n then stm (ds.getD n 0) + mg - xs.getD n 0 else spM xs ds mg n
theorem spM_s {xs ds : List Int} {mg : Int} {n : Nat} : spM xs ds mg (n + 1) = if stm (ds.getD n 0) + mg - xs.getD n 0 > spM xs ds mg n then stm (ds.getD n 0) + mg - xs.getD n 0 else spM xs ds mg n := rfl
theorem spM_bd {xs ds : List Int} {mg : Int} (hm : 0 ≤ mg ∧ mg ≤ 1000000) (hx : ∀ v, -16000100000000 ≤ xs.getD v 0 ∧ xs.getD v 0 ≤ 16000100000000) : ∀ n : Nat, 0 ≤ spM xs ds mg n ∧ spM xs ds mg n ≤ 16000103000000
  | 0 => by simp [spM]
  | n + 1 => by
    have ih := spM_bd hm hx n (ds := ds)
    have h1 := stm_bd (ds.getD n 0)
    have h2 := hx n
    rw [spM_s]; split <;> omega
def spRow (ns : List Int) (ps : List Pi) (s : Int) (fl : List Int) : List Int := wyR (prF ns ps fl) (ps.map pe) ns.length s.toNat 0 (waysF (ps.map pe) ns.length s.toNat).2.length
noncomputable def srV (ns : List Int) (ps : List Pi) (s : Int) (fl ds : List Int) (mg : Int) : Int := if srC ns ps s fl ds mg = 0 then spM (spRow ns ps s fl) ds mg ns.length else 0
theorem sp_e {ns : List Int} {ps : List Pi} {s : Int} {fl ds : List Int} {mg c : Int} (h : srC ns ps s fl ds mg = c) (hc : ¬ c = 0) : srC ns ps s fl ds mg = c ∧ srV ns ps s fl ds mg = 0 := ⟨h, if_neg (by omega)⟩
theorem sp_0 {ns : List Int} {ps : List Pi} {s : Int} {fl ds : List Int} {mg : Int} (h1 : netOk ns ps) (h2 : 0 ≤ s ∧ s < ns.length) (h3 : 0 ≤ mg ∧ mg ≤ 1000000) (h4 : flP ps fl) (h5 : dgP ns ds) (h6 : treeP ns ps) (h7 : dropP ps fl) : srC ns ps s fl ds mg = 0 ∧ srV ns ps s fl ds mg = spM (spRow ns ps s fl) ds mg ns.length := by
  have e : srC ns ps s fl ds mg = 0 := by unfold srC; rw [if_pos h1, if_pos ⟨h2, h3⟩, if_pos ⟨h4, h5⟩, if_pos h6, if_pos h7]
  exact ⟨e, if_pos e⟩
theorem sp_1 {ns : List Int} {ps : List Pi} {s : Int} {fl ds : List Int} {mg : Int} (h1 : ¬ netOk ns ps) : srC ns ps s fl ds mg = 1 ∧ srV ns ps s fl ds mg = 0 := sp_e (if_neg h1) (by omega)
theorem sp_2 {ns : List Int} {ps : List Pi} {s : Int} {fl ds : List Int} {mg : Int} (h1 : netOk ns ps) (h2 : ¬ ((0 ≤ s ∧ s < ns.length) ∧ 0 ≤ mg ∧ mg ≤ 1000000)) : srC ns ps s fl ds mg = 2 ∧ srV ns ps s fl ds mg = 0 := sp_e (by unfold srC; rw [if_pos h1, if_neg h2]) (by omega)
theorem sp_7 {ns : List Int} {ps : List Pi} {s : Int} {fl ds : List Int} {mg : Int} (h1 : netOk ns ps) (h2 : 0 ≤ s ∧ s < ns.length) (h3 : 0 ≤ mg ∧ mg ≤ 1000000) (h4 : ¬ (flP ps fl ∧ dgP ns ds)) : srC ns ps s fl ds mg = 7 ∧ srV ns ps s fl ds mg = 0 := sp_e (by unfold srC; rw [if_pos h1, if_pos ⟨h2, h3⟩, if_neg h4]) (by omega)
theorem sp_6 {ns : List Int} {ps : List Pi} {s : Int} {fl ds : List Int} {mg : Int} (h1 : netOk ns ps) (h2 : 0 ≤ s ∧ s < ns.length) (h3 : 0 ≤ mg ∧ mg ≤ 1000000) (h4 : flP ps fl) (h5 : dgP ns ds) (h6 : ¬ treeP ns ps) : srC ns ps s fl ds mg = 6 ∧ srV ns ps s fl ds mg = 0 := sp_e (by unfold srC; rw [if_pos h1, if_pos ⟨h2, h3⟩, if_pos ⟨h4, h5⟩, if_neg h6]) (by omega)
theorem sp_5 {ns : List Int} {ps : List Pi} {s : Int} {fl ds : List Int} {mg : Int} (h1 : netOk ns ps) (h2 : 0 ≤ s ∧ s < ns.length) (h3 : 0 ≤ mg ∧ mg ≤ 1000000) (h4 : flP ps fl) (h5 : dgP ns ds) (h6 : treeP ns ps) (h7 : ¬ dropP ps fl) : srC ns ps s fl ds mg = 5 ∧ srV ns ps s fl ds mg = 0 := sp_e (by unfold srC; rw [if_pos h1, if_pos ⟨h2, h3⟩, if_pos ⟨h4, h5⟩, if_pos h6, if_neg h7]) (by omega)
theorem spRow_len {ns : List Int} {ps : List Pi} {s : Int} {fl : List Int} : (spRow ns ps s fl).length = ns.length := wyR_len
theorem spRow_bd {ns : List Int} {ps : List Pi} {s : Int} {fl : List Int} (ok : netOk ns ps) (hs : 0 ≤ s ∧ s < ns.length) (hfl : flP ps fl) (v : Nat) : -16000100000000 ≤ (spRow ns ps s fl).getD v 0 ∧ (spRow ns ps s fl).getD v 0 ≤ 16000100000000 := by
  have h16 := ok.1.1
  have := wyR_grow (f := prF ns ps fl) (es := ps.map pe) (n := ns.length) (s := s.toNat) (m := (waysF (ps.map pe) ns.length s.toNat).2.length) (x := 0) (esF_lt ok) (by omega) (by omega) (by omega) (by omega) (prF_d ok hfl (by omega)) v
  unfold spRow; omega
theorem dgG {ds : List Int} (h : within ds 0 18000) (v : Nat) : 0 ≤ ds.getD v 0 ∧ ds.getD v 0 ≤ 18000 := by
  unfold List.getD
  cases hg : ds[v]? with
  | none => simp
  | some a => exact h v a hg
theorem sp_ask {ns : List Int} {ps : List Pi} {s n : Int} {fl ds : List Int} {mg : Int} (h : n = if netOk ns ps then (if 0 ≤ s ∧ s < ns.length then 0 else 2) else 1) (h0 : ¬ n = 0) : srC ns ps s fl ds mg = n ∧ srV ns ps s fl ds mg = 0 := by
  by_cases a : netOk ns ps
  · rw [if_pos a] at h
    by_cases b : 0 ≤ s ∧ s < ns.length
    · rw [if_pos b] at h; exact absurd h h0
    · rw [if_neg b] at h; subst h; exact sp_2 a (fun k => b k.1)
  · rw [if_neg a] at h; subst h; exact sp_1 a
def cb (n : Int) : AV := .s (.int .u8 n)
def src (cs : List Int) (a s : Int) : List AV := [.lst 1 (cs.map cb), .s (.int .i64 a), .s (.int .u64 s)]
def byteL (cs : List Int) : Prop := ∀ x ∈ cs, 0 ≤ x ∧ x ≤ 255
theorem and255 {x n : Int} (h : n = bitsI .and .u64 x 255) : 0 ≤ n ∧ n ≤ 255 := by
  subst h
  simp only [bitsI]
  have h1 : ((BitVec.ofInt IntKind.u64.bits x) &&& (BitVec.ofInt IntKind.u64.bits 255)).toNat ≤ 255 := by
    rw [BitVec.toNat_and]
    exact Nat.le_trans Nat.and_le_right (by decide)
  generalize ((BitVec.ofInt IntKind.u64.bits x) &&& (BitVec.ofInt IntKind.u64.bits 255)).toNat = m at h1
  have e : IntKind.u64.wrap (m : Int) = (m : Int) % 18446744073709551616 := by simp [IntKind.wrap, IntKind.bits, IntKind.signed]
  rw [e]; omega
def idL : List ByteArray := [⟨#[97]⟩, ⟨#[98]⟩, ⟨#[99]⟩, ⟨#[100]⟩, ⟨#[101]⟩, ⟨#[102]⟩, ⟨#[103]⟩, ⟨#[104]⟩, ⟨#[105]⟩, ⟨#[106]⟩, ⟨#[107]⟩, ⟨#[108]⟩]
def dpB (p : Pi) : Prop := (20 ≤ p.le ∧ p.le ≤ 919) ∧ (60 ≤ p.di ∧ p.di ≤ 440) ∧ (100 ≤ p.lo ∧ p.lo ≤ 699)
def trI (i : Nat) (p : Pi) : Prop := idL[i]? = some p.id ∧ dpB p ∧ ((p.fm = (i : Int) + 1 ∧ 0 ≤ p.tt ∧ p.tt ≤ i) ∨ (p.tt = (i : Int) + 1 ∧ 0 ≤ p.fm ∧ p.fm ≤ i))
def trA (ps : List Pi) : Prop := ∀ (i : Nat) (p : Pi), ps[i]? = some p → trI i p
theorem trA_app {ps : List Pi} {p : Pi} (h : trA ps) (hp : trI ps.length p) : trA (ps ++ [p]) := fun i q hq => by
  by_cases c : i < ps.length
  · rw [List.getElem?_append_left c] at hq; exact h i q hq
  · have hl := (List.getElem?_eq_some_iff.1 hq).1
    simp at hl
    have e : i = ps.length := by omega
    subst e
    rw [List.getElem?_append_right (Nat.le_refl _)] at hq
    simp at hq; subst hq; exact hp
def nsB (ns : List Int) : Prop := ∀ x ∈ ns, -1000 ≤ x ∧ x ≤ 2900
theorem nsB_app {ns : List Int} {x : Int} (h : nsB ns) (hx : -1000 ≤ x ∧ x ≤ 2900) : nsB (ns ++ [x]) := fun y hy => by
  rcases List.mem_append.1 hy with c | c
  · exact h y c
  · simp at c; subst c; exact hx
/-- What is told of a drawn tree. -/
structure DrT (ns : List Int) (ps : List Pi) : Prop where
  n2 : 2 ≤ ns.length
  n6 : ns.length ≤ 6
  pl : ps.length + 1 = ns.length
  nb : nsB ns
  tr : trA ps
theorem idL_ok : ∀ i : Nat, i < 12 → ∃ t, idL[i]? = some t ∧ isName t = true ∧ t.size ≤ 1 ∧ ∀ s, 0 < i → idL[i - 1]? = some s → idLt s t := by
  intro i hi
  rcases (by omega : i = 0 ∨ i = 1 ∨ i = 2 ∨ i = 3 ∨ i = 4 ∨ i = 5 ∨ i = 6 ∨ i = 7 ∨ i = 8 ∨ i = 9 ∨ i = 10 ∨ i = 11) with h | h | h | h | h | h | h | h | h | h | h | h <;> subst h <;> refine ⟨_, rfl, by decide +kernel, by decide +kernel, fun s hs he => ?_⟩ <;> first | omega | (cases he; unfold idLt; decide +kernel)
theorem DrT.net {ns : List Int} {ps : List Pi} (h : DrT ns ps) : netOk ns ps := by
  have h2 := h.n2
  have h6 := h.n6
  have hl := h.pl
  refine ⟨⟨⟨by omega, by omega⟩, fun j q hq => ?_, by omega⟩, fun j x hx => ?_⟩
  · have := h.nb q (List.mem_of_getElem? hq); omega
  · have hj := (List.getElem?_eq_some_iff.1 hx).1
    obtain ⟨t1, ⟨t2, t3, t4⟩, t5⟩ := h.tr j x hx
    obtain ⟨t, u1, u2, _, u3⟩ := idL_ok j (by omega)
    have e : t = x.id := by rw [t1] at u1; exact (Option.some.inj u1).symm
    subst e
    refine ⟨⟨⟨u2, by omega, by omega, by omega, by omega, by omega, by omega⟩, by omega, by omega⟩, fun y h0 hy => ?_⟩
    exact u3 _ h0 (h.tr (j - 1) y hy).1
theorem DrT.tree {ns : List Int} {ps : List Pi} (h : DrT ns ps) : treeP ns ps := by
  refine ⟨h.pl, fun v hv => ?_⟩
  induction v using Nat.strongRecOn with
  | _ v ih =>
    cases v with
    | zero => exact .rfl _
    | succ i =>
      have hl := h.pl
      have hi : i < ps.length := by omega
      have hp : ps[i]? = some ps[i] := List.getElem?_eq_getElem hi
      have hm : pe ps[i] ∈ ps.map pe := List.mem_map_of_mem (List.getElem_mem hi)
      obtain ⟨_, _, h3 | h3⟩ := h.tr i _ hp
      · refine .step (ih (ps[i]).tt.toNat (by omega) (by omega)) (.inr ?_)
        have e : (i + 1, (ps[i]).tt.toNat) = pe ps[i] := by unfold pe; rw [h3.1]; congr 1
        rw [e]; exact hm
      · refine .step (ih (ps[i]).fm.toNat (by omega) (by omega)) (.inl ?_)
        have e : ((ps[i]).fm.toNat, i + 1) = pe ps[i] := by unfold pe; rw [h3.1]; congr 1
        rw [e]; exact hm
theorem DrT.idz {ns : List Int} {ps : List Pi} (h : DrT ns ps) : idSz ps := fun j x hx => by
  have hj := (List.getElem?_eq_some_iff.1 hx).1
  have hl := h.pl
  have h6 := h.n6
  obtain ⟨t, u1, _, u2, _⟩ := idL_ok j (by omega)
  have e : t = x.id := by rw [(h.tr j x hx).1] at u1; exact (Option.some.inj u1).symm
  rw [← e]; omega
def sAV (s : ByteArray) : AV := .s (.string s)
theorem idG {i : Nat} {k : Int} {nm : ByteArray} (h : idL[i]? = some nm) (hk : k = (i : Int)) : (idL.map sAV)[k.toNat]? = some (.s (.string nm)) := by
  rw [show k.toNat = i by omega, List.getElem?_map, h]; rfl
/-- Demands: one for each node, none great. -/
def dmP (ns ds : List Int) : Prop := ds.length = ns.length ∧ ∀ x ∈ ds, 0 ≤ x ∧ x ≤ 2000
theorem dmP.g {ns ds : List Int} (h : dmP ns ds) (v : Nat) : 0 ≤ ds.getD v 0 ∧ ds.getD v 0 ≤ 2000 := by
  unfold List.getD
  cases hg : ds[v]? with
  | none => simp
  | some a => exact h.2 a (List.mem_of_getElem? hg)
theorem sm_le {es : List (Nat × Nat)} {n s : Nat} {ds : List Int} (hr : ∀ e ∈ es, e.1 < n ∧ e.2 < n) (hs : s < n) (hn : n ≤ 16) (hl : ds.length = n) (hd : ∀ v, 0 ≤ ds.getD v 0 ∧ ds.getD v 0 ≤ 2000) {m v : Nat} (hm : m ≤ (waysF es n s).2.length) (hv : v ∈ s :: ((waysF es n s).2.take m).map fun w => w.1) : 0 ≤ (smB ((waysF es n s).2.drop m) ds).getD v 0 ∧ (smB ((waysF es n s).2.drop m) ds).getD v 0 ≤ 2000 * n := by
  have hord := ways_ord hr hs
  have hlt : ∀ w ∈ (waysF es n s).2, w.2.1 < ds.length := fun w hw => by rw [hl]; exact (ways_lt hr hs hw).2.1
  have ht := smB_tot (d := ds) hord hlt ((waysF es n s).2.length - m) m (by omega)
  have hnn := smB_nn ((waysF es n s).2.drop m) ds (fun v => (hd v).1)
  refine ⟨hnn v, ?_⟩
  have h1 := su_mem (f := fun v => (smB ((waysF es n s).2.drop m) ds).getD v 0) _ (fun y _ => hnn y) hv
  have h2 := su_le (f := fun v => ds.getD v 0) (b := 2000) (s :: (waysF es n s).2.map fun w => w.1) (fun x _ => (hd x).2)
  have h3 := ways_le hr hs
  have h4 : ((s :: (waysF es n s).2.map fun w => w.1).length : Int) ≤ n := by simp; omega
  have h5 : (2000 : Int) * ((s :: (waysF es n s).2.map fun w => w.1).length : Int) ≤ 2000 * n := by omega
  exact Int.le_trans h1 (by rw [ht]; omega)
theorem fl_s {ps : List Pi} {S : List Int} {ws : List (Nat × Nat × Nat)} {w : Nat × Nat × Nat} {x : Int} {k : Int} (hi : w.2.2 < ps.length) (hk : k = (w.2.2 : Int)) (hx : x = flW (ps.map pe) S w) : ((flL (ps.map pe) S ws).map ci).set k.toNat (ci x) = (flL (ps.map pe) S (w :: ws)).map ci := by
  rw [mapSet, show k.toNat = w.2.2 by omega, hx, flL_set (by simpa using hi)]
theorem flW_P {ns : List Int} {ps : List Pi} {S : List Int} {w : Nat × Nat × Nat} {p : Pi} (h : WayOf ns ps w p) (hf : p.fm = (w.2.1 : Int)) : flW (ps.map pe) S w = S.getD w.1 0 := by
  unfold flW
  rw [List.getElem?_map, h.hp]
  exact if_neg (by unfold pe; simp only; have := h.ne; omega)
theorem flW_M {ns : List Int} {ps : List Pi} {S : List Int} {w : Nat × Nat × Nat} {p : Pi} (h : WayOf ns ps w p) (hf : p.fm = (w.1 : Int)) : flW (ps.map pe) S w = -(S.getD w.1 0) := by
  unfold flW
  rw [List.getElem?_map, h.hp]
  exact if_pos (by unfold pe; simp only; omega)
theorem drop_c {α : Type} {l : List α} {j : Nat} {w : α} (h : l[j]? = some w) : l.drop j = w :: l.drop (j + 1) := by
  obtain ⟨hl, he⟩ := List.getElem?_eq_some_iff.1 h
  rw [List.drop_eq_getElem_cons hl, he]
theorem dsG {ds : List Int} {t : List Int} (h : t = ds) : t.map ci = ds.map ci := by rw [h]
def lmB (f : Nat → Int) : Nat → Nat
  | 0 => 0
  | n + 1 => if n = 0 ∨ f n < f (lmB f n) then n else lmB f n
theorem lm_T {f : Nat → Int} {n : Nat} (h : n = 0 ∨ f n < f (lmB f n)) : lmB f (n + 1) = n := if_pos h
theorem lm_F {f : Nat → Int} {n : Nat} (h : ¬ (n = 0 ∨ f n < f (lmB f n))) : lmB f (n + 1) = lmB f n := if_neg h
theorem lm_lt {f : Nat → Int} : ∀ n : Nat, 0 < n → lmB f n < n
  | n + 1, _ => by
    by_cases h : n = 0 ∨ f n < f (lmB f n)
    · rw [lm_T h]; omega
    · rw [lm_F h]
      have := lm_lt (f := f) n (by omega)
      omega
def bI (f : Nat → Int) (n : Nat) : Int := if n = 0 then -1 else lmB f n
def lI (f : Nat → Int) (n : Nat) : Int := if n = 0 then 0 else f (lmB f n)
theorem bI_s {f : Nat → Int} {n : Nat} (h : ¬ n = 0) : bI f n = lmB f n := if_neg h
theorem lI_s {f : Nat → Int} {n : Nat} (h : ¬ n = 0) : lI f n = f (lmB f n) := if_neg h
theorem bI_neg {f : Nat → Int} {n : Nat} (h : bI f n < 0) : n = 0 := by
  unfold bI at h; split at h <;> omega
theorem bI_pos {f : Nat → Int} {n : Nat} (h : ¬ bI f n < 0) : ¬ n = 0 := by
  unfold bI at h; split at h <;> omega
noncomputable def lmF (xs ds : List Int) (i : Nat) : Int := gd xs i - stm (gd ds i)
theorem lmF_eq {xs ds : List Int} {i : Nat} {p q : Int} (hp : xs[i]? = some p) (hq : ds[i]? = some q) : lmF xs ds i = p - stm q := by unfold lmF; rw [gd_eq hp, gd_eq hq]
noncomputable def lmC (xs ds : List Int) : Int := if ln xs ds = 0 then (if xs.length = 0 then 3 else 0) else ln xs ds
def bnP (xs ds : List Int) (m : Int) (i : Nat) : Prop := gd xs i < stm (gd ds i) + m
noncomputable instance (xs ds : List Int) (m : Int) : DecidablePred (bnP xs ds m) := fun i => by unfold bnP; infer_instance
noncomputable def bnC (xs ds : List Int) (m : Int) : Int := bc xs ds m 0
noncomputable def bnL (xs ds : List Int) (m : Int) : List Int := if bnC xs ds m = 0 then ixs (bnP xs ds m) xs.length else []
theorem bnL_no {xs ds : List Int} {m : Int} (h : ¬ bnC xs ds m = 0) : bnL xs ds m = [] := if_neg h
theorem bnL_ok {xs ds : List Int} {m : Int} (h : bnC xs ds m = 0) : bnL xs ds m = ixs (bnP xs ds m) xs.length := if_pos h
theorem bnL_len {xs ds : List Int} {m : Int} : (bnL xs ds m).length ≤ 16 ∧ (bnL xs ds m).length ≤ xs.length := by
  by_cases h : bnC xs ds m = 0
  · rw [bnL_ok h]
    have := (bc_ok h).2.1.2
    have := ixs_len (p := bnP xs ds m) xs.length
    omega
  · rw [bnL_no h]; simp
theorem bnP_eq {xs ds : List Int} {m : Int} {i : Nat} {p q : Int} (hp : xs[i]? = some p) (hq : ds[i]? = some q) : bnP xs ds m i ↔ p < stm q + m := by unfold bnP; rw [gd_eq hp, gd_eq hq]
noncomputable def prG (xs ds : List Int) (m : Int) (i : Nat) : Int := stm (gd ds i) + m - gd xs i
def prL (g : Nat → Int) : Nat → Int
  | 0 => -9223372036854775808
  | n + 1 => if prL g n < g n then g n else prL g n
def prH (h : Nat → Int) : Nat → Int
  | 0 => 9223372036854775807
  | n + 1 => if h n < prH h n then h n else prH h n
theorem prL1 {g : Nat → Int} (h : -9223372036854775808 < g 0) : prL g 1 = g 0 := by simp [prL, h]
theorem prH1 {g : Nat → Int} (h : g 0 < 9223372036854775807) : prH g 1 = g 0 := by simp [prH, h]
theorem prL_s {g : Nat → Int} {n : Nat} : prL g (n + 1) = if prL g n < g n then g n else prL g n := rfl
theorem prH_s {g : Nat → Int} {n : Nat} : prH g (n + 1) = if g n < prH g n then g n else prH g n := rfl
def prh (xs : List Int) (lim : Int) (i : Nat) : Int := lim - gd xs i
theorem prG_eq {xs ds : List Int} {m : Int} {i : Nat} {p q : Int} (hp : xs[i]? = some p) (hq : ds[i]? = some q) : prG xs ds m i = stm q + m - p := by unfold prG; rw [gd_eq hp, gd_eq hq]
theorem prh_eq {xs : List Int} {lim : Int} {i : Nat} {p : Int} (hp : xs[i]? = some p) : prh xs lim i = lim - p := by unfold prh; rw [gd_eq hp]
noncomputable def prC (xs ds : List Int) (m lim : Int) : Int := if bc xs ds m lim = 0 then (if xs.length = 0 then 6 else if prL (prG xs ds m) xs.length > prH (prh xs lim) xs.length then 3 else 0) else bc xs ds m lim
def topN (ns : List Int) : Nat → Int
  | 0 => gd ns 0
  | n + 1 => if gd ns n > topN ns n then gd ns n else topN ns n
theorem topN_s {ns : List Int} {n : Nat} : topN ns (n + 1) = if gd ns n > topN ns n then gd ns n else topN ns n := rfl
theorem topN_1 {ns : List Int} : topN ns 1 = gd ns 0 := by simp [topN]
theorem topN_bd {ns : List Int} (h : within ns (-100000) 100000) (h0 : 1 ≤ ns.length) : ∀ n : Nat, n ≤ ns.length → -100000 ≤ topN ns n ∧ topN ns n ≤ 100000
  | 0, _ => by
    have hp : ns[0]? = some (ns[0]'(by omega)) := List.getElem?_eq_getElem (by omega)
    have := h _ _ hp
    show -100000 ≤ gd ns 0 ∧ gd ns 0 ≤ 100000
    rw [gd_eq hp]; exact this
  | n + 1, hn => by
    have ih := topN_bd h h0 n (by omega)
    have hp : ns[n]? = some (ns[n]'(by omega)) := List.getElem?_eq_getElem (by omega)
    have := h _ _ hp
    rw [topN_s, gd_eq hp]
    split <;> omega
noncomputable def spOk (ns : List Int) (ps : List Pi) (k t m : Int) : Int := if netOk ns ps then (if (0 ≤ k ∧ k < ns.length) ∧ (0 ≤ m ∧ m ≤ 1000000) ∧ (0 ≤ t ∧ t ≤ 18000) then 0 else 2) else 1
noncomputable def spV (ns : List Int) (k t m : Int) : Int := stm t + m + dr (981 * (topN ns ns.length - gd ns k.toNat)) 10
theorem spC {ns : List Int} {ps : List Pi} {k t m : Int} : spOk ns ps k t m = 0 ∨ ¬ spOk ns ps k t m = 0 := by omega
theorem S_le {es : List (Nat × Nat)} {n s : Nat} {ds : List Int} (hr : ∀ e ∈ es, e.1 < n ∧ e.2 < n) (hs : s < n) (hn : n ≤ 6) (hl : ds.length = n) (hd : ∀ v, 0 ≤ ds.getD v 0 ∧ ds.getD v 0 ≤ 2000) {w : Nat × Nat × Nat} (hw : w ∈ (waysF es n s).2) : 0 ≤ (smB (waysF es n s).2 ds).getD w.1 0 ∧ (smB (waysF es n s).2 ds).getD w.1 0 ≤ 12000 := by
  have h := smB_le (d := ds) (ways_ord hr hs) (fun w hw => by rw [hl]; exact (ways_lt hr hs hw).2.1) (fun v => (hd v).1) hw
  have h2 := su_le (f := fun v => ds.getD v 0) (b := 2000) (s :: (waysF es n s).2.map fun w => w.1) (fun x _ => (hd x).2)
  have h3 := ways_le hr hs
  have h4 : ((s :: (waysF es n s).2.map fun w => w.1).length : Int) ≤ 6 := by simp; omega
  refine ⟨h.1, Int.le_trans h.2 ?_⟩
  omega
/-- The flows of a tree's demands. -/
def flT (ns : List Int) (ps : List Pi) (s : Nat) (dm : List Int) : List Int := flL (ps.map pe) (smB (waysF (ps.map pe) ns.length s).2 dm) (waysF (ps.map pe) ns.length s).2
theorem flT_ok {ns : List Int} {ps : List Pi} {s : Nat} {dm : List Int} (h : DrT ns ps) (hs : s < ns.length) (hd : dmP ns dm) : flP ps (flT ns ps s dm) := by
  refine ⟨by unfold flT; rw [flL_len, List.length_map], fun j q hq => ?_⟩
  have hm := List.mem_of_getElem? hq
  unfold flT flL at hm
  obtain ⟨i, hi, rfl⟩ := List.mem_map.1 hm
  cases hw : wpi (waysF (ps.map pe) ns.length s).2 i with
  | none => simp
  | some w =>
    have hwm : w ∈ (waysF (ps.map pe) ns.length s).2 := List.mem_of_find?_eq_some hw
    have hS := S_le (esF_lt h.net) hs h.n6 hd.1 hd.g hwm
    simp only
    unfold flW
    split
    · split <;> omega
    · omega
theorem flT_al {ns : List Int} {ps : List Pi} {s : Nat} {dm : List Int} (h : DrT ns ps) (hs : s < ns.length) (hd : dmP ns dm) {w : Nat × Nat × Nat} (hw : w ∈ (waysF (ps.map pe) ns.length s).2) : flS (ps.map pe) (flT ns ps s dm) w = (smB (waysF (ps.map pe) ns.length s).2 dm).getD w.1 0 := by
  obtain ⟨p, hW⟩ := wayOf h.net hs hw
  have hpl := (List.getElem?_eq_some_iff.1 hW.hp).1
  have hg := flL_get (es := ps.map pe) (S := smB (waysF (ps.map pe) ns.length s).2 dm) (waysF_in2 (es := ps.map pe) (n := ns.length) (s := s)).pn hw (by rw [List.length_map]; exact hpl)
  have hl : (flT ns ps s dm)[w.2.2]? = some (flW (ps.map pe) (smB (waysF (ps.map pe) ns.length s).2 dm) w) := hg
  have hne := hW.ne
  rw [flS_y hW.hp hl]
  rcases hW.sg with ⟨_, e1, e2⟩ | ⟨_, e1, e2⟩
  · rw [if_pos (by omega), flW_P hW e1]
  · rw [if_neg (by omega), flW_M hW e2]; omega
theorem drW_T {ns : List Int} {ps : List Pi} {s : Nat} {dm : List Int} (h : DrT ns ps) (hs : s < ns.length) (hd : dmP ns dm) {w : Nat × Nat × Nat} (hw : w ∈ (waysF (ps.map pe) ns.length s).2) : 0 ≤ drW ps (flT ns ps s dm) w ∧ drW ps (flT ns ps s dm) w ≤ 3000000 := by
  obtain ⟨p, hW⟩ := wayOf h.net hs hw
  have hS := S_le (esF_lt h.net) hs h.n6 hd.1 hd.g hw
  obtain ⟨_, ⟨t1, t2, t3⟩, _⟩ := h.tr _ p hW.hp
  rw [drW_eq hW.hp, flT_al h hs hd hw]
  generalize (smB (waysF (ps.map pe) ns.length s).2 dm).getD w.1 0 = q at hS
  have h1 := drp_nn (le := p.le) (di := p.di) (q := q) (by omega) (by omega) hS.1
  refine ⟨h1, ?_⟩
  have d1 := (d5_bd (d := p.di) (by omega)).1
  have d2 : 777600000 ≤ d5 p.di := by
    have m2 := Int.mul_le_mul t2.1 t2.1 (by omega) (show (0 : Int) ≤ p.di by omega)
    have m3 := Int.mul_le_mul m2 t2.1 (by omega) (show (0 : Int) ≤ p.di * p.di by omega)
    have m4 := Int.mul_le_mul m3 t2.1 (by omega) (show (0 : Int) ≤ p.di * p.di * p.di by omega)
    have m5 := Int.mul_le_mul m4 t2.1 (by omega) (show (0 : Int) ≤ p.di * p.di * p.di * p.di by omega)
    unfold d5; omega
  have n1 : 0 ≤ p.le * 16200 * q ∧ p.le * 16200 * q ≤ 14887800 * 12000 := mulB (a := p.le * 16200) (A := 14887800) (by omega) (by omega) hS.1 hS.2
  have n2 : 0 ≤ drN p.le q ∧ drN p.le q ≤ 14887800 * 12000 * 12000 := by
    unfold drN
    exact mulB n1.1 n1.2 (by omega) (by omega)
  have m : 777600000 * 3000000 ≤ d5 p.di * 3000000 := Int.mul_le_mul_of_nonneg_right d2 (by omega)
  exact (dr_abs (by omega) (by omega) ⟨by omega, by omega⟩).2
theorem nsG2 {ns : List Int} (h : nsB ns) (v : Nat) : -1000 ≤ ns.getD v 0 ∧ ns.getD v 0 ≤ 2900 := by
  unfold List.getD
  cases hg : ns[v]? with
  | none => simp
  | some a => exact h a (List.mem_of_getElem? hg)
theorem riW_T {ns : List Int} (h : nsB ns) (w : Nat × Nat × Nat) : -400000 ≤ riW ns w ∧ riW ns w ≤ 400000 := by
  have h1 := nsG2 h w.1
  have h2 := nsG2 h w.2.1
  unfold riW
  exact dr_abs (by omega) (by omega) ⟨by omega, by omega⟩
/-- The pressures from x on. -/
def prT (ns : List Int) (ps : List Pi) (s : Nat) (dm : List Int) (x : Int) : List Int := wyR (prF ns ps (flT ns ps s dm)) (ps.map pe) ns.length s x (waysF (ps.map pe) ns.length s).2.length
theorem prT_len {ns : List Int} {ps : List Pi} {s : Nat} {dm : List Int} {x : Int} : (prT ns ps s dm x).length = ns.length := wyR_len
theorem prT_0 {ns : List Int} {ps : List Pi} {s : Nat} {dm : List Int} (h : DrT ns ps) (hs : s < ns.length) (hd : dmP ns dm) (v : Nat) : -17000000 ≤ (prT ns ps s dm 0).getD v 0 ∧ (prT ns ps s dm 0).getD v 0 ≤ 17000000 := by
  have hl := ways_le (esF_lt h.net) hs
  have h6 := h.n6
  have g := wyT_grow (f := prF ns ps (flT ns ps s dm)) (C := 3400000) (by omega) ((waysF (ps.map pe) ns.length s).2.take (waysF (ps.map pe) ns.length s).2.length) ((List.replicate ns.length 0).set s 0) 0 (by omega) (fun w hw a => by
    have h1 := drW_T h hs hd (List.mem_of_mem_take hw)
    have h2 := riW_T h.nb w
    rw [prF_eq]; omega) (fun u => by
    rw [getD_set]
    split
    · omega
    · unfold List.getD
      rw [List.getElem?_replicate]
      split <;> simp) v
  rw [List.length_take] at g
  unfold prT wyR
  omega
theorem tree_mem {ns : List Int} {ps : List Pi} {s v : Nat} (h : DrT ns ps) (hs : s < ns.length) (hv : v < ns.length) : v ∈ s :: (waysF (ps.map pe) ns.length s).2.map fun w => w.1 := by
  rw [← (waysF_in2 (es := ps.map pe) (n := ns.length) (s := s)).hd, waysF_1]
  exact ((found_inv (esF_lt h.net) hs).2 v).2 ((h.tree.2 s hs).symm.trans (h.tree.2 v hv))
theorem rep_s {n s : Nat} {x : Int} (hs : s < n) : ((List.replicate n 0).set s x).getD s 0 = x := by
  rw [getD_set, if_pos ⟨rfl, by simpa using hs⟩]
theorem prT_x {ns : List Int} {ps : List Pi} {s : Nat} {dm : List Int} {x : Int} (h : DrT ns ps) (hs : s < ns.length) {v : Nat} (hv : v < ns.length) : (prT ns ps s dm x).getD v 0 = (prT ns ps s dm 0).getD v 0 + x := by
  have hm := tree_mem h hs hv
  have := wyT_rel (R := fun a b => b = a + x) (f := prF ns ps (flT ns ps s dm)) (g := prF ns ps (flT ns ps s dm)) (t := (List.replicate ns.length 0).set s 0) (u := (List.replicate ns.length 0).set s x) (ways_ord (esF_lt h.net) hs) (by simpa using hs) (fun w hw => by simpa using (ways_lt (esF_lt h.net) hs hw).1) (by simp) (by rw [rep_s hs, rep_s hs]; omega) (fun w _ a b hab => by rw [prF_eq, prF_eq]; omega) (waysF (ps.map pe) ns.length s).2.length (Nat.le_refl _) v (by rw [List.take_length]; exact hm)
  exact this
theorem drT_ok {ns : List Int} {ps : List Pi} {s : Nat} {dm : List Int} (h : DrT ns ps) (hs : s < ns.length) (hd : dmP ns dm) : dropP ps (flT ns ps s dm) := drop_ways h.net (flT_ok h hs hd) h.tree hs (fun w hw => by have := drW_T h hs hd hw; omega)
theorem ixs_nil {p : Nat → Prop} [DecidablePred p] : ∀ n : Nat, (∀ i, i < n → ¬ p i) → ixs p n = []
  | 0, _ => rfl
  | n + 1, h => by rw [ixs_F (h n (by omega))]; exact ixs_nil n (fun i hi => h i (by omega))
theorem ixs_mem {p : Nat → Prop} [DecidablePred p] {j : Nat} : ∀ n : Nat, (j : Int) ∈ ixs p n ↔ j < n ∧ p j
  | 0 => by simp [ixs]
  | n + 1 => by
    have ih := ixs_mem (p := p) (j := j) n
    by_cases h : p n
    · rw [ixs_T h, List.mem_append, ih]
      constructor
      · rintro (h1 | h1)
        · exact ⟨by omega, h1.2⟩
        · have e : j = n := by have := List.mem_singleton.1 h1; omega
          subst e; exact ⟨by omega, h⟩
      · intro h1
        by_cases e : j = n
        · right; subst e; simp
        · left; exact ⟨by omega, h1.2⟩
    · rw [ixs_F h, ih]
      constructor
      · intro h1; exact ⟨by omega, h1.2⟩
      · intro h1
        have e : ¬ j = n := fun e => h (e ▸ h1.2)
        exact ⟨by omega, h1.2⟩
theorem spM_ge {xs ds : List Int} {mg : Int} {i : Nat} : ∀ n : Nat, i < n → stm (ds.getD i 0) + mg - xs.getD i 0 ≤ spM xs ds mg n
  | n + 1, h => by
    rw [spM_s]
    by_cases e : i = n
    · subst e; split <;> omega
    · have := spM_ge (xs := xs) (ds := ds) (mg := mg) (i := i) n (by omega)
      split <;> omega
theorem spM_at {xs ds : List Int} {mg : Int} : ∀ n : Nat, 0 < spM xs ds mg n → ∃ i, i < n ∧ stm (ds.getD i 0) + mg - xs.getD i 0 = spM xs ds mg n
  | 0, h => by simp [spM] at h
  | n + 1, h => by
    rw [spM_s] at h ⊢
    split at h
    · rename_i c; rw [if_pos c]; exact ⟨n, by omega, rfl⟩
    · rename_i c; rw [if_neg c]
      obtain ⟨i, hi, e⟩ := spM_at n h
      exact ⟨i, by omega, e⟩
theorem spM_nn {xs ds : List Int} {mg : Int} : ∀ n : Nat, 0 ≤ spM xs ds mg n
  | 0 => Int.le_refl _
  | n + 1 => by have := spM_nn (xs := xs) (ds := ds) (mg := mg) n; rw [spM_s]; split <;> omega
theorem spM_up {xs ds : List Int} {mg B : Int} (hB : 0 ≤ B) (h : ∀ i, stm (ds.getD i 0) + mg - xs.getD i 0 ≤ B) : ∀ n : Nat, spM xs ds mg n ≤ B
  | 0 => hB
  | n + 1 => by have := spM_up hB h n; have := h n; rw [spM_s]; split <;> omega
theorem lm_min {f : Nat → Int} {i : Nat} : ∀ n : Nat, i < n → f (lmB f n) ≤ f i
  | n + 1, h => by
    by_cases c : n = 0 ∨ f n < f (lmB f n)
    · rw [lm_T c]
      by_cases e : i = n
      · subst e; exact Int.le_refl _
      · rcases c with c | c
        · omega
        · have := lm_min (f := f) (i := i) n (by omega); omega
    · rw [lm_F c]
      by_cases e : i = n
      · subst e; omega
      · exact lm_min n (by omega)
theorem prL_ge {g : Nat → Int} {i : Nat} : ∀ n : Nat, i < n → g i ≤ prL g n
  | n + 1, h => by
    rw [prL_s]
    by_cases e : i = n
    · subst e; split <;> omega
    · have := prL_ge (g := g) (i := i) n (by omega); split <;> omega
theorem prL_le {g : Nat → Int} {B : Int} (hB : -9223372036854775808 ≤ B) : ∀ n : Nat, (∀ i, i < n → g i ≤ B) → prL g n ≤ B
  | 0, _ => hB
  | n + 1, h => by have := prL_le hB n (fun i hi => h i (by omega)); have := h n (by omega); rw [prL_s]; split <;> omega
theorem prH_ge {g : Nat → Int} {B : Int} (hB : B ≤ 9223372036854775807) : ∀ n : Nat, (∀ i, i < n → B ≤ g i) → B ≤ prH g n
  | 0, _ => hB
  | n + 1, h => by have := prH_ge hB n (fun i hi => h i (by omega)); have := h n (by omega); rw [prH_s]; split <;> omega
/-- All that the law asks of the least pressure of a source. -/
structure FB (ns : List Int) (ps : List Pi) (s : Nat) (dm ds : List Int) (mg L : Int) : Prop where
  r : 0 ≤ L ∧ L ≤ 20000000
  w : ∀ x, 0 ≤ x → x ≤ 20000000 → bc (prT ns ps s dm x) ds mg 0 = 0 ∧ (∀ lim, 0 ≤ lim → lim ≤ 100000000 → bc (prT ns ps s dm x) ds mg lim = 0) ∧ thC (prT ns ps s dm x) 700000 = 0 ∧ ln (prT ns ps s dm x) ds = 0
  b : (bnL (prT ns ps s dm L) ds mg).length = 0
  m : lmC (prT ns ps s dm L) ds = 0 ∧ lmB (lmF (prT ns ps s dm L) ds) ns.length < ns.length ∧ mg ≤ lmF (prT ns ps s dm L) ds (lmB (lmF (prT ns ps s dm L) ds) ns.length) ∧ (0 < L → lmF (prT ns ps s dm L) ds (lmB (lmF (prT ns ps s dm L) ds) ns.length) = mg)
  p : prC (prT ns ps s dm L) ds mg 100000000 = 0 ∧ prL (prG (prT ns ps s dm L) ds mg) ns.length ≤ 0 ∧ prL (prG (prT ns ps s dm L) ds mg) ns.length ≤ prH (prh (prT ns ps s dm L) 100000000) ns.length ∧ (0 < L → prL (prG (prT ns ps s dm L) ds mg) ns.length = 0)
  l : 0 < L → ¬ (bnL (prT ns ps s dm (L - 1)) ds mg).length = 0
theorem fb_ok {ns : List Int} {ps : List Pi} {s : Nat} {dm ds : List Int} {mg : Int} (h : DrT ns ps) (hs : s < ns.length) (hd : dmP ns dm) (hg : dgP ns ds) (hmg : 0 ≤ mg ∧ mg ≤ 100000) : FB ns ps s dm ds mg (spM (prT ns ps s dm 0) ds mg ns.length) := by
  have hb := prT_0 h hs hd
  have h2 := h.n2
  have h6 := h.n6
  have hr : 0 ≤ spM (prT ns ps s dm 0) ds mg ns.length ∧ spM (prT ns ps s dm 0) ds mg ns.length ≤ 20000000 := ⟨spM_nn _, spM_up (by omega) (fun i => by have := stm_bd (ds.getD i 0); have := hb i; omega) _⟩
  generalize hL : spM (prT ns ps s dm 0) ds mg ns.length = L at hr
  have hx : ∀ x v, v < ns.length → (prT ns ps s dm x).getD v 0 = (prT ns ps s dm 0).getD v 0 + x := fun x v hv => prT_x h hs hv
  have hge : ∀ i, i < ns.length → stm (ds.getD i 0) + mg - (prT ns ps s dm 0).getD i 0 ≤ L := fun i hi => by rw [← hL]; exact spM_ge _ hi
  have hat : 0 < L → ∃ i, i < ns.length ∧ stm (ds.getD i 0) + mg - (prT ns ps s dm 0).getD i 0 = L := fun h0 => by rw [← hL] at h0 ⊢; exact spM_at _ h0
  have hw : ∀ x, 0 ≤ x → x ≤ 20000000 → within (prT ns ps s dm x) (-100000000) 100000000 := fun x h0 h1 j q hq => by
    have hj := (List.getElem?_eq_some_iff.1 hq).1
    rw [prT_len] at hj
    have e : (prT ns ps s dm x).getD j 0 = q := by unfold List.getD; rw [hq]; rfl
    rw [hx x j hj] at e
    have := hb j
    omega
  have hln : ∀ x, 0 ≤ x → x ≤ 20000000 → ln (prT ns ps s dm x) ds = 0 := fun x h0 h1 => ln0 (hw x h0 h1) hg.2 ⟨by rw [prT_len, hg.1], by rw [prT_len]; omega⟩
  have hbc : ∀ x, 0 ≤ x → x ≤ 20000000 → ∀ lim, 0 ≤ lim → lim ≤ 100000000 → bc (prT ns ps s dm x) ds mg lim = 0 := fun x h0 h1 lim h3 h4 => by rw [bc_zero ⟨by omega, by omega⟩]; exact hln x h0 h1
  have hF : ∀ i, i < ns.length → lmF (prT ns ps s dm L) ds i = (prT ns ps s dm 0).getD i 0 + L - stm (ds.getD i 0) := fun i hi => by unfold lmF gd; rw [hx L i hi]
  have hG : ∀ i, i < ns.length → prG (prT ns ps s dm L) ds mg i = stm (ds.getD i 0) + mg - ((prT ns ps s dm 0).getD i 0 + L) := fun i hi => by unfold prG gd; rw [hx L i hi]
  have hH : ∀ i, i < ns.length → prh (prT ns ps s dm L) 100000000 i = 100000000 - ((prT ns ps s dm 0).getD i 0 + L) := fun i hi => by unfold prh gd; rw [hx L i hi]
  have hlt := lm_lt (f := lmF (prT ns ps s dm L) ds) ns.length (by omega)
  have hpl : prL (prG (prT ns ps s dm L) ds mg) ns.length ≤ 0 := prL_le (by omega) _ (fun i hi => by rw [hG i hi]; have := hge i hi; omega)
  have hph : 0 ≤ prH (prh (prT ns ps s dm L) 100000000) ns.length := prH_ge (by omega) _ (fun i hi => by rw [hH i hi]; have := hb i; omega)
  refine ⟨hr, fun x h0 h1 => ⟨hbc x h0 h1 0 (by omega) (by omega), hbc x h0 h1, ?_, hln x h0 h1⟩, ?_, ⟨?_, hlt, ?_, fun h0 => ?_⟩, ⟨?_, hpl, by omega, fun h0 => ?_⟩, fun h0 => ?_⟩
  · unfold thC
    rw [bc_zero ⟨by omega, by omega⟩]
    exact ln0 (hw x h0 h1) within_zero ⟨by simp, by rw [prT_len]; omega⟩
  · rw [bnL_ok (show bnC (prT ns ps s dm L) ds mg = 0 from hbc L hr.1 hr.2 0 (by omega) (by omega)), prT_len, ixs_nil]
    · rfl
    · intro i hi hp
      unfold bnP gd at hp
      rw [hx L i hi] at hp
      have := hge i hi
      omega
  · unfold lmC
    rw [if_pos (hln L hr.1 hr.2), if_neg (by rw [prT_len]; omega)]
  · rw [hF _ hlt]
    have := hge _ hlt
    omega
  · obtain ⟨i, hi, e⟩ := hat h0
    have h1 := lm_min (f := lmF (prT ns ps s dm L) ds) ns.length hi
    have h3 := hge _ hlt
    rw [hF i hi, hF _ hlt] at h1
    rw [hF _ hlt]
    omega
  · unfold prC
    rw [if_pos (hbc L hr.1 hr.2 100000000 (by omega) (by omega)), if_neg (by rw [prT_len]; omega), prT_len, if_neg (by omega)]
  · obtain ⟨i, hi, e⟩ := hat h0
    have h1 := prL_ge (g := prG (prT ns ps s dm L) ds mg) ns.length hi
    rw [hG i hi] at h1
    omega
  · obtain ⟨i, hi, e⟩ := hat h0
    rw [bnL_ok (show bnC (prT ns ps s dm (L - 1)) ds mg = 0 from hbc (L - 1) (by omega) (by omega) 0 (by omega) (by omega)), prT_len]
    intro hz
    have hm : (i : Int) ∈ ixs (bnP (prT ns ps s dm (L - 1)) ds mg) ns.length := (ixs_mem _).2 ⟨hi, by unfold bnP gd; rw [hx (L - 1) i hi]; omega⟩
    rw [List.length_eq_zero_iff.1 hz] at hm
    cases hm
def r8a (cs : List Int) (k n : Int) : Int := if n ≤ 1 ∨ k ≥ cs.length then 0 else (cs.getD k.toNat 0) % n
def r8w (cs : List Int) (k n : Int) : Int := (256 * r8a cs k 256 + r8a cs (k + 1) 256) % n
theorem r8a_bd {cs : List Int} {k n : Int} (h : 1 ≤ n) : 0 ≤ r8a cs k n ∧ r8a cs k n < n := by
  unfold r8a; split
  · omega
  · exact ⟨Int.emod_nonneg _ (by omega), Int.emod_lt_of_pos _ (by omega)⟩
theorem r8w_bd {cs : List Int} {k n : Int} (hn : 0 < n) : 0 ≤ r8w cs k n ∧ r8w cs k n < n := ⟨Int.emod_nonneg _ (by omega), Int.emod_lt_of_pos _ hn⟩
theorem dmP_app {ns u : List Int} {v : Int} (h : ∀ x ∈ u, 0 ≤ x ∧ x ≤ 2000) (hv : 0 ≤ v ∧ v ≤ 2000) : ∀ x ∈ u ++ [v], 0 ≤ x ∧ x ≤ 2000 := fun x hx => by
  rcases List.mem_append.1 hx with c | c
  · exact h x c
  · simp at c; subst c; exact hv
def dgR (u : List Int) : Prop := ∀ x ∈ u, 5000 ≤ x ∧ x ≤ 13999
theorem dgR_app {u : List Int} {v : Int} (h : dgR u) (hv : 5000 ≤ v ∧ v ≤ 13999) : dgR (u ++ [v]) := fun x hx => by
  rcases List.mem_append.1 hx with c | c
  · exact h x c
  · simp at c; subst c; exact hv
theorem dgR_P {ns u : List Int} (h : dgR u) (hl : u.length = ns.length) : dgP ns u := ⟨hl, fun j q hq => by have := h q (List.mem_of_getElem? hq); omega⟩
theorem fc_y {ns : List Int} {ps : List Pi} {s : Int} {fl : List Int} (h1 : netOk ns ps) (h2 : 0 ≤ s ∧ s < ns.length) (h3 : flP ps fl) (h4 : treeP ns ps) : fcC ns ps s fl = 0 := by
  unfold fcC; rw [if_pos h1, if_pos h2, if_pos h3, if_pos h4]
theorem topN_ge {ns : List Int} {i : Nat} : ∀ n : Nat, i < n → gd ns i ≤ topN ns n
  | n + 1, h => by
    rw [topN_s]
    by_cases e : i = n
    · subst e; split <;> omega
    · have := topN_ge (ns := ns) (i := i) n (by omega); split <;> omega
theorem still_ge {ns : List Int} {k t m : Int} (h : 0 ≤ k ∧ k < ns.length) : stm t + m ≤ spV ns k t m := by
  have h1 := topN_ge (ns := ns) (i := k.toNat) ns.length (by omega)
  have h2 : 0 ≤ dr (981 * (topN ns ns.length - gd ns k.toNat)) 10 := by
    rw [dr_eqP (by omega), if_neg (by omega)]
    exact Int.ediv_nonneg (by omega) (by omega)
  unfold spV; omega
theorem spO0 {ns : List Int} {ps : List Pi} {k t m : Int} (h : netOk ns ps) (h1 : (0 ≤ k ∧ k < ns.length) ∧ (0 ≤ m ∧ m ≤ 1000000) ∧ (0 ≤ t ∧ t ≤ 18000)) : spOk ns ps k t m = 0 := by unfold spOk; rw [if_pos h, if_pos h1]
theorem hot_all (p m : Int) : 0 ≤ hot p m ∧ hot p m ≤ 18001 ∧ (∀ a, 0 ≤ a → a < hot p m → ¬ stm a + m > p) ∧ (hot p m ≤ 18000 → stm (hot p m) + m > p) := lst_spec (fun n => stm n + m > p) (lo := 0) (hi := 18000) (by omega)
theorem dgR_g {u : List Int} (h : dgR u) {v : Nat} (hv : v < u.length) : 5000 ≤ u.getD v 0 ∧ u.getD v 0 ≤ 13999 := by
  have e : u.getD v 0 = u[v] := by simp [List.getD, hv]
  rw [e]; exact h _ (List.getElem_mem hv)
theorem fO103_0 : fOff Tryz.prog 103 0 = some 0 := by kernel_rfl
theorem fO103_1 : fOff Tryz.prog 103 1 = some 1 := by kernel_rfl
theorem fO103_2 : fOff Tryz.prog 103 2 = some 2 := by kernel_rfl
theorem fO108_0 : fOff Tryz.prog 108 0 = some 0 := by kernel_rfl
theorem fO108_1 : fOff Tryz.prog 108 1 = some 1 := by kernel_rfl
theorem fO108_2 : fOff Tryz.prog 108 2 = some 2 := by kernel_rfl
theorem fO31_0 : fOff Tryz.prog 31 0 = some 0 := by kernel_rfl
theorem fO31_1 : fOff Tryz.prog 31 1 = some 1 := by kernel_rfl
theorem fO95_0 : fOff Tryz.prog 95 0 = some 0 := by kernel_rfl
theorem fO95_1 : fOff Tryz.prog 95 1 = some 1 := by kernel_rfl
theorem fO95_2 : fOff Tryz.prog 95 2 = some 2 := by kernel_rfl
theorem fO95_3 : fOff Tryz.prog 95 3 = some 3 := by kernel_rfl
theorem fO95_4 : fOff Tryz.prog 95 4 = some 4 := by kernel_rfl
theorem fO95_5 : fOff Tryz.prog 95 5 = some 5 := by kernel_rfl
theorem hmix : Tryz.prog.follows .mixedOrders = true := by kernel_rfl
theorem pl103 : placesA Tryz.prog 103 = some [(0, 1), (1, 1), (2, 1)] := by kernel_rfl
theorem pl108 : placesA Tryz.prog 108 = some [(0, 1), (1, 1), (2, 1)] := by kernel_rfl
theorem pl121 : placesA Tryz.prog 121 = some [(0, 1), (1, 1)] := by kernel_rfl
theorem pl122 : placesA Tryz.prog 122 = some [(0, 2), (2, 2), (4, 2), (6, 2), (8, 2), (10, 2), (12, 2), (14, 2), (16, 2), (18, 2)] := by kernel_rfl
theorem pl31 : placesA Tryz.prog 31 = some [(0, 1), (1, 1)] := by kernel_rfl
theorem pl95 : placesA Tryz.prog 95 = some [(0, 1), (1, 1), (2, 1), (3, 1), (4, 1), (5, 1)] := by kernel_rfl
theorem sz103 : tSz Tryz.prog 103 = some 3 := by kernel_rfl
theorem sz106 : tSz Tryz.prog 106 = some 1 := by kernel_rfl
theorem sz122 : tSz Tryz.prog 122 = some 20 := by kernel_rfl
theorem sz2 : tSz Tryz.prog 2 = some 1 := by kernel_rfl
theorem sz22 : tSz Tryz.prog 22 = some 1 := by kernel_rfl
theorem sz29 : tSz Tryz.prog 29 = some 1 := by kernel_rfl
theorem sz3 : tSz Tryz.prog 3 = some 1 := by kernel_rfl
theorem sz31 : tSz Tryz.prog 31 = some 2 := by kernel_rfl
theorem sz4 : tSz Tryz.prog 4 = some 1 := by kernel_rfl
theorem sz95 : tSz Tryz.prog 95 = some 6 := by kernel_rfl
theorem tA103 : tAgg Tryz.prog 103 = some (some 3) := by kernel_rfl
theorem tA106 : tAgg Tryz.prog 106 = some none := by kernel_rfl
theorem tA2 : tAgg Tryz.prog 2 = some none := by kernel_rfl
theorem tA22 : tAgg Tryz.prog 22 = some none := by kernel_rfl
theorem tA29 : tAgg Tryz.prog 29 = some none := by kernel_rfl
theorem tA3 : tAgg Tryz.prog 3 = some none := by kernel_rfl
theorem tA31 : tAgg Tryz.prog 31 = some (some 2) := by kernel_rfl
theorem tA37 : tAgg Tryz.prog 37 = some none := by kernel_rfl
theorem tA4 : tAgg Tryz.prog 4 = some none := by kernel_rfl
theorem tA5 : tAgg Tryz.prog 5 = some none := by kernel_rfl
theorem tA58 : tAgg Tryz.prog 58 = some none := by kernel_rfl
theorem tA9 : tAgg Tryz.prog 9 = some none := by kernel_rfl
theorem tA95 : tAgg Tryz.prog 95 = some (some 6) := by kernel_rfl
theorem tApp100 : tApp Tryz.prog 100 = some (103, 3, 24) := by kernel_rfl
theorem tApp22 : tApp Tryz.prog 22 = some (2, 1, 8) := by kernel_rfl
theorem tApp29 : tApp Tryz.prog 29 = some (95, 6, 56) := by kernel_rfl
theorem tArr121 : tArr Tryz.prog 121 = some (2, 1) := by kernel_rfl
theorem tArr122 : tArr Tryz.prog 122 = some (10, 2) := by kernel_rfl
theorem tB4 : tIsBool Tryz.prog 4 = true := by kernel_rfl
theorem tBy2 : tBytes Tryz.prog 2 = some 8 := by kernel_rfl
theorem tBy4 : tBytes Tryz.prog 4 = some 1 := by kernel_rfl
theorem tE100 : tElem Tryz.prog 100 = some (103, 3) := by kernel_rfl
theorem tE109 : tElem Tryz.prog 109 = some (9, 1) := by kernel_rfl
theorem tE115 : tElem Tryz.prog 115 = some (4, 1) := by kernel_rfl
theorem tE22 : tElem Tryz.prog 22 = some (2, 1) := by kernel_rfl
theorem tE29 : tElem Tryz.prog 29 = some (95, 6) := by kernel_rfl
theorem tE37 : tElem Tryz.prog 37 = some (5, 1) := by kernel_rfl
theorem tEn121 : tElem Tryz.prog 121 = none := by kernel_rfl
theorem tEn122 : tElem Tryz.prog 122 = none := by kernel_rfl
theorem tEs100 : (tElem Tryz.prog 100).isSome = true := by kernel_rfl
theorem tEs22 : (tElem Tryz.prog 22).isSome = true := by kernel_rfl
theorem tEs29 : (tElem Tryz.prog 29).isSome = true := by kernel_rfl
theorem tEs37 : (tElem Tryz.prog 37).isSome = true := by kernel_rfl
theorem tK106 : tKind Tryz.prog 106 = some .u64 := by kernel_rfl
theorem tK125 : tKind Tryz.prog 125 = some .u64 := by kernel_rfl
theorem tK2 : tKind Tryz.prog 2 = some .i64 := by kernel_rfl
theorem tK3 : tKind Tryz.prog 3 = some .i64 := by kernel_rfl
theorem tK5 : tKind Tryz.prog 5 = some .u8 := by kernel_rfl
theorem tStr9 : tIsStr Tryz.prog 9 = true := by kernel_rfl
theorem zA103 : zeroA Tryz.prog 103 = some [.s (.int .i64 0), .s (.int .i64 0), .s (.int .i64 0)] := by kernel_rfl
theorem zA108 : zeroA Tryz.prog 108 = some [.nil, .s (.int .i64 0), .s (.int .u64 0)] := by kernel_rfl
theorem zA121 : zeroA Tryz.prog 121 = some [.s (.int .i64 0), .s (.int .i64 0)] := by kernel_rfl
theorem zA122 : zeroA Tryz.prog 122 = some [.s (.int .i64 0), .s (.int .i64 0), .s (.int .i64 0), .s (.int .i64 0), .s (.int .i64 0), .s (.int .i64 0), .s (.int .i64 0), .s (.int .i64 0), .s (.int .i64 0), .s (.int .i64 0), .s (.int .i64 0), .s (.int .i64 0), .s (.int .i64 0), .s (.int .i64 0), .s (.int .i64 0), .s (.int .i64 0), .s (.int .i64 0), .s (.int .i64 0), .s (.int .i64 0), .s (.int .i64 0)] := by kernel_rfl
theorem zA2 : zeroA Tryz.prog 2 = some [.s (.int .i64 0)] := by kernel_rfl
theorem zA31 : zeroA Tryz.prog 31 = some [.nil, .nil] := by kernel_rfl
theorem zA4 : zeroA Tryz.prog 4 = some [.s (.bool false)] := by kernel_rfl
theorem zA9 : zeroA Tryz.prog 9 = some [.s (.string ⟨#[]⟩)] := by kernel_rfl
theorem zA95 : zeroA Tryz.prog 95 = some [.s (.string ⟨#[]⟩), .s (.int .i64 0), .s (.int .i64 0), .s (.int .i64 0), .s (.int .i64 0), .s (.int .i64 0)] := by kernel_rfl

-- impl.within
theorem D_impl_within (a lo hi : Int)  : Den Tryz.prog 80 [.s (.int .i64 a), .s (.int .i64 lo), .s (.int .i64 hi)] (.s (.bool (decide (lo ≤ a ∧ a ≤ hi)))) := by
  refine den_of_good Tryz.func80 (by decide) rfl (Nat.le_of_ble_eq_true rfl) (Nat.le_of_ble_eq_true rfl) ?_
  refine good_seq fun K1 hK1 => ?_
  refine gr rfl ?_
  refine ea rfl (by conv=>lhs;whnf) ?_
  refine ev_nil (hK1 _ ?_); clear hK1
  refine good_seq fun K2 hK2 => ?_
  refine gr rfl ?_
  refine em rfl (by conv=>lhs;whnf) ?_
  refine em rfl (by conv=>lhs;whnf) ?_
  refine ei rfl rfl rfl ?_
  intro b3 hb3; cases b3
  · replace hb3 := dF hb3
    refine em rfl (by conv=>lhs;whnf) ?_
    refine ev_skip rfl ?_
    refine ev_skip rfl ?_
    refine ev_skip rfl ?_
    refine ev_q rfl (q_pickF rfl (by conv=>lhs;whnf) ?_)
    refine ea rfl (by conv=>lhs;whnf) ?_
    refine ev_nil (hK2 _ ?_); clear hK2
    refine good_ret ?_
    repeat first|refine thenQ_ret ?_|refine blockQ_ret ?_
    refine ret_tmp (st := _) rfl (by conv=>lhs;whnf) rfl ?_
    first | rfl | exact fT (by first | omega | grind) | exact fF (by first | omega | grind) | exact fT' (by first | omega | grind) | (exfalso; first | omega | grind)
  · replace hb3 := dT hb3
    refine em rfl (by conv=>lhs;whnf) ?_
    refine em rfl (by conv=>lhs;whnf) ?_
    refine em rfl (by conv=>lhs;whnf) ?_
    refine ei rfl rfl rfl ?_
    intro b4 hb4; cases b4
    · replace hb4 := dF hb4
      refine ev_q rfl (q_pickT rfl (by conv=>lhs;whnf) ?_)
      refine ea rfl (by conv=>lhs;whnf) ?_
      refine ev_nil (hK2 _ ?_); clear hK2
      refine good_ret ?_
      repeat first|refine thenQ_ret ?_|refine blockQ_ret ?_
      refine ret_tmp (st := _) rfl (by conv=>lhs;whnf) rfl ?_
      first | rfl | exact fT (by first | omega | grind) | exact fF (by first | omega | grind) | exact fT' (by first | omega | grind) | (exfalso; first | omega | grind)
    · replace hb4 := dT hb4
      refine ev_q rfl (q_pickT rfl (by conv=>lhs;whnf) ?_)
      refine ea rfl (by conv=>lhs;whnf) ?_
      refine ev_nil (hK2 _ ?_); clear hK2
      refine good_ret ?_
      repeat first|refine thenQ_ret ?_|refine blockQ_ret ?_
      refine ret_tmp (st := _) rfl (by conv=>lhs;whnf) rfl ?_
      first | rfl | exact fT (by first | omega | grind) | exact fF (by first | omega | grind) | exact fT' (by first | omega | grind) | (exfalso; first | omega | grind)

-- spec.l00In
theorem D_spec_l00In (a lo hi : Int)  : Den Tryz.prog 67 [.s (.int .i64 a), .s (.int .i64 lo), .s (.int .i64 hi)] (.s (.bool (decide (lo ≤ a ∧ a ≤ hi)))) := by
  refine den_of_good Tryz.func67 (by decide) rfl (Nat.le_of_ble_eq_true rfl) (Nat.le_of_ble_eq_true rfl) ?_
  refine good_seq fun K1 hK1 => ?_
  refine gr rfl ?_
  refine ea rfl (by conv=>lhs;whnf) ?_
  refine ev_nil (hK1 _ ?_); clear hK1
  refine good_seq fun K2 hK2 => ?_
  refine gr rfl ?_
  refine em rfl (by conv=>lhs;whnf) ?_
  refine em rfl (by conv=>lhs;whnf) ?_
  refine ei rfl rfl rfl ?_
  intro b3 hb3; cases b3
  · replace hb3 := dF hb3
    refine em rfl (by conv=>lhs;whnf) ?_
    refine ev_skip rfl ?_
    refine ev_skip rfl ?_
    refine ev_skip rfl ?_
    refine ev_q rfl (q_pickF rfl (by conv=>lhs;whnf) ?_)
    refine ea rfl (by conv=>lhs;whnf) ?_
    refine ev_nil (hK2 _ ?_); clear hK2
    refine good_ret ?_
    repeat first|refine thenQ_ret ?_|refine blockQ_ret ?_
    refine ret_tmp (st := _) rfl (by conv=>lhs;whnf) rfl ?_
    first | rfl | exact fT (by first | omega | grind) | exact fF (by first | omega | grind) | exact fT' (by first | omega | grind) | (exfalso; first | omega | grind)
  · replace hb3 := dT hb3
    refine em rfl (by conv=>lhs;whnf) ?_
    refine em rfl (by conv=>lhs;whnf) ?_
    refine em rfl (by conv=>lhs;whnf) ?_
    refine ei rfl rfl rfl ?_
    intro b4 hb4; cases b4
    · replace hb4 := dF hb4
      refine ev_q rfl (q_pickT rfl (by conv=>lhs;whnf) ?_)
      refine ea rfl (by conv=>lhs;whnf) ?_
      refine ev_nil (hK2 _ ?_); clear hK2
      refine good_ret ?_
      repeat first|refine thenQ_ret ?_|refine blockQ_ret ?_
      refine ret_tmp (st := _) rfl (by conv=>lhs;whnf) rfl ?_
      first | rfl | exact fT (by first | omega | grind) | exact fF (by first | omega | grind) | exact fT' (by first | omega | grind) | (exfalso; first | omega | grind)
    · replace hb4 := dT hb4
      refine ev_q rfl (q_pickT rfl (by conv=>lhs;whnf) ?_)
      refine ea rfl (by conv=>lhs;whnf) ?_
      refine ev_nil (hK2 _ ?_); clear hK2
      refine good_ret ?_
      repeat first|refine thenQ_ret ?_|refine blockQ_ret ?_
      refine ret_tmp (st := _) rfl (by conv=>lhs;whnf) rfl ?_
      first | rfl | exact fT (by first | omega | grind) | exact fF (by first | omega | grind) | exact fT' (by first | omega | grind) | (exfalso; first | omega | grind)

-- spec.l01Small
theorem D_spec_l01Small (u : UInt8)  : Den Tryz.prog 132 [.s (.int .u8 u.toNat)] (.s (.bool (small u))) := by
  refine den_of_good Tryz.func132 (by decide) rfl (Nat.le_of_ble_eq_true rfl) (Nat.le_of_ble_eq_true rfl) ?_
  refine good_seq fun K1 hK1 => ?_
  refine gr rfl ?_
  refine ea rfl (by conv=>lhs;whnf) ?_
  refine ev_nil (hK1 _ ?_); clear hK1
  refine good_seq fun K2 hK2 => ?_
  refine gr rfl ?_
  refine em rfl (by conv=>lhs;whnf) ?_
  refine ei rfl rfl rfl ?_
  intro b3 hb3; cases b3
  · replace hb3 := dF hb3
    refine em rfl (by conv=>lhs;whnf) ?_
    refine ev_skip rfl ?_
    refine ev_skip rfl ?_
    refine ev_q rfl (q_pickF rfl (by conv=>lhs;whnf) ?_)
    refine ea rfl (by conv=>lhs;whnf) ?_
    refine ev_nil (hK2 _ ?_); clear hK2
    refine good_ret ?_
    repeat first|refine thenQ_ret ?_|refine blockQ_ret ?_
    refine ret_tmp (st := _) rfl (by conv=>lhs;whnf) rfl ?_
    exact fB (by simp only [small]; grind)
  · replace hb3 := dT hb3
    refine em rfl (by conv=>lhs;whnf) ?_
    refine em rfl (by conv=>lhs;whnf) ?_
    refine ei rfl rfl rfl ?_
    intro b4 hb4; cases b4
    · replace hb4 := dF hb4
      refine ev_q rfl (q_pickT rfl (by conv=>lhs;whnf) ?_)
      refine ea rfl (by conv=>lhs;whnf) ?_
      refine ev_nil (hK2 _ ?_); clear hK2
      refine good_ret ?_
      repeat first|refine thenQ_ret ?_|refine blockQ_ret ?_
      refine ret_tmp (st := _) rfl (by conv=>lhs;whnf) rfl ?_
      exact fB (by simp only [small]; grind)
    · replace hb4 := dT hb4
      refine ev_q rfl (q_pickT rfl (by conv=>lhs;whnf) ?_)
      refine ea rfl (by conv=>lhs;whnf) ?_
      refine ev_nil (hK2 _ ?_); clear hK2
      refine good_ret ?_
      repeat first|refine thenQ_ret ?_|refine blockQ_ret ?_
      refine ret_tmp (st := _) rfl (by conv=>lhs;whnf) rfl ?_
      exact fB (by simp only [small]; grind)

-- spec.l01Digit
theorem D_spec_l01Digit (u : UInt8)  : Den Tryz.prog 133 [.s (.int .u8 u.toNat)] (.s (.bool (digit u))) := by
  refine den_of_good Tryz.func133 (by decide) rfl (Nat.le_of_ble_eq_true rfl) (Nat.le_of_ble_eq_true rfl) ?_
  refine good_seq fun K1 hK1 => ?_
  refine gr rfl ?_
  refine ea rfl (by conv=>lhs;whnf) ?_
  refine ev_nil (hK1 _ ?_); clear hK1
  refine good_seq fun K2 hK2 => ?_
  refine gr rfl ?_
  refine em rfl (by conv=>lhs;whnf) ?_
  refine ei rfl rfl rfl ?_
  intro b3 hb3; cases b3
  · replace hb3 := dF hb3
    refine em rfl (by conv=>lhs;whnf) ?_
    refine ev_skip rfl ?_
    refine ev_skip rfl ?_
    refine ev_q rfl (q_pickF rfl (by conv=>lhs;whnf) ?_)
    refine ea rfl (by conv=>lhs;whnf) ?_
    refine ev_nil (hK2 _ ?_); clear hK2
    refine good_ret ?_
    repeat first|refine thenQ_ret ?_|refine blockQ_ret ?_
    refine ret_tmp (st := _) rfl (by conv=>lhs;whnf) rfl ?_
    exact fB (by simp only [digit]; grind)
  · replace hb3 := dT hb3
    refine em rfl (by conv=>lhs;whnf) ?_
    refine em rfl (by conv=>lhs;whnf) ?_
    refine ei rfl rfl rfl ?_
    intro b4 hb4; cases b4
    · replace hb4 := dF hb4
      refine ev_q rfl (q_pickT rfl (by conv=>lhs;whnf) ?_)
      refine ea rfl (by conv=>lhs;whnf) ?_
      refine ev_nil (hK2 _ ?_); clear hK2
      refine good_ret ?_
      repeat first|refine thenQ_ret ?_|refine blockQ_ret ?_
      refine ret_tmp (st := _) rfl (by conv=>lhs;whnf) rfl ?_
      exact fB (by simp only [digit]; grind)
    · replace hb4 := dT hb4
      refine ev_q rfl (q_pickT rfl (by conv=>lhs;whnf) ?_)
      refine ea rfl (by conv=>lhs;whnf) ?_
      refine ev_nil (hK2 _ ?_); clear hK2
      refine good_ret ?_
      repeat first|refine thenQ_ret ?_|refine blockQ_ret ?_
      refine ret_tmp (st := _) rfl (by conv=>lhs;whnf) rfl ?_
      exact fB (by simp only [digit]; grind)

-- impl.onlyNameBytes
theorem D_impl_onlyNameBytes (s : ByteArray) (hs : s.size ≤ 140737488351232) : Den Tryz.prog 115 [.s (.string s)] (.s (.bool (allNb s))) := by
  refine den_of_good Tryz.func115 (by decide) rfl (Nat.le_of_ble_eq_true rfl) (Nat.le_of_ble_eq_true rfl) ?_
  refine good_seq fun K1 hK1 => ?_
  refine gr rfl ?_
  refine ea rfl (by conv=>lhs;whnf) ?_
  refine ev_nil (hK1 _ ?_); clear hK1
  refine good_seq fun K2 hK2 => ?_
  refine good_seq fun K3 hK3 => ?_
  refine gr rfl ?_
  refine em rfl (by conv=>lhs;whnf) ?_
  refine ev_q rfl (q_lenS tStr9 rfl ?_)
  intro n4 hn4
  refine em rfl (by conv=>lhs;whnf) ?_
  refine ev_nil (hK3 _ ?_); clear hK3
  refine good_block ?_
  refine good_loop (α := Nat) (fun i => { env := upd (upd (upd ((fun _ => .junk)) 0 (.s (.string s))) 6 (.s (.int .i64 (s.size)))) 7 (.s (.int .i64 i)), H := fun _ => none }) (fun i => i ≤ s.size ∧ ∀ j u, j < i → s[j]? = some u → nbc u = true) (fun i => s.size - i) 0 ?_ ?_ ?_
  · exact ⟨by omega, fun j u hj => by omega⟩
  · refine sub_weak ?_ ?_
    · exact weakH_none _
    · refine weakE_upd ?e7 ?r7 (weakE_upd ?e6 ?r6 (weakE_upd ?e0 ?r0 (weakE_junk _ _)))
      case e0 => first | rfl | exact fI (by omega) | (simp_all)
      case r0 => intro h hh; cases hh
      case e6 => first | rfl | exact fI (by omega) | (simp_all)
      case r6 => intro h hh; cases hh
      case e7 => first | rfl | exact fI (by omega) | (simp_all)
      case r7 => intro h hh; cases hh
  · rintro i ⟨hI, hJ⟩
    refine good_seq fun K5 hK5 => ?_
    refine gr rfl ?_
    refine ei rfl rfl rfl ?_
    intro b6 hb6; cases b6
    · replace hb6 := dF hb6
      refine ev_nil (hK5 _ ?_); clear hK5
      refine good_seq fun K7 hK7 => ?_
      refine good_condF rfl ?_
      refine good_exit ?_
      repeat first|refine thenQ_exit ?_|refine blockQ_pass rfl ?_
      refine blockQ_exit (hK2 _ ?_); clear hK2
      refine good_seq fun K8 hK8 => ?_
      refine gr rfl ?_
      refine ea rfl (by conv=>lhs;whnf) ?_
      refine ev_nil (hK8 _ ?_); clear hK8
      refine good_ret ?_
      repeat first|refine thenQ_ret ?_|refine blockQ_ret ?_
      refine ret_tmp (st := _) rfl (by conv=>lhs;whnf) rfl ?_
      clear hK7
      first | exact fB (allNb_T (fun j u hj => hJ j u (by omega))).symm | exact fB (allNb_F hu (by simp only [nbc, small, digit]; grind)).symm
    · replace hb6 := dT hb6
      obtain ⟨u, hu⟩ := getB (s := s) (i := i) (by omega)
      refine ev_nil (hK5 _ ?_); clear hK5
      refine good_seq fun K9 hK9 => ?_
      refine good_condT rfl ?_
      refine good_skip (hK9 _ ?_); clear hK9
      refine good_seq fun K10 hK10 => ?_
      refine good_block ?_
      refine good_seq fun K11 hK11 => ?_
      refine gr rfl ?_
      refine em rfl (by conv=>lhs;whnf) ?_
      refine ea rfl (by conv=>lhs;whnf) ?_
      refine ev_nil (hK11 _ ?_); clear hK11
      refine good_seq fun K12 hK12 => ?_
      refine gr rfl ?_
      refine em rfl (by conv=>lhs;whnf) ?_
      refine em rfl (by conv=>lhs;whnf) ?_
      refine ev_q rfl (q_indexS tStr9 rfl rfl (by exact Int.natCast_nonneg _) (by exact hu) ?_)
      intro n13 hn13
      refine ea rfl (by conv=>lhs;whnf) ?_
      refine ev_nil (hK12 _ ?_); clear hK12
      refine good_seq fun K14 hK14 => ?_
      refine gr rfl ?_
      refine em rfl (by conv=>lhs;whnf) ?_
      refine ei rfl rfl rfl ?_
      intro b15 hb15; cases b15
      · replace hb15 := dF hb15
        refine em rfl (by conv=>lhs;whnf) ?_
        refine em rfl (by conv=>lhs;whnf) ?_
        refine ei rfl rfl rfl ?_
        intro b16 hb16; cases b16
        · replace hb16 := dF hb16
          refine ev_q rfl (q_pickF rfl (by conv=>lhs;whnf) ?_)
          refine em rfl (by conv=>lhs;whnf) ?_
          refine ev_skip rfl ?_
          refine ev_skip rfl ?_
          refine ev_skip rfl ?_
          refine ev_skip rfl ?_
          refine ev_skip rfl ?_
          refine ev_skip rfl ?_
          refine ev_q rfl (q_pickF rfl (by conv=>lhs;whnf) ?_)
          refine ev_nil (hK14 _ ?_); clear hK14
          refine good_condF rfl ?_
          refine good_skip (hK10 _ ?_); clear hK10
          refine gr rfl ?_
          refine ei rfl rfl rfl ?_
          intro n17 hn17
          replace hn17 := in64 hn17 (by omega) (by omega)
          refine em rfl (by conv=>lhs;whnf) ?_
          refine ev_nil ?_
          clear hK2
          refine ⟨i + 1, ?_, ?_, ?_⟩
          · refine ⟨by omega, fun j v hj hv => ?_⟩
            by_cases hji : j = i
            · subst hji; rw [hu] at hv; cases hv; simp only [nbc, small, digit] at *; grind
            · exact hJ j v (by omega) hv
          · first | omega | (simp only []; omega) | (dsimp only; omega)
          · refine sub_weak ?_ ?_
            · exact weakH_none _
            · refine weakE_upd ?e7 ?r7 (weakE_upd ?e6 ?r6 (weakE_upd ?e0 ?r0 (weakE_junk _ _)))
              case e0 => first | rfl | exact fI (by omega) | (simp_all)
              case r0 => intro h hh; cases hh
              case e6 => first | rfl | exact fI (by omega) | (simp_all)
              case r6 => intro h hh; cases hh
              case e7 => first | rfl | exact fI (by omega) | (simp_all)
              case r7 => intro h hh; cases hh
        · replace hb16 := dT hb16
          refine ev_q rfl (q_pickF rfl (by conv=>lhs;whnf) ?_)
          refine em rfl (by conv=>lhs;whnf) ?_
          refine em rfl (by conv=>lhs;whnf) ?_
          refine ei rfl rfl rfl ?_
          intro b18 hb18; cases b18
          · replace hb18 := dF hb18
            refine em rfl (by conv=>lhs;whnf) ?_
            refine em rfl (by conv=>lhs;whnf) ?_
            refine ei rfl rfl rfl ?_
            intro b19 hb19; cases b19
            · replace hb19 := dF hb19
              refine ev_q rfl (q_pickF rfl (by conv=>lhs;whnf) ?_)
              refine ev_q rfl (q_pickT rfl (by conv=>lhs;whnf) ?_)
              refine ev_nil (hK14 _ ?_); clear hK14
              refine good_condF rfl ?_
              refine good_skip (hK10 _ ?_); clear hK10
              refine gr rfl ?_
              refine ei rfl rfl rfl ?_
              intro n20 hn20
              replace hn20 := in64 hn20 (by omega) (by omega)
              refine em rfl (by conv=>lhs;whnf) ?_
              refine ev_nil ?_
              clear hK2
              refine ⟨i + 1, ?_, ?_, ?_⟩
              · refine ⟨by omega, fun j v hj hv => ?_⟩
                by_cases hji : j = i
                · subst hji; rw [hu] at hv; cases hv; simp only [nbc, small, digit] at *; grind
                · exact hJ j v (by omega) hv
              · first | omega | (simp only []; omega) | (dsimp only; omega)
              · refine sub_weak ?_ ?_
                · exact weakH_none _
                · refine weakE_upd ?e7 ?r7 (weakE_upd ?e6 ?r6 (weakE_upd ?e0 ?r0 (weakE_junk _ _)))
                  case e0 => first | rfl | exact fI (by omega) | (simp_all)
                  case r0 => intro h hh; cases hh
                  case e6 => first | rfl | exact fI (by omega) | (simp_all)
                  case r6 => intro h hh; cases hh
                  case e7 => first | rfl | exact fI (by omega) | (simp_all)
                  case r7 => intro h hh; cases hh
            · replace hb19 := dT hb19
              refine ev_q rfl (q_pickF rfl (by conv=>lhs;whnf) ?_)
              refine ev_q rfl (q_pickT rfl (by conv=>lhs;whnf) ?_)
              refine ev_nil (hK14 _ ?_); clear hK14
              refine good_condT rfl ?_
              refine good_seq fun K21 hK21 => ?_
              refine gr rfl ?_
              refine ea rfl (by conv=>lhs;whnf) ?_
              refine ev_nil (hK21 _ ?_); clear hK21
              refine good_ret ?_
              repeat first|refine thenQ_ret ?_|refine blockQ_ret ?_
              refine ret_tmp (st := _) rfl (by conv=>lhs;whnf) rfl ?_
              clear hK2 hK10
              first | exact fB (allNb_T (fun j u hj => hJ j u (by omega))).symm | exact fB (allNb_F hu (by simp only [nbc, small, digit]; grind)).symm
          · replace hb18 := dT hb18
            refine em rfl (by conv=>lhs;whnf) ?_
            refine ev_skip rfl ?_
            refine ev_skip rfl ?_
            refine ev_q rfl (q_pickT rfl (by conv=>lhs;whnf) ?_)
            refine ev_q rfl (q_pickT rfl (by conv=>lhs;whnf) ?_)
            refine ev_nil (hK14 _ ?_); clear hK14
            refine good_condT rfl ?_
            refine good_seq fun K22 hK22 => ?_
            refine gr rfl ?_
            refine ea rfl (by conv=>lhs;whnf) ?_
            refine ev_nil (hK22 _ ?_); clear hK22
            refine good_ret ?_
            repeat first|refine thenQ_ret ?_|refine blockQ_ret ?_
            refine ret_tmp (st := _) rfl (by conv=>lhs;whnf) rfl ?_
            clear hK2 hK10
            first | exact fB (allNb_T (fun j u hj => hJ j u (by omega))).symm | exact fB (allNb_F hu (by simp only [nbc, small, digit]; grind)).symm
      · replace hb15 := dT hb15
        refine em rfl (by conv=>lhs;whnf) ?_
        refine ev_skip rfl ?_
        refine ev_skip rfl ?_
        refine ev_q rfl (q_pickT rfl (by conv=>lhs;whnf) ?_)
        refine em rfl (by conv=>lhs;whnf) ?_
        refine em rfl (by conv=>lhs;whnf) ?_
        refine ei rfl rfl rfl ?_
        intro b23 hb23; cases b23
        · replace hb23 := dF hb23
          refine em rfl (by conv=>lhs;whnf) ?_
          refine em rfl (by conv=>lhs;whnf) ?_
          refine ei rfl rfl rfl ?_
          intro b24 hb24; cases b24
          · replace hb24 := dF hb24
            refine ev_q rfl (q_pickF rfl (by conv=>lhs;whnf) ?_)
            refine ev_q rfl (q_pickT rfl (by conv=>lhs;whnf) ?_)
            refine ev_nil (hK14 _ ?_); clear hK14
            refine good_condF rfl ?_
            refine good_skip (hK10 _ ?_); clear hK10
            refine gr rfl ?_
            refine ei rfl rfl rfl ?_
            intro n25 hn25
            replace hn25 := in64 hn25 (by omega) (by omega)
            refine em rfl (by conv=>lhs;whnf) ?_
            refine ev_nil ?_
            clear hK2
            refine ⟨i + 1, ?_, ?_, ?_⟩
            · refine ⟨by omega, fun j v hj hv => ?_⟩
              by_cases hji : j = i
              · subst hji; rw [hu] at hv; cases hv; simp only [nbc, small, digit] at *; grind
              · exact hJ j v (by omega) hv
            · first | omega | (simp only []; omega) | (dsimp only; omega)
            · refine sub_weak ?_ ?_
              · exact weakH_none _
              · refine weakE_upd ?e7 ?r7 (weakE_upd ?e6 ?r6 (weakE_upd ?e0 ?r0 (weakE_junk _ _)))
                case e0 => first | rfl | exact fI (by omega) | (simp_all)
                case r0 => intro h hh; cases hh
                case e6 => first | rfl | exact fI (by omega) | (simp_all)
                case r6 => intro h hh; cases hh
                case e7 => first | rfl | exact fI (by omega) | (simp_all)
                case r7 => intro h hh; cases hh
          · replace hb24 := dT hb24
            refine ev_q rfl (q_pickF rfl (by conv=>lhs;whnf) ?_)
            refine ev_q rfl (q_pickT rfl (by conv=>lhs;whnf) ?_)
            refine ev_nil (hK14 _ ?_); clear hK14
            refine good_condT rfl ?_
            refine good_seq fun K26 hK26 => ?_
            refine gr rfl ?_
            refine ea rfl (by conv=>lhs;whnf) ?_
            refine ev_nil (hK26 _ ?_); clear hK26
            refine good_ret ?_
            repeat first|refine thenQ_ret ?_|refine blockQ_ret ?_
            refine ret_tmp (st := _) rfl (by conv=>lhs;whnf) rfl ?_
            clear hK2 hK10
            first | exact fB (allNb_T (fun j u hj => hJ j u (by omega))).symm | exact fB (allNb_F hu (by simp only [nbc, small, digit]; grind)).symm
        · replace hb23 := dT hb23
          refine em rfl (by conv=>lhs;whnf) ?_
          refine ev_skip rfl ?_
          refine ev_skip rfl ?_
          refine ev_q rfl (q_pickT rfl (by conv=>lhs;whnf) ?_)
          refine ev_q rfl (q_pickT rfl (by conv=>lhs;whnf) ?_)
          refine ev_nil (hK14 _ ?_); clear hK14
          refine good_condT rfl ?_
          refine good_seq fun K27 hK27 => ?_
          refine gr rfl ?_
          refine ea rfl (by conv=>lhs;whnf) ?_
          refine ev_nil (hK27 _ ?_); clear hK27
          refine good_ret ?_
          repeat first|refine thenQ_ret ?_|refine blockQ_ret ?_
          refine ret_tmp (st := _) rfl (by conv=>lhs;whnf) rfl ?_
          clear hK2 hK10
          first | exact fB (allNb_T (fun j u hj => hJ j u (by omega))).symm | exact fB (allNb_F hu (by simp only [nbc, small, digit]; grind)).symm

-- impl.IsName
theorem D_impl_IsName (s : ByteArray) (hs : s.size ≤ 140737488351232) : Den Tryz.prog 105 [.s (.string s)] (.s (.bool (isName s))) := by
  refine den_of_good Tryz.func105 (by decide) rfl (Nat.le_of_ble_eq_true rfl) (Nat.le_of_ble_eq_true rfl) ?_
  refine good_seq fun K1 hK1 => ?_
  refine gr rfl ?_
  refine ea rfl (by conv=>lhs;whnf) ?_
  refine ev_nil (hK1 _ ?_); clear hK1
  refine good_seq fun K2 hK2 => ?_
  refine good_seq fun K3 hK3 => ?_
  refine gr rfl ?_
  refine em rfl (by conv=>lhs;whnf) ?_
  refine ev_q rfl (q_lenS tStr9 rfl ?_)
  intro n4 hn4
  refine ei rfl rfl rfl ?_
  intro b5 hb5; cases b5
  · replace hb5 := dF hb5
    refine em rfl (by conv=>lhs;whnf) ?_
    refine em rfl (by conv=>lhs;whnf) ?_
    refine ev_q rfl (q_lenS tStr9 rfl ?_)
    intro n6 hn6
    refine ei rfl rfl rfl ?_
    intro b7 hb7; cases b7
    · replace hb7 := dF hb7
      obtain ⟨u, hu⟩ := getB (s := s) (i := 0) (by omega)
      refine ev_q rfl (q_pickF rfl (by conv=>lhs;whnf) ?_)
      refine em rfl (by conv=>lhs;whnf) ?_
      refine em rfl (by conv=>lhs;whnf) ?_
      refine ev_q rfl (q_indexS tStr9 rfl rfl (by decide) (by exact hu) ?_)
      intro n8 hn8
      refine ei rfl rfl rfl ?_
      intro b9 hb9; cases b9
      · replace hb9 := dF hb9
        refine ev_q rfl (q_pickF rfl (by conv=>lhs;whnf) ?_)
        refine em rfl (by conv=>lhs;whnf) ?_
        refine em rfl (by conv=>lhs;whnf) ?_
        refine ev_q rfl (q_indexS tStr9 rfl rfl (by decide) (by exact hu) ?_)
        intro n10 hn10
        refine ei rfl rfl rfl ?_
        intro b11 hb11; cases b11
        · replace hb11 := dF hb11
          refine ev_q rfl (q_pickF rfl (by conv=>lhs;whnf) ?_)
          refine ev_nil (hK3 _ ?_); clear hK3
          refine good_condF rfl ?_
          refine good_skip (hK2 _ ?_); clear hK2
          refine good_seq fun K12 hK12 => ?_
          refine gr rfl ?_
          refine em rfl (by conv=>lhs;whnf) ?_
          refine ev_q rfl (q_callB rfl rfl (rfl) (D_impl_onlyNameBytes _ hs) ?_)
          intro b13 hb13; cases b13
          · first | replace hb13 := dF hb13 | skip
            refine ea rfl (by conv=>lhs;whnf) ?_
            refine ev_nil (hK12 _ ?_); clear hK12
            refine good_ret ?_
            repeat first|refine thenQ_ret ?_|refine blockQ_ret ?_
            refine ret_tmp (st := _) rfl (by conv=>lhs;whnf) rfl ?_
            first | exact fB (isName_none (by omega)).symm | exact fB (isName_long (by omega)).symm | exact fB (isName_head hu (by simp only [small]; grind)).symm | (exact fB (by rw [isName_eq (by omega) (by omega) hu (by simp only [small]; grind)]; grind))
          · first | replace hb13 := dT hb13 | skip
            refine ea rfl (by conv=>lhs;whnf) ?_
            refine ev_nil (hK12 _ ?_); clear hK12
            refine good_ret ?_
            repeat first|refine thenQ_ret ?_|refine blockQ_ret ?_
            refine ret_tmp (st := _) rfl (by conv=>lhs;whnf) rfl ?_
            first | exact fB (isName_none (by omega)).symm | exact fB (isName_long (by omega)).symm | exact fB (isName_head hu (by simp only [small]; grind)).symm | (exact fB (by rw [isName_eq (by omega) (by omega) hu (by simp only [small]; grind)]; grind))
        · replace hb11 := dT hb11
          refine ev_q rfl (q_pickF rfl (by conv=>lhs;whnf) ?_)
          refine ev_nil (hK3 _ ?_); clear hK3
          refine good_condT rfl ?_
          refine good_seq fun K14 hK14 => ?_
          refine gr rfl ?_
          refine ea rfl (by conv=>lhs;whnf) ?_
          refine ev_nil (hK14 _ ?_); clear hK14
          refine good_ret ?_
          repeat first|refine thenQ_ret ?_|refine blockQ_ret ?_
          refine ret_tmp (st := _) rfl (by conv=>lhs;whnf) rfl ?_
          clear hK2
          first | exact fB (isName_none (by omega)).symm | exact fB (isName_long (by omega)).symm | exact fB (isName_head hu (by simp only [small]; grind)).symm | (exact fB (by rw [isName_eq (by omega) (by omega) hu (by simp only [small]; grind)]; grind))
      · replace hb9 := dT hb9
        refine ev_q rfl (q_pickF rfl (by conv=>lhs;whnf) ?_)
        refine em rfl (by conv=>lhs;whnf) ?_
        refine ev_skip rfl ?_
        refine ev_skip rfl ?_
        refine ev_skip rfl ?_
        refine ev_q rfl (q_pickT rfl (by conv=>lhs;whnf) ?_)
        refine ev_nil (hK3 _ ?_); clear hK3
        refine good_condT rfl ?_
        refine good_seq fun K15 hK15 => ?_
        refine gr rfl ?_
        refine ea rfl (by conv=>lhs;whnf) ?_
        refine ev_nil (hK15 _ ?_); clear hK15
        refine good_ret ?_
        repeat first|refine thenQ_ret ?_|refine blockQ_ret ?_
        refine ret_tmp (st := _) rfl (by conv=>lhs;whnf) rfl ?_
        clear hK2
        first | exact fB (isName_none (by omega)).symm | exact fB (isName_long (by omega)).symm | exact fB (isName_head hu (by simp only [small]; grind)).symm | (exact fB (by rw [isName_eq (by omega) (by omega) hu (by simp only [small]; grind)]; grind))
    · replace hb7 := dT hb7
      refine ev_q rfl (q_pickF rfl (by conv=>lhs;whnf) ?_)
      refine em rfl (by conv=>lhs;whnf) ?_
      refine ev_skip rfl ?_
      refine ev_skip rfl ?_
      refine ev_skip rfl ?_
      refine ev_q rfl (q_pickT rfl (by conv=>lhs;whnf) ?_)
      refine em rfl (by conv=>lhs;whnf) ?_
      refine ev_skip rfl ?_
      refine ev_skip rfl ?_
      refine ev_skip rfl ?_
      refine ev_q rfl (q_pickT rfl (by conv=>lhs;whnf) ?_)
      refine ev_nil (hK3 _ ?_); clear hK3
      refine good_condT rfl ?_
      refine good_seq fun K16 hK16 => ?_
      refine gr rfl ?_
      refine ea rfl (by conv=>lhs;whnf) ?_
      refine ev_nil (hK16 _ ?_); clear hK16
      refine good_ret ?_
      repeat first|refine thenQ_ret ?_|refine blockQ_ret ?_
      refine ret_tmp (st := _) rfl (by conv=>lhs;whnf) rfl ?_
      clear hK2
      first | exact fB (isName_none (by omega)).symm | exact fB (isName_long (by omega)).symm | exact fB (isName_head hu (by simp only [small]; grind)).symm | (exact fB (by rw [isName_eq (by omega) (by omega) hu (by simp only [small]; grind)]; grind))
  · replace hb5 := dT hb5
    refine em rfl (by conv=>lhs;whnf) ?_
    refine ev_skip rfl ?_
    refine ev_skip rfl ?_
    refine ev_skip rfl ?_
    refine ev_q rfl (q_pickT rfl (by conv=>lhs;whnf) ?_)
    refine em rfl (by conv=>lhs;whnf) ?_
    refine ev_skip rfl ?_
    refine ev_skip rfl ?_
    refine ev_skip rfl ?_
    refine ev_q rfl (q_pickT rfl (by conv=>lhs;whnf) ?_)
    refine em rfl (by conv=>lhs;whnf) ?_
    refine ev_skip rfl ?_
    refine ev_skip rfl ?_
    refine ev_skip rfl ?_
    refine ev_q rfl (q_pickT rfl (by conv=>lhs;whnf) ?_)
    refine ev_nil (hK3 _ ?_); clear hK3
    refine good_condT rfl ?_
    refine good_seq fun K17 hK17 => ?_
    refine gr rfl ?_
    refine ea rfl (by conv=>lhs;whnf) ?_
    refine ev_nil (hK17 _ ?_); clear hK17
    refine good_ret ?_
    repeat first|refine thenQ_ret ?_|refine blockQ_ret ?_
    refine ret_tmp (st := _) rfl (by conv=>lhs;whnf) rfl ?_
    clear hK2
    first | exact fB (isName_none (by omega)).symm | exact fB (isName_long (by omega)).symm | exact fB (isName_head hu (by simp only [small]; grind)).symm | (exact fB (by rw [isName_eq (by omega) (by omega) hu (by simp only [small]; grind)]; grind))

-- spec.l01Name
theorem D_spec_l01Name (s : ByteArray) (hs : s.size ≤ 140737488351232) : Den Tryz.prog 120 [.s (.string s)] (.s (.bool (isName s))) := by
  refine den_of_good Tryz.func120 (by decide) rfl (Nat.le_of_ble_eq_true rfl) (Nat.le_of_ble_eq_true rfl) ?_
  refine good_seq fun K1 hK1 => ?_
  refine gr rfl ?_
  refine ea rfl (by conv=>lhs;whnf) ?_
  refine ev_nil (hK1 _ ?_); clear hK1
  refine good_seq fun K2 hK2 => ?_
  refine good_seq fun K3 hK3 => ?_
  refine gr rfl ?_
  refine em rfl (by conv=>lhs;whnf) ?_
  refine ev_q rfl (q_str rfl rfl ?_)
  intro b4 hb4; cases b4
  · replace hb4 := seF hb4
    have hz : 1 ≤ s.size := by
      apply Classical.byContradiction; intro hc; exact hb4 (size0 (by omega))
    refine em rfl (by conv=>lhs;whnf) ?_
    refine em rfl (by conv=>lhs;whnf) ?_
    refine ev_q rfl (q_lenS tStr9 rfl ?_)
    intro n5 hn5
    refine ei rfl rfl rfl ?_
    intro b6 hb6; cases b6
    · replace hb6 := dF hb6
      obtain ⟨u0, hu0⟩ := getB (s := s) (i := 0) (by omega)
      refine ev_q rfl (q_pickF rfl (by conv=>lhs;whnf) ?_)
      refine em rfl (by conv=>lhs;whnf) ?_
      refine em rfl (by conv=>lhs;whnf) ?_
      refine ev_q rfl (q_indexS tStr9 rfl rfl (by first | exact Int.natCast_nonneg _ | decide) (by first | exact hu0 | exact hu) ?_)
      intro n7 hn7
      subst hn7
      refine ev_q rfl (q_callB rfl rfl (rfl) (D_spec_l01Small ..) ?_)
      intro b8 hb8; cases b8
      · first | replace hb8 := dF hb8 | skip
        refine ev_q rfl (q_not rfl rfl ?_)
        refine ev_q rfl (q_pickF rfl (by conv=>lhs;whnf) ?_)
        refine ev_nil (hK3 _ ?_); clear hK3
        refine good_condT rfl ?_
        refine good_seq fun K9 hK9 => ?_
        refine gr rfl ?_
        refine ea rfl (by conv=>lhs;whnf) ?_
        refine ev_nil (hK9 _ ?_); clear hK9
        refine good_ret ?_
        repeat first|refine thenQ_ret ?_|refine blockQ_ret ?_
        refine ret_tmp (st := _) rfl (by conv=>lhs;whnf) rfl ?_
        clear hK2
        first | exact fB (by rw [hb4]; rfl) | exact fB (isName_long (by omega)).symm | exact fB (isName_head hu0 (by simp only [small]; grind)).symm | exact fB (by rw [isName_eq (by omega) (by omega) hu0 (by simp only [small]; grind)]; exact (allNb_T (fun j u hj => hJ j u (by omega))).symm) | exact fB (by rw [isName_eq (by omega) (by omega) hu0 (by simp only [small]; grind)]; exact (allNb_F hu (by simp only [nbc, small, digit]; grind)).symm)
      · first | replace hb8 := dT hb8 | skip
        refine ev_q rfl (q_not rfl rfl ?_)
        refine ev_q rfl (q_pickF rfl (by conv=>lhs;whnf) ?_)
        refine ev_nil (hK3 _ ?_); clear hK3
        refine good_condF rfl ?_
        refine good_skip (hK2 _ ?_); clear hK2
        refine good_seq fun K10 hK10 => ?_
        refine good_seq fun K11 hK11 => ?_
        refine gr rfl ?_
        refine ea rfl (by conv=>lhs;whnf) ?_
        refine ev_nil (hK11 _ ?_); clear hK11
        refine good_block ?_
        refine good_loop (α := Nat) (fun i => { env := upd (upd ((fun _ => .junk)) 0 (.s (.string s))) 3 (.s (.int .i64 i)), H := fun _ => none }) (fun i => i ≤ s.size ∧ ∀ j u, j < i → s[j]? = some u → nbc u = true) (fun i => s.size - i) 0 ?_ ?_ ?_
        · exact ⟨by omega, fun j u hj => by omega⟩
        · refine sub_weak ?_ ?_
          · exact weakH_none _
          · refine weakE_upd ?e3 ?r3 (weakE_upd ?e0 ?r0 (weakE_junk _ _))
            case e0 => first | rfl | exact fI (by omega) | (simp_all)
            case r0 => intro h hh; cases hh
            case e3 => first | rfl | exact fI (by omega) | (simp_all)
            case r3 => intro h hh; cases hh
        · rintro i ⟨hI, hJ⟩
          refine good_seq fun K12 hK12 => ?_
          refine good_seq fun K13 hK13 => ?_
          refine gr rfl ?_
          refine em rfl (by conv=>lhs;whnf) ?_
          refine em rfl (by conv=>lhs;whnf) ?_
          refine ev_q rfl (q_lenS tStr9 rfl ?_)
          intro n14 hn14
          refine ei rfl rfl rfl ?_
          intro b15 hb15; cases b15
          · replace hb15 := dF hb15
            refine ev_nil (hK13 _ ?_); clear hK13
            refine good_condF rfl ?_
            refine good_exit ?_
            repeat first|refine thenQ_exit ?_|refine blockQ_pass rfl ?_
            refine blockQ_exit (hK10 _ ?_); clear hK10
            refine good_seq fun K16 hK16 => ?_
            refine gr rfl ?_
            refine ea rfl (by conv=>lhs;whnf) ?_
            refine ev_nil (hK16 _ ?_); clear hK16
            refine good_ret ?_
            repeat first|refine thenQ_ret ?_|refine blockQ_ret ?_
            refine ret_tmp (st := _) rfl (by conv=>lhs;whnf) rfl ?_
            clear hK12
            first | exact fB (by rw [hb4]; rfl) | exact fB (isName_long (by omega)).symm | exact fB (isName_head hu0 (by simp only [small]; grind)).symm | exact fB (by rw [isName_eq (by omega) (by omega) hu0 (by simp only [small]; grind)]; exact (allNb_T (fun j u hj => hJ j u (by omega))).symm) | exact fB (by rw [isName_eq (by omega) (by omega) hu0 (by simp only [small]; grind)]; exact (allNb_F hu (by simp only [nbc, small, digit]; grind)).symm)
          · replace hb15 := dT hb15
            obtain ⟨u, hu⟩ := getB (s := s) (i := i) (by omega)
            refine ev_nil (hK13 _ ?_); clear hK13
            refine good_condT rfl ?_
            refine good_skip (hK12 _ ?_); clear hK12
            refine good_seq fun K17 hK17 => ?_
            refine good_block ?_
            refine good_seq fun K18 hK18 => ?_
            refine gr rfl ?_
            refine em rfl (by conv=>lhs;whnf) ?_
            refine em rfl (by conv=>lhs;whnf) ?_
            refine ev_q rfl (q_indexS tStr9 rfl rfl (by first | exact Int.natCast_nonneg _ | decide) (by first | exact hu0 | exact hu) ?_)
            intro n19 hn19
            subst hn19
            refine ev_q rfl (q_callB rfl rfl (rfl) (D_spec_l01Small ..) ?_)
            intro b20 hb20; cases b20
            · first | replace hb20 := dF hb20 | skip
              refine ev_q rfl (q_not rfl rfl ?_)
              refine em rfl (by conv=>lhs;whnf) ?_
              refine em rfl (by conv=>lhs;whnf) ?_
              refine em rfl (by conv=>lhs;whnf) ?_
              refine ev_q rfl (q_indexS tStr9 rfl rfl (by first | exact Int.natCast_nonneg _ | decide) (by first | exact hu0 | exact hu) ?_)
              intro n21 hn21
              subst hn21
              refine ev_q rfl (q_callB rfl rfl (rfl) (D_spec_l01Digit ..) ?_)
              intro b22 hb22; cases b22
              · first | replace hb22 := dF hb22 | skip
                refine ev_q rfl (q_not rfl rfl ?_)
                refine ev_q rfl (q_pickT rfl (by conv=>lhs;whnf) ?_)
                refine ev_nil (hK18 _ ?_); clear hK18
                refine good_condT rfl ?_
                refine good_seq fun K23 hK23 => ?_
                refine gr rfl ?_
                refine ea rfl (by conv=>lhs;whnf) ?_
                refine ev_nil (hK23 _ ?_); clear hK23
                refine good_ret ?_
                repeat first|refine thenQ_ret ?_|refine blockQ_ret ?_
                refine ret_tmp (st := _) rfl (by conv=>lhs;whnf) rfl ?_
                clear hK10 hK17
                first | exact fB (by rw [hb4]; rfl) | exact fB (isName_long (by omega)).symm | exact fB (isName_head hu0 (by simp only [small]; grind)).symm | exact fB (by rw [isName_eq (by omega) (by omega) hu0 (by simp only [small]; grind)]; exact (allNb_T (fun j u hj => hJ j u (by omega))).symm) | exact fB (by rw [isName_eq (by omega) (by omega) hu0 (by simp only [small]; grind)]; exact (allNb_F hu (by simp only [nbc, small, digit]; grind)).symm)
              · first | replace hb22 := dT hb22 | skip
                refine ev_q rfl (q_not rfl rfl ?_)
                refine ev_q rfl (q_pickT rfl (by conv=>lhs;whnf) ?_)
                refine ev_nil (hK18 _ ?_); clear hK18
                refine good_condF rfl ?_
                refine good_skip (hK17 _ ?_); clear hK17
                refine gr rfl ?_
                refine em rfl (by conv=>lhs;whnf) ?_
                refine ei rfl rfl rfl ?_
                intro n24 hn24
                replace hn24 := in64 hn24 (by omega) (by omega)
                refine ea rfl (by conv=>lhs;whnf) ?_
                refine ev_nil ?_
                clear hK10
                refine ⟨i + 1, ?_, ?_, ?_⟩
                · refine ⟨by omega, fun j v hj hv => ?_⟩
                  by_cases hji : j = i
                  · subst hji; rw [hu] at hv; cases hv; simp only [nbc, small, digit] at *; grind
                  · exact hJ j v (by omega) hv
                · first | omega | (simp only []; omega) | (dsimp only; omega)
                · refine sub_weak ?_ ?_
                  · exact weakH_none _
                  · refine weakE_upd ?e3 ?r3 (weakE_upd ?e0 ?r0 (weakE_junk _ _))
                    case e0 => first | rfl | exact fI (by omega) | (simp_all)
                    case r0 => intro h hh; cases hh
                    case e3 => first | rfl | exact fI (by omega) | (simp_all)
                    case r3 => intro h hh; cases hh
            · first | replace hb20 := dT hb20 | skip
              refine ev_q rfl (q_not rfl rfl ?_)
              refine em rfl (by conv=>lhs;whnf) ?_
              refine ev_skip rfl ?_
              refine ev_skip rfl ?_
              refine ev_skip rfl ?_
              refine ev_skip rfl ?_
              refine ev_skip rfl ?_
              refine ev_q rfl (q_pickF rfl (by conv=>lhs;whnf) ?_)
              refine ev_nil (hK18 _ ?_); clear hK18
              refine good_condF rfl ?_
              refine good_skip (hK17 _ ?_); clear hK17
              refine gr rfl ?_
              refine em rfl (by conv=>lhs;whnf) ?_
              refine ei rfl rfl rfl ?_
              intro n25 hn25
              replace hn25 := in64 hn25 (by omega) (by omega)
              refine ea rfl (by conv=>lhs;whnf) ?_
              refine ev_nil ?_
              clear hK10
              refine ⟨i + 1, ?_, ?_, ?_⟩
              · refine ⟨by omega, fun j v hj hv => ?_⟩
                by_cases hji : j = i
                · subst hji; rw [hu] at hv; cases hv; simp only [nbc, small, digit] at *; grind
                · exact hJ j v (by omega) hv
              · first | omega | (simp only []; omega) | (dsimp only; omega)
              · refine sub_weak ?_ ?_
                · exact weakH_none _
                · refine weakE_upd ?e3 ?r3 (weakE_upd ?e0 ?r0 (weakE_junk _ _))
                  case e0 => first | rfl | exact fI (by omega) | (simp_all)
                  case r0 => intro h hh; cases hh
                  case e3 => first | rfl | exact fI (by omega) | (simp_all)
                  case r3 => intro h hh; cases hh
    · replace hb6 := dT hb6
      refine ev_q rfl (q_pickF rfl (by conv=>lhs;whnf) ?_)
      refine em rfl (by conv=>lhs;whnf) ?_
      refine ev_skip rfl ?_
      refine ev_skip rfl ?_
      refine ev_skip rfl ?_
      refine ev_skip rfl ?_
      refine ev_q rfl (q_pickT rfl (by conv=>lhs;whnf) ?_)
      refine ev_nil (hK3 _ ?_); clear hK3
      refine good_condT rfl ?_
      refine good_seq fun K26 hK26 => ?_
      refine gr rfl ?_
      refine ea rfl (by conv=>lhs;whnf) ?_
      refine ev_nil (hK26 _ ?_); clear hK26
      refine good_ret ?_
      repeat first|refine thenQ_ret ?_|refine blockQ_ret ?_
      refine ret_tmp (st := _) rfl (by conv=>lhs;whnf) rfl ?_
      clear hK2
      first | exact fB (by rw [hb4]; rfl) | exact fB (isName_long (by omega)).symm | exact fB (isName_head hu0 (by simp only [small]; grind)).symm | exact fB (by rw [isName_eq (by omega) (by omega) hu0 (by simp only [small]; grind)]; exact (allNb_T (fun j u hj => hJ j u (by omega))).symm) | exact fB (by rw [isName_eq (by omega) (by omega) hu0 (by simp only [small]; grind)]; exact (allNb_F hu (by simp only [nbc, small, digit]; grind)).symm)
  · replace hb4 := seT hb4
    refine em rfl (by conv=>lhs;whnf) ?_
    refine ev_skip rfl ?_
    refine ev_skip rfl ?_
    refine ev_skip rfl ?_
    refine ev_q rfl (q_pickT rfl (by conv=>lhs;whnf) ?_)
    refine em rfl (by conv=>lhs;whnf) ?_
    refine ev_skip rfl ?_
    refine ev_skip rfl ?_
    refine ev_skip rfl ?_
    refine ev_skip rfl ?_
    refine ev_q rfl (q_pickT rfl (by conv=>lhs;whnf) ?_)
    refine ev_nil (hK3 _ ?_); clear hK3
    refine good_condT rfl ?_
    refine good_seq fun K27 hK27 => ?_
    refine gr rfl ?_
    refine ea rfl (by conv=>lhs;whnf) ?_
    refine ev_nil (hK27 _ ?_); clear hK27
    refine good_ret ?_
    repeat first|refine thenQ_ret ?_|refine blockQ_ret ?_
    refine ret_tmp (st := _) rfl (by conv=>lhs;whnf) rfl ?_
    clear hK2
    first | exact fB (by rw [hb4]; rfl) | exact fB (isName_long (by omega)).symm | exact fB (isName_head hu0 (by simp only [small]; grind)).symm | exact fB (by rw [isName_eq (by omega) (by omega) hu0 (by simp only [small]; grind)]; exact (allNb_T (fun j u hj => hJ j u (by omega))).symm) | exact fB (by rw [isName_eq (by omega) (by omega) hu0 (by simp only [small]; grind)]; exact (allNb_F hu (by simp only [nbc, small, digit]; grind)).symm)

-- impl.nodeOk
theorem D_impl_nodeOk (a : Int)  : Den Tryz.prog 106 [.s (.int .i64 a)] (.s (.bool (decide (0 ≤ a ∧ a ≤ 15)))) := by
  refine den_of_good Tryz.func106 (by decide) rfl (Nat.le_of_ble_eq_true rfl) (Nat.le_of_ble_eq_true rfl) ?_
  refine good_seq fun K1 hK1 => ?_
  refine gr rfl ?_
  refine ea rfl (by conv=>lhs;whnf) ?_
  refine ev_nil (hK1 _ ?_); clear hK1
  refine good_seq fun K2 hK2 => ?_
  refine gr rfl ?_
  refine em rfl (by conv=>lhs;whnf) ?_
  refine ev_q rfl (q_callB rfl rfl (rfl) (D_impl_within ..) ?_)
  intro b3 hb3; cases b3
  · first | replace hb3 := dF hb3 | skip
    refine ea rfl (by conv=>lhs;whnf) ?_
    refine ev_nil (hK2 _ ?_); clear hK2
    refine good_ret ?_
    repeat first|refine thenQ_ret ?_|refine blockQ_ret ?_
    refine ret_tmp (st := _) rfl (by conv=>lhs;whnf) rfl ?_
    first | rfl | exact fT (by first | omega | grind) | exact fF (by first | omega | grind) | exact fT' (by first | omega | grind) | (exfalso; first | omega | grind)
  · first | replace hb3 := dT hb3 | skip
    refine ea rfl (by conv=>lhs;whnf) ?_
    refine ev_nil (hK2 _ ?_); clear hK2
    refine good_ret ?_
    repeat first|refine thenQ_ret ?_|refine blockQ_ret ?_
    refine ret_tmp (st := _) rfl (by conv=>lhs;whnf) rfl ?_
    first | rfl | exact fT (by first | omega | grind) | exact fF (by first | omega | grind) | exact fT' (by first | omega | grind) | (exfalso; first | omega | grind)

-- spec.l03Ok
theorem D_spec_l03Ok (s : ByteArray) (fm tt le di lo : Int) (hs : s.size ≤ 140737488351232) : Den Tryz.prog 114 [.rp [.s (.string s), .s (.int .i64 fm), .s (.int .i64 tt), .s (.int .i64 le), .s (.int .i64 di), .s (.int .i64 lo)]] (.s (.bool (decide (isName s = true ∧ (0 ≤ fm ∧ fm ≤ 15) ∧ (0 ≤ tt ∧ tt ≤ 15) ∧ ¬ fm = tt ∧ (1 ≤ le ∧ le ≤ 10000) ∧ (20 ≤ di ∧ di ≤ 1000) ∧ (0 ≤ lo ∧ lo ≤ 5000))))) := by
  refine den_of_good Tryz.func114 (by decide) rfl (Nat.le_of_ble_eq_true rfl) (Nat.le_of_ble_eq_true rfl) ?_
  refine good_seq fun K1 hK1 => ?_
  refine gr rfl ?_
  refine ea rfl (by conv=>lhs;whnf) ?_
  refine ev_nil (hK1 _ ?_); clear hK1
  refine good_seq fun K2 hK2 => ?_
  refine good_seq fun K3 hK3 => ?_
  refine good_draw 33 hmix (by kernel_rfl) rfl ?_
  refine qm rfl (by conv=>lhs;whnf) ?_
  refine qo_q rfl (q_nilCheck (by conv=>lhs;whnf) rfl ?_)
  refine qo_q rfl (q_fieldAddr fO95_0 rfl rfl ?_)
  refine qo_q rfl (q_load tA9 rfl ?_)
  refine qo_q rfl (q_callB rfl rfl (rfl) (D_spec_l01Name _ hs) ?_)
  intro b4 hb4; cases b4
  · first | replace hb4 := dF hb4 | skip
    refine qo_q rfl (q_not rfl rfl ?_)
    refine qm rfl (by conv=>lhs;whnf) ?_
    refine qo_skip rfl ?_
    refine qo_skip rfl ?_
    refine qo_skip rfl ?_
    refine qo_skip rfl ?_
    refine qo_skip rfl ?_
    refine qo_skip rfl ?_
    refine qo_q rfl (q_pickT rfl (by conv=>lhs;whnf) ?_)
    refine qm rfl (by conv=>lhs;whnf) ?_
    refine qo_skip rfl ?_
    refine qo_skip rfl ?_
    refine qo_skip rfl ?_
    refine qo_skip rfl ?_
    refine qo_skip rfl ?_
    refine qo_skip rfl ?_
    refine qo_q rfl (q_pickT rfl (by conv=>lhs;whnf) ?_)
    refine qm rfl (by conv=>lhs;whnf) ?_
    refine qo_skip rfl ?_
    refine qo_skip rfl ?_
    refine qo_skip rfl ?_
    refine qo_skip rfl ?_
    refine qo_skip rfl ?_
    refine qo_skip rfl ?_
    refine qo_skip rfl ?_
    refine qo_skip rfl ?_
    refine qo_skip rfl ?_
    refine qo_q rfl (q_pickT rfl (by conv=>lhs;whnf) ?_)
    refine qo_nil ?_
    refine ev_nil (hK3 _ ?_); clear hK3
    refine good_condT rfl ?_
    refine good_seq fun K5 hK5 => ?_
    refine gr rfl ?_
    refine ea rfl (by conv=>lhs;whnf) ?_
    refine ev_nil (hK5 _ ?_); clear hK5
    refine good_ret ?_
    repeat first|refine thenQ_ret ?_|refine blockQ_ret ?_
    refine ret_tmp (st := _) rfl (by conv=>lhs;whnf) rfl ?_
    clear hK2
    first | rfl | exact fT (by first | omega | grind) | exact fF (by first | omega | grind) | exact fT' (by first | omega | grind) | (exfalso; first | omega | grind)
  · first | replace hb4 := dT hb4 | skip
    refine qo_q rfl (q_not rfl rfl ?_)
    refine qm rfl (by conv=>lhs;whnf) ?_
    refine qm rfl (by conv=>lhs;whnf) ?_
    refine qo_q rfl (q_nilCheck (by conv=>lhs;whnf) rfl ?_)
    refine qo_q rfl (q_fieldAddr fO95_1 rfl rfl ?_)
    refine qo_q rfl (q_load tA2 rfl ?_)
    refine qo_q rfl (q_callB rfl rfl (rfl) (D_spec_l00In ..) ?_)
    intro b6 hb6; cases b6
    · first | replace hb6 := dF hb6 | skip
      refine qo_q rfl (q_not rfl rfl ?_)
      refine qo_q rfl (q_pickF rfl (by conv=>lhs;whnf) ?_)
      refine qm rfl (by conv=>lhs;whnf) ?_
      refine qo_skip rfl ?_
      refine qo_skip rfl ?_
      refine qo_skip rfl ?_
      refine qo_skip rfl ?_
      refine qo_skip rfl ?_
      refine qo_skip rfl ?_
      refine qo_q rfl (q_pickT rfl (by conv=>lhs;whnf) ?_)
      refine qm rfl (by conv=>lhs;whnf) ?_
      refine qo_skip rfl ?_
      refine qo_skip rfl ?_
      refine qo_skip rfl ?_
      refine qo_skip rfl ?_
      refine qo_skip rfl ?_
      refine qo_skip rfl ?_
      refine qo_skip rfl ?_
      refine qo_skip rfl ?_
      refine qo_skip rfl ?_
      refine qo_q rfl (q_pickT rfl (by conv=>lhs;whnf) ?_)
      refine qo_nil ?_
      refine ev_nil (hK3 _ ?_); clear hK3
      refine good_condT rfl ?_
      refine good_seq fun K7 hK7 => ?_
      refine gr rfl ?_
      refine ea rfl (by conv=>lhs;whnf) ?_
      refine ev_nil (hK7 _ ?_); clear hK7
      refine good_ret ?_
      repeat first|refine thenQ_ret ?_|refine blockQ_ret ?_
      refine ret_tmp (st := _) rfl (by conv=>lhs;whnf) rfl ?_
      clear hK2
      first | rfl | exact fT (by first | omega | grind) | exact fF (by first | omega | grind) | exact fT' (by first | omega | grind) | (exfalso; first | omega | grind)
    · first | replace hb6 := dT hb6 | skip
      refine qo_q rfl (q_not rfl rfl ?_)
      refine qo_q rfl (q_pickF rfl (by conv=>lhs;whnf) ?_)
      refine qm rfl (by conv=>lhs;whnf) ?_
      refine qm rfl (by conv=>lhs;whnf) ?_
      refine qo_q rfl (q_nilCheck (by conv=>lhs;whnf) rfl ?_)
      refine qo_q rfl (q_fieldAddr fO95_2 rfl rfl ?_)
      refine qo_q rfl (q_load tA2 rfl ?_)
      refine qo_q rfl (q_callB rfl rfl (rfl) (D_spec_l00In ..) ?_)
      intro b8 hb8; cases b8
      · first | replace hb8 := dF hb8 | skip
        refine qo_q rfl (q_not rfl rfl ?_)
        refine qo_q rfl (q_pickF rfl (by conv=>lhs;whnf) ?_)
        refine qm rfl (by conv=>lhs;whnf) ?_
        refine qo_skip rfl ?_
        refine qo_skip rfl ?_
        refine qo_skip rfl ?_
        refine qo_skip rfl ?_
        refine qo_skip rfl ?_
        refine qo_skip rfl ?_
        refine qo_skip rfl ?_
        refine qo_skip rfl ?_
        refine qo_skip rfl ?_
        refine qo_q rfl (q_pickT rfl (by conv=>lhs;whnf) ?_)
        refine qo_nil ?_
        refine ev_nil (hK3 _ ?_); clear hK3
        refine good_condT rfl ?_
        refine good_seq fun K9 hK9 => ?_
        refine gr rfl ?_
        refine ea rfl (by conv=>lhs;whnf) ?_
        refine ev_nil (hK9 _ ?_); clear hK9
        refine good_ret ?_
        repeat first|refine thenQ_ret ?_|refine blockQ_ret ?_
        refine ret_tmp (st := _) rfl (by conv=>lhs;whnf) rfl ?_
        clear hK2
        first | rfl | exact fT (by first | omega | grind) | exact fF (by first | omega | grind) | exact fT' (by first | omega | grind) | (exfalso; first | omega | grind)
      · first | replace hb8 := dT hb8 | skip
        refine qo_q rfl (q_not rfl rfl ?_)
        refine qo_q rfl (q_pickF rfl (by conv=>lhs;whnf) ?_)
        refine qm rfl (by conv=>lhs;whnf) ?_
        refine qm rfl (by conv=>lhs;whnf) ?_
        refine qo_q rfl (q_nilCheck (by conv=>lhs;whnf) rfl ?_)
        refine qo_q rfl (q_fieldAddr fO95_1 rfl rfl ?_)
        refine qo_q rfl (q_load tA2 rfl ?_)
        refine qm rfl (by conv=>lhs;whnf) ?_
        refine qo_q rfl (q_nilCheck (by conv=>lhs;whnf) rfl ?_)
        refine qo_q rfl (q_fieldAddr fO95_2 rfl rfl ?_)
        refine qo_q rfl (q_load tA2 rfl ?_)
        refine qo_q rfl (q_int rfl rfl ?_)
        intro b10 hb10; cases b10
        · replace hb10 := eqF hb10
          refine qo_q rfl (q_pickF rfl (by conv=>lhs;whnf) ?_)
          refine qo_nil ?_
          refine ev_nil (hK3 _ ?_); clear hK3
          refine good_condF rfl ?_
          refine good_skip (hK2 _ ?_); clear hK2
          refine good_seq fun K11 hK11 => ?_
          refine gr rfl ?_
          refine em rfl (by conv=>lhs;whnf) ?_
          refine ev_q rfl (q_nilCheck (by conv=>lhs;whnf) rfl ?_)
          refine ev_q rfl (q_fieldAddr fO95_3 rfl rfl ?_)
          refine ev_q rfl (q_load tA2 rfl ?_)
          refine ev_q rfl (q_callB rfl rfl (rfl) (D_spec_l00In ..) ?_)
          intro b12 hb12; cases b12
          · first | replace hb12 := dF hb12 | skip
            refine em rfl (by conv=>lhs;whnf) ?_
            refine ev_skip rfl ?_
            refine ev_skip rfl ?_
            refine ev_skip rfl ?_
            refine ev_skip rfl ?_
            refine ev_skip rfl ?_
            refine ev_q rfl (q_pickF rfl (by conv=>lhs;whnf) ?_)
            refine em rfl (by conv=>lhs;whnf) ?_
            refine ev_skip rfl ?_
            refine ev_skip rfl ?_
            refine ev_skip rfl ?_
            refine ev_skip rfl ?_
            refine ev_skip rfl ?_
            refine ev_q rfl (q_pickF rfl (by conv=>lhs;whnf) ?_)
            refine ea rfl (by conv=>lhs;whnf) ?_
            refine ev_nil (hK11 _ ?_); clear hK11
            refine good_ret ?_
            repeat first|refine thenQ_ret ?_|refine blockQ_ret ?_
            refine ret_tmp (st := _) rfl (by conv=>lhs;whnf) rfl ?_
            first | rfl | exact fT (by first | omega | grind) | exact fF (by first | omega | grind) | exact fT' (by first | omega | grind) | (exfalso; first | omega | grind)
          · first | replace hb12 := dT hb12 | skip
            refine em rfl (by conv=>lhs;whnf) ?_
            refine em rfl (by conv=>lhs;whnf) ?_
            refine ev_q rfl (q_nilCheck (by conv=>lhs;whnf) rfl ?_)
            refine ev_q rfl (q_fieldAddr fO95_4 rfl rfl ?_)
            refine ev_q rfl (q_load tA2 rfl ?_)
            refine ev_q rfl (q_callB rfl rfl (rfl) (D_spec_l00In ..) ?_)
            intro b13 hb13; cases b13
            · first | replace hb13 := dF hb13 | skip
              refine ev_q rfl (q_pickT rfl (by conv=>lhs;whnf) ?_)
              refine em rfl (by conv=>lhs;whnf) ?_
              refine ev_skip rfl ?_
              refine ev_skip rfl ?_
              refine ev_skip rfl ?_
              refine ev_skip rfl ?_
              refine ev_skip rfl ?_
              refine ev_q rfl (q_pickF rfl (by conv=>lhs;whnf) ?_)
              refine ea rfl (by conv=>lhs;whnf) ?_
              refine ev_nil (hK11 _ ?_); clear hK11
              refine good_ret ?_
              repeat first|refine thenQ_ret ?_|refine blockQ_ret ?_
              refine ret_tmp (st := _) rfl (by conv=>lhs;whnf) rfl ?_
              first | rfl | exact fT (by first | omega | grind) | exact fF (by first | omega | grind) | exact fT' (by first | omega | grind) | (exfalso; first | omega | grind)
            · first | replace hb13 := dT hb13 | skip
              refine ev_q rfl (q_pickT rfl (by conv=>lhs;whnf) ?_)
              refine em rfl (by conv=>lhs;whnf) ?_
              refine em rfl (by conv=>lhs;whnf) ?_
              refine ev_q rfl (q_nilCheck (by conv=>lhs;whnf) rfl ?_)
              refine ev_q rfl (q_fieldAddr fO95_5 rfl rfl ?_)
              refine ev_q rfl (q_load tA2 rfl ?_)
              refine ev_q rfl (q_callB rfl rfl (rfl) (D_spec_l00In ..) ?_)
              intro b14 hb14; cases b14
              · first | replace hb14 := dF hb14 | skip
                refine ev_q rfl (q_pickT rfl (by conv=>lhs;whnf) ?_)
                refine ea rfl (by conv=>lhs;whnf) ?_
                refine ev_nil (hK11 _ ?_); clear hK11
                refine good_ret ?_
                repeat first|refine thenQ_ret ?_|refine blockQ_ret ?_
                refine ret_tmp (st := _) rfl (by conv=>lhs;whnf) rfl ?_
                first | rfl | exact fT (by first | omega | grind) | exact fF (by first | omega | grind) | exact fT' (by first | omega | grind) | (exfalso; first | omega | grind)
              · first | replace hb14 := dT hb14 | skip
                refine ev_q rfl (q_pickT rfl (by conv=>lhs;whnf) ?_)
                refine ea rfl (by conv=>lhs;whnf) ?_
                refine ev_nil (hK11 _ ?_); clear hK11
                refine good_ret ?_
                repeat first|refine thenQ_ret ?_|refine blockQ_ret ?_
                refine ret_tmp (st := _) rfl (by conv=>lhs;whnf) rfl ?_
                first | rfl | exact fT (by first | omega | grind) | exact fF (by first | omega | grind) | exact fT' (by first | omega | grind) | (exfalso; first | omega | grind)
        · replace hb10 := eqT hb10
          refine qo_q rfl (q_pickF rfl (by conv=>lhs;whnf) ?_)
          refine qo_nil ?_
          refine ev_nil (hK3 _ ?_); clear hK3
          refine good_condT rfl ?_
          refine good_seq fun K15 hK15 => ?_
          refine gr rfl ?_
          refine ea rfl (by conv=>lhs;whnf) ?_
          refine ev_nil (hK15 _ ?_); clear hK15
          refine good_ret ?_
          repeat first|refine thenQ_ret ?_|refine blockQ_ret ?_
          refine ret_tmp (st := _) rfl (by conv=>lhs;whnf) rfl ?_
          clear hK2
          first | rfl | exact fT (by first | omega | grind) | exact fF (by first | omega | grind) | exact fT' (by first | omega | grind) | (exfalso; first | omega | grind)

-- impl.ValidPipe
theorem D_impl_ValidPipe (s : ByteArray) (fm tt le di lo : Int) (hs : s.size ≤ 140737488351232) : Den Tryz.prog 78 [.agg [.s (.string s), .s (.int .i64 fm), .s (.int .i64 tt), .s (.int .i64 le), .s (.int .i64 di), .s (.int .i64 lo)]] (.s (.bool (decide (isName s = true ∧ (0 ≤ fm ∧ fm ≤ 15) ∧ (0 ≤ tt ∧ tt ≤ 15) ∧ ¬ fm = tt ∧ (1 ≤ le ∧ le ≤ 10000) ∧ (20 ≤ di ∧ di ≤ 1000) ∧ (0 ≤ lo ∧ lo ≤ 5000))))) := by
  refine den_of_good Tryz.func78 (by decide) rfl (Nat.le_of_ble_eq_true rfl) (Nat.le_of_ble_eq_true rfl) ?_
  refine good_seq fun K1 hK1 => ?_
  refine gr rfl ?_
  refine ev_k rfl (k_box (by conv=>lhs;whnf) rfl rfl rfl ?_)
  refine ea rfl (by conv=>lhs;whnf) ?_
  refine ev_nil (hK1 _ ?_); clear hK1
  refine good_seq fun K2 hK2 => ?_
  refine gr rfl ?_
  refine ev_q rfl (q_fieldAddrP fO95_0 rfl rfl ?_)
  refine ev_q rfl (q_load tA9 rfl ?_)
  refine ev_q rfl (q_callB rfl rfl (rfl) (D_impl_IsName _ hs) ?_)
  intro b3 hb3; cases b3
  · first | replace hb3 := dF hb3 | skip
    refine em rfl (by conv=>lhs;whnf) ?_
    refine ev_skip rfl ?_
    refine ev_skip rfl ?_
    refine ev_skip rfl ?_
    refine ev_q rfl (q_pickF rfl (by conv=>lhs;whnf) ?_)
    refine em rfl (by conv=>lhs;whnf) ?_
    refine ev_skip rfl ?_
    refine ev_skip rfl ?_
    refine ev_skip rfl ?_
    refine ev_q rfl (q_pickF rfl (by conv=>lhs;whnf) ?_)
    refine em rfl (by conv=>lhs;whnf) ?_
    refine ev_skip rfl ?_
    refine ev_skip rfl ?_
    refine ev_skip rfl ?_
    refine ev_skip rfl ?_
    refine ev_skip rfl ?_
    refine ev_q rfl (q_pickF rfl (by conv=>lhs;whnf) ?_)
    refine em rfl (by conv=>lhs;whnf) ?_
    refine ev_skip rfl ?_
    refine ev_skip rfl ?_
    refine ev_skip rfl ?_
    refine ev_q rfl (q_pickF rfl (by conv=>lhs;whnf) ?_)
    refine em rfl (by conv=>lhs;whnf) ?_
    refine ev_skip rfl ?_
    refine ev_skip rfl ?_
    refine ev_skip rfl ?_
    refine ev_q rfl (q_pickF rfl (by conv=>lhs;whnf) ?_)
    refine em rfl (by conv=>lhs;whnf) ?_
    refine ev_skip rfl ?_
    refine ev_skip rfl ?_
    refine ev_skip rfl ?_
    refine ev_q rfl (q_pickF rfl (by conv=>lhs;whnf) ?_)
    refine ea rfl (by conv=>lhs;whnf) ?_
    refine ev_nil (hK2 _ ?_); clear hK2
    refine good_ret ?_
    repeat first|refine thenQ_ret ?_|refine blockQ_ret ?_
    refine ret_tmp (st := _) rfl (by conv=>lhs;whnf) rfl ?_
    first | rfl | exact fT (by first | omega | grind) | exact fF (by first | omega | grind) | exact fT' (by first | omega | grind) | (exfalso; first | omega | grind)
  · first | replace hb3 := dT hb3 | skip
    refine em rfl (by conv=>lhs;whnf) ?_
    refine ev_q rfl (q_fieldAddrP fO95_1 rfl rfl ?_)
    refine ev_q rfl (q_load tA2 rfl ?_)
    refine ev_q rfl (q_callB rfl rfl (rfl) (D_impl_nodeOk ..) ?_)
    intro b4 hb4; cases b4
    · first | replace hb4 := dF hb4 | skip
      refine ev_q rfl (q_pickT rfl (by conv=>lhs;whnf) ?_)
      refine em rfl (by conv=>lhs;whnf) ?_
      refine ev_skip rfl ?_
      refine ev_skip rfl ?_
      refine ev_skip rfl ?_
      refine ev_q rfl (q_pickF rfl (by conv=>lhs;whnf) ?_)
      refine em rfl (by conv=>lhs;whnf) ?_
      refine ev_skip rfl ?_
      refine ev_skip rfl ?_
      refine ev_skip rfl ?_
      refine ev_skip rfl ?_
      refine ev_skip rfl ?_
      refine ev_q rfl (q_pickF rfl (by conv=>lhs;whnf) ?_)
      refine em rfl (by conv=>lhs;whnf) ?_
      refine ev_skip rfl ?_
      refine ev_skip rfl ?_
      refine ev_skip rfl ?_
      refine ev_q rfl (q_pickF rfl (by conv=>lhs;whnf) ?_)
      refine em rfl (by conv=>lhs;whnf) ?_
      refine ev_skip rfl ?_
      refine ev_skip rfl ?_
      refine ev_skip rfl ?_
      refine ev_q rfl (q_pickF rfl (by conv=>lhs;whnf) ?_)
      refine em rfl (by conv=>lhs;whnf) ?_
      refine ev_skip rfl ?_
      refine ev_skip rfl ?_
      refine ev_skip rfl ?_
      refine ev_q rfl (q_pickF rfl (by conv=>lhs;whnf) ?_)
      refine ea rfl (by conv=>lhs;whnf) ?_
      refine ev_nil (hK2 _ ?_); clear hK2
      refine good_ret ?_
      repeat first|refine thenQ_ret ?_|refine blockQ_ret ?_
      refine ret_tmp (st := _) rfl (by conv=>lhs;whnf) rfl ?_
      first | rfl | exact fT (by first | omega | grind) | exact fF (by first | omega | grind) | exact fT' (by first | omega | grind) | (exfalso; first | omega | grind)
    · first | replace hb4 := dT hb4 | skip
      refine ev_q rfl (q_pickT rfl (by conv=>lhs;whnf) ?_)
      refine em rfl (by conv=>lhs;whnf) ?_
      refine ev_q rfl (q_fieldAddrP fO95_2 rfl rfl ?_)
      refine ev_q rfl (q_load tA2 rfl ?_)
      refine ev_q rfl (q_callB rfl rfl (rfl) (D_impl_nodeOk ..) ?_)
      intro b5 hb5; cases b5
      · first | replace hb5 := dF hb5 | skip
        refine ev_q rfl (q_pickT rfl (by conv=>lhs;whnf) ?_)
        refine em rfl (by conv=>lhs;whnf) ?_
        refine ev_skip rfl ?_
        refine ev_skip rfl ?_
        refine ev_skip rfl ?_
        refine ev_skip rfl ?_
        refine ev_skip rfl ?_
        refine ev_q rfl (q_pickF rfl (by conv=>lhs;whnf) ?_)
        refine em rfl (by conv=>lhs;whnf) ?_
        refine ev_skip rfl ?_
        refine ev_skip rfl ?_
        refine ev_skip rfl ?_
        refine ev_q rfl (q_pickF rfl (by conv=>lhs;whnf) ?_)
        refine em rfl (by conv=>lhs;whnf) ?_
        refine ev_skip rfl ?_
        refine ev_skip rfl ?_
        refine ev_skip rfl ?_
        refine ev_q rfl (q_pickF rfl (by conv=>lhs;whnf) ?_)
        refine em rfl (by conv=>lhs;whnf) ?_
        refine ev_skip rfl ?_
        refine ev_skip rfl ?_
        refine ev_skip rfl ?_
        refine ev_q rfl (q_pickF rfl (by conv=>lhs;whnf) ?_)
        refine ea rfl (by conv=>lhs;whnf) ?_
        refine ev_nil (hK2 _ ?_); clear hK2
        refine good_ret ?_
        repeat first|refine thenQ_ret ?_|refine blockQ_ret ?_
        refine ret_tmp (st := _) rfl (by conv=>lhs;whnf) rfl ?_
        first | rfl | exact fT (by first | omega | grind) | exact fF (by first | omega | grind) | exact fT' (by first | omega | grind) | (exfalso; first | omega | grind)
      · first | replace hb5 := dT hb5 | skip
        refine ev_q rfl (q_pickT rfl (by conv=>lhs;whnf) ?_)
        refine em rfl (by conv=>lhs;whnf) ?_
        refine ev_q rfl (q_fieldAddrP fO95_1 rfl rfl ?_)
        refine ev_q rfl (q_load tA2 rfl ?_)
        refine ev_q rfl (q_fieldAddrP fO95_2 rfl rfl ?_)
        refine ev_q rfl (q_load tA2 rfl ?_)
        refine ei rfl rfl rfl ?_
        intro b6 hb6; cases b6
        · replace hb6 := neF hb6
          refine ev_q rfl (q_pickT rfl (by conv=>lhs;whnf) ?_)
          refine em rfl (by conv=>lhs;whnf) ?_
          refine ev_skip rfl ?_
          refine ev_skip rfl ?_
          refine ev_skip rfl ?_
          refine ev_q rfl (q_pickF rfl (by conv=>lhs;whnf) ?_)
          refine em rfl (by conv=>lhs;whnf) ?_
          refine ev_skip rfl ?_
          refine ev_skip rfl ?_
          refine ev_skip rfl ?_
          refine ev_q rfl (q_pickF rfl (by conv=>lhs;whnf) ?_)
          refine em rfl (by conv=>lhs;whnf) ?_
          refine ev_skip rfl ?_
          refine ev_skip rfl ?_
          refine ev_skip rfl ?_
          refine ev_q rfl (q_pickF rfl (by conv=>lhs;whnf) ?_)
          refine ea rfl (by conv=>lhs;whnf) ?_
          refine ev_nil (hK2 _ ?_); clear hK2
          refine good_ret ?_
          repeat first|refine thenQ_ret ?_|refine blockQ_ret ?_
          refine ret_tmp (st := _) rfl (by conv=>lhs;whnf) rfl ?_
          first | rfl | exact fT (by first | omega | grind) | exact fF (by first | omega | grind) | exact fT' (by first | omega | grind) | (exfalso; first | omega | grind)
        · replace hb6 := neT hb6
          refine ev_q rfl (q_pickT rfl (by conv=>lhs;whnf) ?_)
          refine em rfl (by conv=>lhs;whnf) ?_
          refine ev_q rfl (q_fieldAddrP fO95_3 rfl rfl ?_)
          refine ev_q rfl (q_load tA2 rfl ?_)
          refine ev_q rfl (q_callB rfl rfl (rfl) (D_impl_within ..) ?_)
          intro b7 hb7; cases b7
          · first | replace hb7 := dF hb7 | skip
            refine ev_q rfl (q_pickT rfl (by conv=>lhs;whnf) ?_)
            refine em rfl (by conv=>lhs;whnf) ?_
            refine ev_skip rfl ?_
            refine ev_skip rfl ?_
            refine ev_skip rfl ?_
            refine ev_q rfl (q_pickF rfl (by conv=>lhs;whnf) ?_)
            refine em rfl (by conv=>lhs;whnf) ?_
            refine ev_skip rfl ?_
            refine ev_skip rfl ?_
            refine ev_skip rfl ?_
            refine ev_q rfl (q_pickF rfl (by conv=>lhs;whnf) ?_)
            refine ea rfl (by conv=>lhs;whnf) ?_
            refine ev_nil (hK2 _ ?_); clear hK2
            refine good_ret ?_
            repeat first|refine thenQ_ret ?_|refine blockQ_ret ?_
            refine ret_tmp (st := _) rfl (by conv=>lhs;whnf) rfl ?_
            first | rfl | exact fT (by first | omega | grind) | exact fF (by first | omega | grind) | exact fT' (by first | omega | grind) | (exfalso; first | omega | grind)
          · first | replace hb7 := dT hb7 | skip
            refine ev_q rfl (q_pickT rfl (by conv=>lhs;whnf) ?_)
            refine em rfl (by conv=>lhs;whnf) ?_
            refine ev_q rfl (q_fieldAddrP fO95_4 rfl rfl ?_)
            refine ev_q rfl (q_load tA2 rfl ?_)
            refine ev_q rfl (q_callB rfl rfl (rfl) (D_impl_within ..) ?_)
            intro b8 hb8; cases b8
            · first | replace hb8 := dF hb8 | skip
              refine ev_q rfl (q_pickT rfl (by conv=>lhs;whnf) ?_)
              refine em rfl (by conv=>lhs;whnf) ?_
              refine ev_skip rfl ?_
              refine ev_skip rfl ?_
              refine ev_skip rfl ?_
              refine ev_q rfl (q_pickF rfl (by conv=>lhs;whnf) ?_)
              refine ea rfl (by conv=>lhs;whnf) ?_
              refine ev_nil (hK2 _ ?_); clear hK2
              refine good_ret ?_
              repeat first|refine thenQ_ret ?_|refine blockQ_ret ?_
              refine ret_tmp (st := _) rfl (by conv=>lhs;whnf) rfl ?_
              first | rfl | exact fT (by first | omega | grind) | exact fF (by first | omega | grind) | exact fT' (by first | omega | grind) | (exfalso; first | omega | grind)
            · first | replace hb8 := dT hb8 | skip
              refine ev_q rfl (q_pickT rfl (by conv=>lhs;whnf) ?_)
              refine em rfl (by conv=>lhs;whnf) ?_
              refine ev_q rfl (q_fieldAddrP fO95_5 rfl rfl ?_)
              refine ev_q rfl (q_load tA2 rfl ?_)
              refine ev_q rfl (q_callB rfl rfl (rfl) (D_impl_within ..) ?_)
              intro b9 hb9; cases b9
              · first | replace hb9 := dF hb9 | skip
                refine ev_q rfl (q_pickT rfl (by conv=>lhs;whnf) ?_)
                refine ea rfl (by conv=>lhs;whnf) ?_
                refine ev_nil (hK2 _ ?_); clear hK2
                refine good_ret ?_
                repeat first|refine thenQ_ret ?_|refine blockQ_ret ?_
                refine ret_tmp (st := _) rfl (by conv=>lhs;whnf) rfl ?_
                first | rfl | exact fT (by first | omega | grind) | exact fF (by first | omega | grind) | exact fT' (by first | omega | grind) | (exfalso; first | omega | grind)
              · first | replace hb9 := dT hb9 | skip
                refine ev_q rfl (q_pickT rfl (by conv=>lhs;whnf) ?_)
                refine ea rfl (by conv=>lhs;whnf) ?_
                refine ev_nil (hK2 _ ?_); clear hK2
                refine good_ret ?_
                repeat first|refine thenQ_ret ?_|refine blockQ_ret ?_
                refine ret_tmp (st := _) rfl (by conv=>lhs;whnf) rfl ?_
                first | rfl | exact fT (by first | omega | grind) | exact fF (by first | omega | grind) | exact fT' (by first | omega | grind) | (exfalso; first | omega | grind)

-- impl.allWithin$1
theorem D_impl_allWithin_1 (a lo hi : Int)  : Den Tryz.prog 82 [.s (.int .i64 a), .rp [.s (.int .i64 lo)], .rp [.s (.int .i64 hi)]] (.s (.bool (decide (¬ (lo ≤ a ∧ a ≤ hi))))) := by
  refine den_of_good Tryz.func82 (by decide) rfl (Nat.le_of_ble_eq_true rfl) (Nat.le_of_ble_eq_true rfl) ?_
  refine good_seq fun K1 hK1 => ?_
  refine gr rfl ?_
  refine ea rfl (by conv=>lhs;whnf) ?_
  refine ev_nil (hK1 _ ?_); clear hK1
  refine good_seq fun K2 hK2 => ?_
  refine gr rfl ?_
  refine em rfl (by conv=>lhs;whnf) ?_
  refine ev_q rfl (q_load tA2 rfl ?_)
  refine ev_q rfl (q_load tA2 rfl ?_)
  refine ev_q rfl (q_callB rfl rfl (rfl) (D_impl_within ..) ?_)
  intro b3 hb3; cases b3
  · first | replace hb3 := dF hb3 | skip
    refine ev_q rfl (q_not rfl rfl ?_)
    refine ea rfl (by conv=>lhs;whnf) ?_
    refine ev_nil (hK2 _ ?_); clear hK2
    refine good_ret ?_
    repeat first|refine thenQ_ret ?_|refine blockQ_ret ?_
    refine ret_tmp (st := _) rfl (by conv=>lhs;whnf) rfl ?_
    first | rfl | exact fT (by first | omega | grind) | exact fF (by first | omega | grind) | exact fT' (by first | omega | grind) | (exfalso; first | omega | grind)
  · first | replace hb3 := dT hb3 | skip
    refine ev_q rfl (q_not rfl rfl ?_)
    refine ea rfl (by conv=>lhs;whnf) ?_
    refine ev_nil (hK2 _ ?_); clear hK2
    refine good_ret ?_
    repeat first|refine thenQ_ret ?_|refine blockQ_ret ?_
    refine ret_tmp (st := _) rfl (by conv=>lhs;whnf) rfl ?_
    first | rfl | exact fT (by first | omega | grind) | exact fF (by first | omega | grind) | exact fT' (by first | omega | grind) | (exfalso; first | omega | grind)

-- slices.IndexFunc[[]int64,int64]
theorem D_slices_IndexFunc_int64_int64 (f : Nat) (caps : List AV) (p : Int → Prop) [DecidablePred p] (xs : List Int) (hx : xs.length ≤ 17592186044416) (hf : ∀ x ∈ xs, Den Tryz.prog f (.s (.int .i64 x) :: caps) (.s (.bool (decide (p x))))) : Den Tryz.prog 107 [.lst 1 (xs.map ci), .fn f caps] (.s (.int .i64 (fiM (fun x => decide (p x)) xs))) := by
  refine den_of_good Tryz.func107 (by decide) rfl (Nat.le_of_ble_eq_true rfl) (Nat.le_of_ble_eq_true rfl) ?_
  refine good_seq fun K1 hK1 => ?_
  refine gr rfl ?_
  refine ea rfl (by conv=>lhs;whnf) ?_
  refine ev_nil (hK1 _ ?_); clear hK1
  refine good_seq fun K2 hK2 => ?_
  refine good_seq fun K3 hK3 => ?_
  refine gr rfl ?_
  refine em rfl (by conv=>lhs;whnf) ?_
  refine ev_q rfl (q_len tEs22 rfl ?_)
  intro n4 hn4
  try simp only [List.length_map] at hn4
  refine em rfl (by conv=>lhs;whnf) ?_
  refine ev_nil (hK3 _ ?_); clear hK3
  refine good_block ?_
  refine good_loop (α := Nat) (fun i => { env := upd (upd (upd (upd ((fun _ => .junk)) 0 (.lst 1 (xs.map ci))) 1 (.fn f caps)) 7 (.s (.int .i64 ((xs.length : Int))))) 8 (.s (.int .i64 i)), H := fun _ => none }) (fun i => i ≤ xs.length ∧ ∀ j q, j < i → xs[j]? = some q → ¬ p q) (fun i => xs.length - i) 0 ?_ ?_ ?_
  · exact ⟨by omega, fun j u hj => by omega⟩
  · refine sub_weak ?_ ?_
    · exact weakH_none _
    · refine weakE_upd ?e8 ?r8 (weakE_upd ?e7 ?r7 (weakE_upd ?e1 ?r1 (weakE_upd ?e0 ?r0 (weakE_junk _ _))))
      case e0 => first | rfl | exact fI (by omega) | (simp_all)
      case r0 => intro h hh; cases hh
      case e1 => first | rfl | exact fI (by omega) | (simp_all)
      case r1 => intro h hh; cases hh
      case e7 => first | rfl | exact fI (by omega) | (simp_all)
      case r7 => intro h hh; cases hh
      case e8 => first | rfl | exact fI (by omega) | (simp_all)
      case r8 => intro h hh; cases hh
  · rintro i ⟨hI, hJ⟩
    refine good_seq fun K5 hK5 => ?_
    refine gr rfl ?_
    refine ei rfl rfl rfl ?_
    intro b6 hb6; cases b6
    · replace hb6 := dF hb6
      refine ev_nil (hK5 _ ?_); clear hK5
      refine good_seq fun K7 hK7 => ?_
      refine good_condF rfl ?_
      refine good_exit ?_
      repeat first|refine thenQ_exit ?_|refine blockQ_pass rfl ?_
      refine blockQ_exit (hK2 _ ?_); clear hK2
      refine good_seq fun K8 hK8 => ?_
      refine gr rfl ?_
      refine ea rfl (by conv=>lhs;whnf) ?_
      refine ev_nil (hK8 _ ?_); clear hK8
      refine good_ret ?_
      repeat first|refine thenQ_ret ?_|refine blockQ_ret ?_
      refine ret_tmp (st := _) rfl (by conv=>lhs;whnf) rfl ?_
      clear hK7
      first | exact fI (by have e := fi_some (i := i) hq hJ (by assumption); simp only [fiM, e]) | exact fI (by have e := fi_none (all_finI (Q := fun _ q => ¬ p q) hJ (by omega)); simp only [fiM, e])
    · replace hb6 := dT hb6
      obtain ⟨q, hq⟩ := getL (xs := xs) (n := (i : Int)) (by omega) (by omega)
      replace hq : xs[i]? = some q := hq
      refine ev_nil (hK5 _ ?_); clear hK5
      refine good_seq fun K9 hK9 => ?_
      refine good_condT rfl ?_
      refine good_skip (hK9 _ ?_); clear hK9
      refine good_seq fun K10 hK10 => ?_
      refine good_block ?_
      refine good_seq fun K11 hK11 => ?_
      refine gr rfl ?_
      refine em rfl (by conv=>lhs;whnf) ?_
      refine ea rfl (by conv=>lhs;whnf) ?_
      refine ev_nil (hK11 _ ?_); clear hK11
      refine good_seq fun K12 hK12 => ?_
      refine gr rfl ?_
      refine em rfl (by conv=>lhs;whnf) ?_
      refine em rfl (by conv=>lhs;whnf) ?_
      refine em rfl (by conv=>lhs;whnf) ?_
      refine ev_q rfl (q_idx tE22 rfl rfl (by exact Int.natCast_nonneg _) (by exact map_get hq) rfl ?_)
      refine ev_q rfl (q_load tA2 rfl ?_)
      refine ev_q rfl (q_callB rfl rfl (rfl) (hf _ (List.mem_of_getElem? hq)) ?_)
      intro b13 hb13; cases b13
      · first | replace hb13 := dF hb13 | skip
        refine ev_nil (hK12 _ ?_); clear hK12
        refine good_condF rfl ?_
        refine good_skip (hK10 _ ?_); clear hK10
        refine gr rfl ?_
        refine ei rfl rfl rfl ?_
        intro n14 hn14
        replace hn14 := in64 hn14 (by omega) (by omega)
        refine em rfl (by conv=>lhs;whnf) ?_
        refine ev_nil ?_
        clear hK2
        refine ⟨i + 1, ?_, ?_, ?_⟩
        · exact ⟨by omega, all_extI (Q := fun _ q => ¬ p q) hJ hq (by assumption)⟩
        · first | omega | (simp only []; omega) | (dsimp only; omega)
        · refine sub_weak ?_ ?_
          · exact weakH_none _
          · refine weakE_upd ?e8 ?r8 (weakE_upd ?e7 ?r7 (weakE_upd ?e1 ?r1 (weakE_upd ?e0 ?r0 (weakE_junk _ _))))
            case e0 => first | rfl | exact fI (by omega) | (simp_all)
            case r0 => intro h hh; cases hh
            case e1 => first | rfl | exact fI (by omega) | (simp_all)
            case r1 => intro h hh; cases hh
            case e7 => first | rfl | exact fI (by omega) | (simp_all)
            case r7 => intro h hh; cases hh
            case e8 => first | rfl | exact fI (by omega) | (simp_all)
            case r8 => intro h hh; cases hh
      · first | replace hb13 := dT hb13 | skip
        refine ev_nil (hK12 _ ?_); clear hK12
        refine good_condT rfl ?_
        refine good_seq fun K15 hK15 => ?_
        refine gr rfl ?_
        refine em rfl (by conv=>lhs;whnf) ?_
        refine ea rfl (by conv=>lhs;whnf) ?_
        refine ev_nil (hK15 _ ?_); clear hK15
        refine good_ret ?_
        repeat first|refine thenQ_ret ?_|refine blockQ_ret ?_
        refine ret_tmp (st := _) rfl (by conv=>lhs;whnf) rfl ?_
        clear hK2 hK10
        first | exact fI (by have e := fi_some (i := i) hq hJ (by assumption); simp only [fiM, e]) | exact fI (by have e := fi_none (all_finI (Q := fun _ q => ¬ p q) hJ (by omega)); simp only [fiM, e])

-- slices.ContainsFunc[[]int64,int64]
theorem D_slices_ContainsFunc_int64_int64 (f : Nat) (caps : List AV) (p : Int → Prop) [DecidablePred p] (xs : List Int) [Decidable (∃ x ∈ xs, p x)] (hx : xs.length ≤ 17592186044416) (hf : ∀ x ∈ xs, Den Tryz.prog f (.s (.int .i64 x) :: caps) (.s (.bool (decide (p x))))) : Den Tryz.prog 81 [.lst 1 (xs.map ci), .fn f caps] (.s (.bool (decide (∃ x ∈ xs, p x)))) := by
  refine den_of_good Tryz.func81 (by decide) rfl (Nat.le_of_ble_eq_true rfl) (Nat.le_of_ble_eq_true rfl) ?_
  refine good_seq fun K1 hK1 => ?_
  refine gr rfl ?_
  refine ea rfl (by conv=>lhs;whnf) ?_
  refine ev_nil (hK1 _ ?_); clear hK1
  refine good_seq fun K2 hK2 => ?_
  refine gr rfl ?_
  refine em rfl (by conv=>lhs;whnf) ?_
  refine em rfl (by conv=>lhs;whnf) ?_
  refine ev_q rfl (q_callI rfl rfl (rfl) (D_slices_IndexFunc_int64_int64 f caps p xs hx hf) ?_)
  intro n3 hn3
  refine ei rfl rfl rfl ?_
  intro b4 hb4; cases b4
  · replace hb4 := dF hb4
    refine ea rfl (by conv=>lhs;whnf) ?_
    refine ev_nil (hK2 _ ?_); clear hK2
    refine good_ret ?_
    repeat first|refine thenQ_ret ?_|refine blockQ_ret ?_
    refine ret_tmp (st := _) rfl (by conv=>lhs;whnf) rfl ?_
    first | exact fT (fi_any.1 (by omega)) | exact fF (fun h => absurd (fi_any.2 h) (by omega))
  · replace hb4 := dT hb4
    refine ea rfl (by conv=>lhs;whnf) ?_
    refine ev_nil (hK2 _ ?_); clear hK2
    refine good_ret ?_
    repeat first|refine thenQ_ret ?_|refine blockQ_ret ?_
    refine ret_tmp (st := _) rfl (by conv=>lhs;whnf) rfl ?_
    first | exact fT (fi_any.1 (by omega)) | exact fF (fun h => absurd (fi_any.2 h) (by omega))

-- impl.allWithin
theorem D_impl_allWithin (xs : List Int) (lo hi : Int) (hx : xs.length ≤ 17592186044416) : Den Tryz.prog 42 [.lst 1 (xs.map ci), .s (.int .i64 lo), .s (.int .i64 hi)] (.s (.bool (decide (within xs lo hi)))) := by
  classical
  refine den_of_good Tryz.func42 (by decide) rfl (Nat.le_of_ble_eq_true rfl) (Nat.le_of_ble_eq_true rfl) ?_
  refine good_seq fun K1 hK1 => ?_
  refine gr rfl ?_
  refine ev_k rfl (k_box (by conv=>lhs;whnf) rfl rfl rfl ?_)
  refine ev_k rfl (k_box (by conv=>lhs;whnf) rfl rfl rfl ?_)
  refine ea rfl (by conv=>lhs;whnf) ?_
  refine ev_nil (hK1 _ ?_); clear hK1
  refine good_seq fun K2 hK2 => ?_
  refine gr rfl ?_
  refine em rfl (by conv=>lhs;whnf) ?_
  refine ev_q rfl (q_clo rfl rfl ?_)
  refine ev_q rfl (q_callB rfl rfl (rfl) (D_slices_ContainsFunc_int64_int64 _ _ (fun x => ¬ (lo ≤ x ∧ x ≤ hi)) xs hx (fun x _ => D_impl_allWithin_1 x lo hi)) ?_)
  intro b3 hb3; cases b3
  · first | replace hb3 := dF hb3 | skip
    refine ev_q rfl (q_not rfl rfl ?_)
    refine ea rfl (by conv=>lhs;whnf) ?_
    refine ev_nil (hK2 _ ?_); clear hK2
    refine good_ret ?_
    repeat first|refine thenQ_ret ?_|refine blockQ_ret ?_
    refine ret_tmp (st := _) rfl (by conv=>lhs;whnf) rfl ?_
    first | exact fT (within_any.2 (by assumption)) | exact fF (fun h => absurd (within_any.1 h) (by simpa using ‹∃ x ∈ xs, ¬ (lo ≤ x ∧ x ≤ hi)›))
  · first | replace hb3 := dT hb3 | skip
    refine ev_q rfl (q_not rfl rfl ?_)
    refine ea rfl (by conv=>lhs;whnf) ?_
    refine ev_nil (hK2 _ ?_); clear hK2
    refine good_ret ?_
    repeat first|refine thenQ_ret ?_|refine blockQ_ret ?_
    refine ret_tmp (st := _) rfl (by conv=>lhs;whnf) rfl ?_
    first | exact fT (within_any.2 (by assumption)) | exact fF (fun h => absurd (within_any.1 h) (by simpa using ‹∃ x ∈ xs, ¬ (lo ≤ x ∧ x ≤ hi)›))

end Go.Proofs.YtkgnbjgnddfojaaGreat.DFnBoiling
