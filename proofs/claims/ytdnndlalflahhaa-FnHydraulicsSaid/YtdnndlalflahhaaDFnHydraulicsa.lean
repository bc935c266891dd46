/- Walks through the functions that FnHydraulics reaches: what each answers. -/
import Derived.Test.YtdnndlalflahhaaEvO
import Derived.Test.YtdnndlalflahhaaProg
import Derived.Test.YtdnndlalflahhaaEv1
import Derived.Test.YtdnndlalflahhaaEvS
import Derived.Test.YtdnndlalflahhaaPlain
set_option linter.unusedVariables false
set_option linter.unusedSimpArgs false
set_option maxRecDepth 20000
set_option maxHeartbeats 2000000
namespace Go.Proofs.Ytdnndlalflahhaa.DFnHydraulics
open Go Go.RowKit Go.Proofs Go.Proofs.Ytdnndlalflahhaa Go.Proofs.Ytdnndlalflahhaa.Ev
def ci (n : Int) : AV := .s (.int .i64 n)
def within (xs : List Int) (lo hi : Int) : Prop := ∀ (j : Nat) (q : Int), xs[j]? = some q → lo ≤ q ∧ q ≤ hi
noncomputable instance (xs : List Int) (lo hi : Int) : Decidable (within xs lo hi) := Classical.propDecidable _
theorem all_extI {α : Type} {xs : List α} {i : Nat} {Q : Nat → α → Prop} {p : α} (hJ : ∀ j q, j < i → xs[j]? = some q → Q j q) (hp : xs[i]? = some p) (h : Q i p) : ∀ j q, j < i + 1 → xs[j]? = some q → Q j q := by
  intro j q hj hq
  by_cases e : j = i
  · subst e; rw [hp] at hq; cases hq; exact h
  · exact hJ j q (by omega) hq
theorem all_finI {α : Type} {xs : List α} {i : Nat} {Q : Nat → α → Prop} (hJ : ∀ j q, j < i → xs[j]? = some q → Q j q) (hi : xs.length ≤ i) : ∀ j q, xs[j]? = some q → Q j q := by
  intro j q hq
  exact hJ j q (by have := (List.getElem?_eq_some_iff.1 hq).1; omega) hq
def fiM {α : Type} (f : α → Bool) (xs : List α) : Int := match xs.findIdx? f with
  | some j => (j : Int)
  | none => -1
theorem fi_some {α : Type} {xs : List α} {p : α → Prop} [DecidablePred p] {i : Nat} {q : α} (hq : xs[i]? = some q) (hJ : ∀ (j : Nat) (q : α), j < i → xs[j]? = some q → ¬ p q) (h : p q) : xs.findIdx? (fun x => decide (p x)) = some i := by
  rw [List.findIdx?_eq_some_iff_getElem]
  obtain ⟨hl, he⟩ := List.getElem?_eq_some_iff.1 hq
  refine ⟨hl, by simpa [he] using h, fun j hj => ?_⟩
  simpa using hJ j _ hj (List.getElem?_eq_getElem (by omega))
theorem fi_none {α : Type} {xs : List α} {p : α → Prop} [DecidablePred p] (hJ : ∀ (j : Nat) (q : α), xs[j]? = some q → ¬ p q) : xs.findIdx? (fun x => decide (p x)) = none := by
  rw [List.findIdx?_eq_none_iff]
  intro x hx
  obtain ⟨j, hj⟩ := List.getElem?_of_mem hx
  simpa using hJ j x hj
theorem fi_any {α : Type} {xs : List α} {p : α → Prop} [DecidablePred p] : (0 : Int) ≤ fiM (fun x => decide (p x)) xs ↔ ∃ x ∈ xs, p x := by
  unfold fiM
  cases h : xs.findIdx? (fun x => decide (p x)) with
  | none =>
    rw [List.findIdx?_eq_none_iff] at h
    simp at h ⊢
    exact h
  | some j =>
    rw [List.findIdx?_eq_some_iff_getElem] at h
    obtain ⟨hl, h1, _⟩ := h
    simp only [Int.natCast_nonneg, true_iff]
    exact ⟨_, List.getElem_mem hl, by simpa using h1⟩
theorem within_any {xs : List Int} {lo hi : Int} : within xs lo hi ↔ ¬ ∃ x ∈ xs, ¬ (lo ≤ x ∧ x ≤ hi) := by
  constructor
  · intro h ⟨x, hx, hn⟩
    obtain ⟨j, hj⟩ := List.getElem?_of_mem hx
    exact hn (h j x hj)
  · intro h j q hq
    apply Classical.byContradiction
    intro hn
    exact h ⟨q, List.mem_of_getElem? hq, hn⟩
def small (u : UInt8) : Bool := decide (97 ≤ u.toNat ∧ u.toNat ≤ 122)
def digit (u : UInt8) : Bool := decide (48 ≤ u.toNat ∧ u.toNat ≤ 57)
def nbc (u : UInt8) : Bool := small u || digit u
def allNb (s : ByteArray) : Bool := s.data.all nbc
def head1 (s : ByteArray) : Bool := match s[0]? with
  | some u => small u
  | none => false
def isName (s : ByteArray) : Bool := decide (1 ≤ s.size) && decide (s.size ≤ 10) && head1 s && allNb s
theorem getB {s : ByteArray} {i : Nat} (h : i < s.size) : ∃ u, s[i]? = some u := ⟨s[i], by simp [h]⟩
theorem allNb_T {s : ByteArray} (h : ∀ j u, j < s.size → s[j]? = some u → nbc u = true) : allNb s = true := by
  unfold allNb
  rw [Array.all_eq_true]
  intro i hi
  exact h i _ hi (getElem?_pos s i hi)
theorem allNb_F {s : ByteArray} {j : Nat} {u : UInt8} (h : s[j]? = some u) (hn : nbc u = false) : allNb s = false := by
  have hj : j < s.size := by
    apply Classical.byContradiction; intro hc
    rw [getElem?_neg s j hc] at h; cases h
  unfold allNb
  rw [Array.all_eq_false]
  refine ⟨j, hj, ?_⟩
  rw [getElem?_pos s j hj] at h
  cases h
  intro hc
  have hc2 : nbc s[j] = true := hc
  rw [hn] at hc2; cases hc2
theorem isName_long {s : ByteArray} (h : ¬ s.size ≤ 10) : isName s = false := by simp [isName, h]
theorem isName_none {s : ByteArray} (h : s.size = 0) : isName s = false := by simp [isName, h]
theorem isName_head {s : ByteArray} {u : UInt8} (h : s[0]? = some u) (hn : small u = false) : isName s = false := by simp [isName, head1, h, hn]
theorem isName_eq {s : ByteArray} {u : UInt8} (h1 : 1 ≤ s.size) (h2 : s.size ≤ 10) (h : s[0]? = some u) (hn : small u = true) : isName s = allNb s := by simp [isName, head1, h, hn, h1, h2]
theorem fB {b c : Bool} (h : b = c) : AV.s (.bool b) = .s (.bool c) := by rw [h]
theorem bytesLess_tri : ∀ (x y : List UInt8), Op.bytesLess x y = false ↔ (Op.bytesLess y x = true ∨ y = x)
  | [], [] => by simp [Op.bytesLess]
  | [], _ :: _ => by simp [Op.bytesLess]
  | _ :: _, [] => by simp [Op.bytesLess]
  | a :: x, b :: y => by
    have ih := bytesLess_tri x y
    have e1 : (a = b) ↔ a.toNat = b.toNat := ⟨fun h => by rw [h], fun h => UInt8.toNat_inj.1 h⟩
    have e2 : a < b ↔ a.toNat < b.toNat := UInt8.lt_iff_toNat_lt
    have e3 : b < a ↔ b.toNat < a.toNat := UInt8.lt_iff_toNat_lt
    by_cases h : a = b
    · subst h; simp [Op.bytesLess, ih]
    · have l : Op.bytesLess (a :: x) (b :: y) = decide (a < b) := by simp [Op.bytesLess, h]
      have r : Op.bytesLess (b :: y) (a :: x) = decide (b < a) := by simp [Op.bytesLess, Ne.symm h]
      have hn : ¬ a.toNat = b.toNat := fun e => h (e1.2 e)
      have hc : ¬ (b :: y = a :: x) := fun e => h (List.cons.inj e).1.symm
      rw [l, r]
      simp only [decide_eq_false_iff_not, decide_eq_true_eq, e2, e3, hc, or_false]
      omega
def idLt (x y : ByteArray) : Prop := Op.bytesLess x.toList y.toList = true
theorem all_extS {α : Type} {xs : List α} {i : Nat} {Q : Nat → α → Prop} {p : α} (hJ : ∀ j q, j < i → xs[j]? = some q → Q j q) (hp : xs[i]? = some p) (h : Q i p) : ∀ j q, j < i + 1 → xs[j]? = some q → Q j q := by
  intro j q hj hq
  by_cases e : j = i
  · subst e; rw [hp] at hq; cases hq; exact h
  · exact hJ j q (by omega) hq
theorem all_finS {α : Type} {xs : List α} {i : Nat} {Q : Nat → α → Prop} (hJ : ∀ j q, j < i → xs[j]? = some q → Q j q) (hi : xs.length ≤ i) : ∀ j q, xs[j]? = some q → Q j q := by
  intro j q hq
  exact hJ j q (by have := (List.getElem?_eq_some_iff.1 hq).1; omega) hq
theorem lt_le {x y : ByteArray} (h : false = (Op.bytesLess y.toList x.toList || y.toList == x.toList)) : idLt x y := by
  unfold idLt
  cases e : Op.bytesLess x.toList y.toList with
  | true => rfl
  | false =>
    have := (bytesLess_tri _ _).1 e
    rcases this with h1 | h1
    · rw [h1] at h; simp at h
    · rw [h1] at h; simp at h
theorem nlt_le {x y : ByteArray} (h : true = (Op.bytesLess y.toList x.toList || y.toList == x.toList)) : ¬ idLt x y := by
  unfold idLt
  intro e
  have : Op.bytesLess x.toList y.toList = false := (bytesLess_tri _ _).2 (by have h2 := h.symm; simp only [Bool.or_eq_true, beq_iff_eq] at h2; exact h2)
  rw [this] at e; cases e
structure Pi where
  id : ByteArray
  fm : Int
  tt : Int
  le : Int
  di : Int
  lo : Int
def piA (x : Pi) : AV := .agg [.s (.string x.id), .s (.int .i64 x.fm), .s (.int .i64 x.tt), .s (.int .i64 x.le), .s (.int .i64 x.di), .s (.int .i64 x.lo)]
def piOk (x : Pi) : Prop := isName x.id = true ∧ (0 ≤ x.fm ∧ x.fm ≤ 15) ∧ (0 ≤ x.tt ∧ x.tt ≤ 15) ∧ ¬ x.fm = x.tt ∧ (1 ≤ x.le ∧ x.le ≤ 10000) ∧ (20 ≤ x.di ∧ x.di ≤ 1000) ∧ (0 ≤ x.lo ∧ x.lo ≤ 5000)
def piAt (ns : List Int) (ps : List Pi) (j : Nat) (x : Pi) : Prop := (piOk x ∧ x.fm < ns.length ∧ x.tt < ns.length) ∧ ∀ y, 0 < j → ps[j - 1]? = some y → idLt y.id x.id
def netOk (ns : List Int) (ps : List Pi) : Prop := ((1 ≤ ns.length ∧ ns.length ≤ 16) ∧ within ns (-100000) 100000 ∧ ps.length ≤ 20) ∧ ∀ (j : Nat) (x : Pi), ps[j]? = some x → piAt ns ps j x
noncomputable instance (ns : List Int) (ps : List Pi) : Decidable (netOk ns ps) := Classical.propDecidable _
theorem net_no {ns : List Int} {ps : List Pi} {i : Nat} {p : Pi} (h : ps[i]? = some p) (hn : ¬ piAt ns ps i p) : ¬ netOk ns ps := fun ⟨_, h2⟩ => hn (h2 i p h)
def idSz (ps : List Pi) : Prop := ∀ (j : Nat) (x : Pi), ps[j]? = some x → x.id.size ≤ 140737488351232
inductive Conn (es : List (Nat × Nat)) : Nat → Nat → Prop
  | rfl (u : Nat) : Conn es u u
  | step {u v w : Nat} : Conn es u v → ((v, w) ∈ es ∨ (w, v) ∈ es) → Conn es u w
theorem Conn.trans {es : List (Nat × Nat)} {u v w : Nat} (h : Conn es u v) (k : Conn es v w) : Conn es u w := by
  induction k with
  | rfl => exact h
  | step _ e ih => exact .step ih e
theorem Conn.symm {es : List (Nat × Nat)} {u v : Nat} (h : Conn es u v) : Conn es v u := by
  induction h with
  | rfl => exact .rfl _
  | step _ e ih => exact Conn.trans (.step (.rfl _) e.symm) ih
theorem Conn.mono {es fs : List (Nat × Nat)} (hs : ∀ e ∈ es, e ∈ fs) {u v : Nat} (h : Conn es u v) : Conn fs u v := by
  induction h with
  | rfl => exact .rfl _
  | step _ e ih => exact .step ih (e.imp (hs _) (hs _))
def nxt (e : Nat × Nat) (u : Nat) : Option Nat := if u = e.1 then some e.2 else if u = e.2 then some e.1 else none
def bfE (u : Nat) (ks : List Nat) (e : Nat × Nat) : List Nat := match nxt e u with
  | some v => if v ∈ ks then ks else ks ++ [v]
  | none => ks
def bfI (es : List (Nat × Nat)) (u : Nat) (ks : List Nat) : List Nat := es.foldl (bfE u) ks
def bfO (es : List (Nat × Nat)) : Nat → Nat → List Nat → List Nat
  | 0, _, ks => ks
  | f + 1, k, ks => match ks[k]? with
    | some u => bfO es f (k + 1) (bfI es u ks)
    | none => ks
theorem nxt_edge {e : Nat × Nat} {u v : Nat} (h : nxt e u = some v) : (u, v) = e ∨ (v, u) = e := by
  unfold nxt at h
  split at h
  · cases h; left; rename_i c; rw [c]
  · split at h
    · cases h; right; rename_i c; rw [c]
    · cases h
structure Inv (es : List (Nat × Nat)) (n s : Nat) (ks : List Nat) : Prop where
  nd : ks.Nodup
  lt : ∀ v ∈ ks, v < n
  cn : ∀ v ∈ ks, Conn es s v
  st : s ∈ ks
theorem bfE_pre {u : Nat} {ks : List Nat} {e : Nat × Nat} : ∃ t, bfE u ks e = ks ++ t := by
  unfold bfE
  split
  · split
    · exact ⟨[], by simp⟩
    · exact ⟨_, rfl⟩
  · exact ⟨[], by simp⟩
theorem bfI_pre {u : Nat} : ∀ (es : List (Nat × Nat)) (ks : List Nat), ∃ t, bfI es u ks = ks ++ t
  | [], ks => ⟨[], by simp [bfI]⟩
  | e :: es, ks => by
    obtain ⟨t, ht⟩ := bfE_pre (u := u) (ks := ks) (e := e)
    obtain ⟨r, hr⟩ := bfI_pre (u := u) es (ks ++ t)
    refine ⟨t ++ r, ?_⟩
    show bfI es u (bfE u ks e) = _
    rw [ht, hr, List.append_assoc]
theorem bfE_inv {es : List (Nat × Nat)} {n s u : Nat} {ks : List Nat} {e : Nat × Nat} (hr : e.1 < n ∧ e.2 < n) (he : e ∈ es) (hu : u ∈ ks) (h : Inv es n s ks) : Inv es n s (bfE u ks e) := by
  unfold bfE
  split
  · rename_i v hv
    split
    · exact h
    · rename_i hn
      have hc : Conn es s v := .step (h.cn u hu) (by
        rcases nxt_edge hv with c | c
        · left; rw [c]; exact he
        · right; rw [c]; exact he)
      have hlt : v < n := by
        rcases nxt_edge hv with c | c
        · rw [← c] at hr; exact hr.2
        · rw [← c] at hr; exact hr.1
      refine ⟨?_, fun w hw => ?_, fun w hw => ?_, List.mem_append_left _ h.st⟩
      · rw [List.nodup_append]
        refine ⟨h.nd, by simp, fun a ha b hb => ?_⟩
        simp at hb; subst hb
        intro k; subst k; exact hn ha
      · rcases List.mem_append.1 hw with c | c
        · exact h.lt w c
        · simp at c; subst c; exact hlt
      · rcases List.mem_append.1 hw with c | c
        · exact h.cn w c
        · simp at c; subst c; exact hc
  · exact h
theorem bfI_inv {es : List (Nat × Nat)} {n s u : Nat} (hr : ∀ e ∈ es, e.1 < n ∧ e.2 < n) : ∀ (fs : List (Nat × Nat)) (ks : List Nat), (∀ e ∈ fs, e ∈ es) → u ∈ ks → Inv es n s ks → Inv es n s (bfI fs u ks)
  | [], ks, _, _, h => h
  | e :: fs, ks, hf, hu, h => by
    obtain ⟨t, ht⟩ := bfE_pre (u := u) (ks := ks) (e := e)
    have he := hf e List.mem_cons_self
    exact bfI_inv hr fs (bfE u ks e) (fun x hx => hf x (List.mem_cons_of_mem _ hx)) (by rw [ht]; exact List.mem_append_left _ hu) (bfE_inv (hr e he) he hu h)
theorem bfI_closed {u : Nat} : ∀ (es : List (Nat × Nat)) (ks : List Nat) (e : Nat × Nat) (v : Nat), e ∈ es → nxt e u = some v → v ∈ bfI es u ks
  | x :: es, ks, e, v, he, hv => by
    show v ∈ bfI es u (bfE u ks x)
    rcases List.mem_cons.1 he with c | c
    · subst c
      obtain ⟨t, ht⟩ := bfI_pre (u := u) es (bfE u ks e)
      rw [ht]
      refine List.mem_append_left _ ?_
      unfold bfE
      rw [hv]
      simp only
      split
      · assumption
      · simp
    · exact bfI_closed es _ e v c hv
theorem len_le {n : Nat} : ∀ (ks : List Nat), ks.Nodup → (∀ v ∈ ks, v < n) → ks.length ≤ n := by
  induction n with
  | zero =>
    intro ks _ h
    cases ks with
    | nil => simp
    | cons v _ => exact absurd (h v List.mem_cons_self) (by omega)
  | succ n ih =>
    intro ks hd h
    have h1 := ih (ks.erase n) (hd.erase n) (fun v hv => by
      have := h v (List.mem_of_mem_erase hv)
      have : v ≠ n := fun c => by subst c; exact (List.Nodup.not_mem_erase hd) hv
      omega)
    have := List.length_erase (a := n) (l := ks)
    by_cases c : n ∈ ks
    · rw [if_pos (by simpa using c)] at this; omega
    · rw [if_neg (by simpa using c)] at this; omega
def Cl (es : List (Nat × Nat)) (k : Nat) (ks : List Nat) : Prop := ∀ (j u : Nat), j < k → ks[j]? = some u → ∀ e ∈ es, ∀ v, nxt e u = some v → v ∈ ks
theorem Cl.next {es : List (Nat × Nat)} {k u : Nat} {ks : List Nat} (h : Cl es k ks) (hu : ks[k]? = some u) : Cl es (k + 1) (bfI es u ks) := by
  intro j w hj hw e he v hv
  obtain ⟨t, ht⟩ := bfI_pre (u := u) es ks
  by_cases c : j = k
  · subst c
    have hl := (List.getElem?_eq_some_iff.1 hu).1
    rw [ht, List.getElem?_append_left hl, hu] at hw
    cases hw
    exact bfI_closed es ks e v he hv
  · have hl := (List.getElem?_eq_some_iff.1 hu).1
    rw [ht, List.getElem?_append_left (by omega)] at hw
    rw [ht]
    exact List.mem_append_left _ (h j w (by omega) hw e he v hv)
theorem bfO_spec {es : List (Nat × Nat)} {n s : Nat} (hr : ∀ e ∈ es, e.1 < n ∧ e.2 < n) : ∀ (f k : Nat) (ks : List Nat), Inv es n s ks → Cl es k ks → n ≤ k + f → Inv es n s (bfO es f k ks) ∧ (∀ u ∈ bfO es f k ks, ∀ e ∈ es, ∀ v, nxt e u = some v → v ∈ bfO es f k ks)
  | 0, k, ks, h, hc, hf => ⟨h, fun u hu e he v hv => by
      replace hu : u ∈ ks := hu
      show v ∈ ks
      obtain ⟨j, hj⟩ := List.getElem?_of_mem hu
      have hl := len_le ks h.nd h.lt
      exact hc j u (by have := (List.getElem?_eq_some_iff.1 hj).1; omega) hj e he v hv⟩
  | f + 1, k, ks, h, hc, hf => by
    unfold bfO
    cases hk : ks[k]? with
    | none =>
      refine ⟨h, fun u hu e he v hv => ?_⟩
      replace hu : u ∈ ks := hu
      show v ∈ ks
      obtain ⟨j, hj⟩ := List.getElem?_of_mem hu
      have : ks.length ≤ k := List.getElem?_eq_none_iff.1 hk
      exact hc j u (by have := (List.getElem?_eq_some_iff.1 hj).1; omega) hj e he v hv
    | some u =>
      exact bfO_spec hr f (k + 1) (bfI es u ks) (bfI_inv hr es ks (fun _ h => h) (List.mem_of_getElem? hk) h) (hc.next hk) (by omega)
def found (es : List (Nat × Nat)) (n s : Nat) : List Nat := bfO es n 0 [s]
theorem found_inv {es : List (Nat × Nat)} {n s : Nat} (hr : ∀ e ∈ es, e.1 < n ∧ e.2 < n) (hs : s < n) : Inv es n s (found es n s) ∧ (∀ v, v ∈ found es n s ↔ Conn es s v) := by
  have h := bfO_spec hr n 0 [s] ⟨by simp, fun v hv => by simp at hv; subst hv; exact hs, fun v hv => by simp at hv; subst hv; exact .rfl _, by simp⟩ (fun j u hj => by omega) (by omega)
  refine ⟨h.1, fun v => ⟨h.1.cn v, fun hc => ?_⟩⟩
  show v ∈ bfO es n 0 [s]
  induction hc with
  | rfl => exact h.1.st
  | @step u w _ e ih =>
    have ih := ih
    rcases e with e | e
    · refine h.2 u ih _ e w ?_
      unfold nxt; simp
    · refine h.2 u ih _ e w ?_
      unfold nxt
      by_cases c : u = w
      · subst c; simp
      · rw [if_neg c]; simp
theorem found_len {es : List (Nat × Nat)} {n s : Nat} (hr : ∀ e ∈ es, e.1 < n ∧ e.2 < n) (hs : s < n) : (found es n s).length = n ↔ ∀ v, v < n → Conn es s v := by
  have h := found_inv hr hs
  have hl := len_le (n := n) _ h.1.nd h.1.lt
  constructor
  · intro e v hv
    refine (h.2 v).1 ?_
    apply Classical.byContradiction
    intro hn
    have := len_le (n := n) (v :: found es n s) (List.nodup_cons.2 ⟨hn, h.1.nd⟩) (fun w hw => by
      rcases List.mem_cons.1 hw with c | c
      · subst c; exact hv
      · exact h.1.lt w c)
    simp at this; omega
  · intro hc
    have key : ∀ m : Nat, m ≤ n → ∀ ks : List Nat, ks.Nodup → (∀ v, v < m → v ∈ ks) → m ≤ ks.length := by
      intro m
      induction m with
      | zero => intro _ ks _ _; omega
      | succ m ih =>
        intro hm ks hd hk
        have hmem := hk m (by omega)
        have := ih (by omega) (ks.erase m) (hd.erase m) (fun v hv => (List.mem_erase_of_ne (by omega)).2 (hk v (by omega)))
        rw [List.length_erase_of_mem hmem] at this
        have := List.length_pos_of_mem hmem
        omega
    have := key n (Nat.le_refl _) _ h.1.nd (fun v hv => (h.2 v).2 (hc v hv))
    omega
def wyE (u i : Nat) (st : List Nat × List (Nat × Nat × Nat)) (e : Nat × Nat) : List Nat × List (Nat × Nat × Nat) := match nxt e u with
  | some v => if v ∈ st.1 then st else (st.1 ++ [v], st.2 ++ [(v, u, i)])
  | none => st
def wyI (u : Nat) : List (Nat × Nat) → Nat → List Nat × List (Nat × Nat × Nat) → List Nat × List (Nat × Nat × Nat)
  | [], _, st => st
  | e :: es, i, st => wyI u es (i + 1) (wyE u i st e)
def wyO (es : List (Nat × Nat)) : Nat → Nat → List Nat × List (Nat × Nat × Nat) → List Nat × List (Nat × Nat × Nat)
  | 0, _, st => st
  | f + 1, k, st => match st.1[k]? with
    | some u => wyO es f (k + 1) (wyI u es 0 st)
    | none => st
theorem wyE_1 {u i : Nat} {st : List Nat × List (Nat × Nat × Nat)} {e : Nat × Nat} : (wyE u i st e).1 = bfE u st.1 e := by
  unfold wyE bfE
  split
  · split <;> rfl
  · rfl
theorem wyI_1 {u : Nat} : ∀ (es : List (Nat × Nat)) (i : Nat) (st : List Nat × List (Nat × Nat × Nat)), (wyI u es i st).1 = bfI es u st.1
  | [], _, _ => rfl
  | e :: es, i, st => by
    show (wyI u es (i + 1) (wyE u i st e)).1 = bfI es u (bfE u st.1 e)
    rw [wyI_1 es, wyE_1]
theorem wyO_1 {es : List (Nat × Nat)} : ∀ (f k : Nat) (st : List Nat × List (Nat × Nat × Nat)), (wyO es f k st).1 = bfO es f k st.1
  | 0, _, _ => rfl
  | f + 1, k, st => by
    unfold wyO bfO
    cases st.1[k]? with
    | none => rfl
    | some u =>
      show (wyO es f (k + 1) (wyI u es 0 st)).1 = bfO es f (k + 1) (bfI es u st.1)
      rw [wyO_1 f, wyI_1]
structure WInv (es : List (Nat × Nat)) (s : Nat) (st : List Nat × List (Nat × Nat × Nat)) : Prop where
  hd : st.1 = s :: st.2.map fun w => w.1
  ed : ∀ w ∈ st.2, ∃ e, es[w.2.2]? = some e ∧ nxt e w.2.1 = some w.1 ∧ w.2.1 ∈ st.1
theorem wyE_inv {es : List (Nat × Nat)} {s u i : Nat} {st : List Nat × List (Nat × Nat × Nat)} {e : Nat × Nat} (he : es[i]? = some e) (hu : u ∈ st.1) (h : WInv es s st) : WInv es s (wyE u i st e) := by
  unfold wyE
  split
  · rename_i v hv
    split
    · exact h
    · refine ⟨?_, fun w hw => ?_⟩
      · show st.1 ++ [v] = s :: (st.2 ++ [(v, u, i)]).map _
        rw [List.map_append, ← List.cons_append, ← h.hd]; rfl
      · rcases List.mem_append.1 hw with c | c
        · obtain ⟨e, a, b, d⟩ := h.ed w c
          exact ⟨e, a, b, List.mem_append_left _ d⟩
        · simp at c; subst c
          exact ⟨e, he, hv, List.mem_append_left _ hu⟩
  · exact h
def waysF (es : List (Nat × Nat)) (n s : Nat) : List Nat × List (Nat × Nat × Nat) := wyO es n 0 ([s], [])
theorem waysF_1 {es : List (Nat × Nat)} {n s : Nat} : (waysF es n s).1 = found es n s := wyO_1 n 0 ([s], [])
def pe (p : Pi) : Nat × Nat := (p.fm.toNat, p.tt.toNat)
def toI (ks : List Nat) : List Int := ks.map (fun (v : Nat) => (v : Int))
theorem toI_len {ks : List Nat} : (toI ks).length = ks.length := by simp [toI]
theorem toI_get {ks : List Nat} {k u : Nat} (h : ks[k]? = some u) : ((toI ks).map ci)[((k : Nat) : Int).toNat]? = some (ci (u : Int)) := by
  have e : (((k : Nat) : Int)).toNat = k := rfl
  rw [e]; unfold toI
  rw [List.getElem?_map, List.getElem?_map, h]; rfl
theorem toI_mem {ks : List Nat} {x : Int} (h0 : 0 ≤ x) : x ∈ toI ks ↔ x.toNat ∈ ks := by
  unfold toI
  rw [List.mem_map]
  constructor
  · rintro ⟨v, hv, rfl⟩; simpa using hv
  · intro h; exact ⟨x.toNat, h, by omega⟩
theorem toI_app {ks : List Nat} {x : Int} (h0 : 0 ≤ x) : (toI ks).map ci ++ [ci x] = (toI (ks ++ [x.toNat])).map ci := by
  unfold toI
  rw [List.map_append, List.map_append]
  have : ((x.toNat : Nat) : Int) = x := by omega
  simp [this]
def oth (fm tt k : Int) : Int := if k = fm then tt else if k = tt then fm else 0
theorem oth_y {p : Pi} {u : Nat} (h1 : 0 ≤ p.fm) (h2 : 0 ≤ p.tt) (h : (u : Int) = p.fm ∨ (u : Int) = p.tt) : nxt (pe p) u = some (oth p.fm p.tt u).toNat ∧ 0 ≤ oth p.fm p.tt u := by
  unfold nxt pe oth
  by_cases c : (u : Int) = p.fm
  · rw [if_pos c, if_pos (show u = p.fm.toNat by omega)]; exact ⟨rfl, h2⟩
  · rw [if_neg c, if_neg (show ¬ u = p.fm.toNat by omega)]
    have d : (u : Int) = p.tt := by omega
    rw [if_pos d, if_pos (show u = p.tt.toNat by omega)]; exact ⟨rfl, h1⟩
theorem oth_n {p : Pi} {u : Nat} (h1 : 0 ≤ p.fm) (h2 : 0 ≤ p.tt) (h : ¬ ((u : Int) = p.fm ∨ (u : Int) = p.tt)) : nxt (pe p) u = none := by
  unfold nxt pe
  rw [if_neg (show ¬ u = p.fm.toNat by omega), if_neg (show ¬ u = p.tt.toNat by omega)]
theorem bfE_F {e : Nat × Nat} {u : Nat} {v : List Nat} (h : nxt e u = none) : bfE u v e = v := by unfold bfE; rw [h]
theorem bfE_M {e : Nat × Nat} {u x : Nat} {v : List Nat} (h : nxt e u = some x) (hm : x ∈ v) : bfE u v e = v := by unfold bfE; rw [h]; exact if_pos hm
theorem bfE_T {e : Nat × Nat} {u x : Nat} {v : List Nat} (h : nxt e u = some x) (hm : ¬ x ∈ v) : bfE u v e = v ++ [x] := by unfold bfE; rw [h]; exact if_neg hm
theorem bfI_d {ps : List Pi} {i u : Nat} {p : Pi} {v : List Nat} (h : ps[i]? = some p) : bfI ((ps.map pe).drop i) u v = bfI ((ps.map pe).drop (i + 1)) u (bfE u v (pe p)) := by
  have hl := (List.getElem?_eq_some_iff.1 h).1
  have hg : (ps.map pe)[i]'(by simpa using hl) = pe p := by
    have := (List.getElem?_eq_some_iff.1 h).2
    simp [this]
  rw [List.drop_eq_getElem_cons (by simpa using hl), hg]; rfl
theorem bfI_end {ps : List Pi} {i u : Nat} {v : List Nat} (h : ps.length ≤ i) : bfI ((ps.map pe).drop i) u v = v := by
  rw [List.drop_of_length_le (by simpa using h)]; rfl
theorem bfO_s {es : List (Nat × Nat)} {n k u : Nat} {w : List Nat} (h : w[k]? = some u) (hk : k < n) : bfO es (n - k) k w = bfO es (n - (k + 1)) (k + 1) (bfI es u w) := by
  have e : n - k = (n - (k + 1)) + 1 := by omega
  rw [e]
  show (match w[k]? with | some u => _ | none => _) = _
  rw [h]
theorem bfO_e {es : List (Nat × Nat)} {k f : Nat} {w : List Nat} (h : w.length ≤ k) : bfO es f k w = w := by
  cases f with
  | zero => rfl
  | succ f =>
    show (match w[k]? with | some u => _ | none => _) = _
    rw [List.getElem?_eq_none h]
theorem esF_lt {ns : List Int} {ps : List Pi} (h : netOk ns ps) : ∀ e ∈ ps.map pe, e.1 < ns.length ∧ e.2 < ns.length := fun e he => by
  obtain ⟨p, hp, rfl⟩ := List.mem_map.1 he
  obtain ⟨j, hj⟩ := List.getElem?_of_mem hp
  have := (h.2 j p hj).1
  have h1 := this.1.2.1
  have h2 := this.1.2.2.1
  unfold pe
  simp only
  omega
theorem has_iff {x : Int} {xs : List Int} : 0 ≤ fiM (fun y => decide (x = y)) xs ↔ x ∈ xs := fi_any.trans ⟨fun ⟨y, h, e⟩ => by rw [e]; exact h, fun h => ⟨x, h, rfl⟩⟩
def treeP (ns : List Int) (ps : List Pi) : Prop := ps.length + 1 = ns.length ∧ ∀ v, v < ns.length → Conn (ps.map pe) 0 v
noncomputable instance (ns : List Int) (ps : List Pi) : Decidable (treeP ns ps) := Classical.propDecidable _
def flP (ps : List Pi) (fl : List Int) : Prop := fl.length = ps.length ∧ within fl (-100000) 100000
noncomputable instance (ps : List Pi) (fl : List Int) : Decidable (flP ps fl) := Classical.propDecidable _
noncomputable def fcC (ns : List Int) (ps : List Pi) (s : Int) (fl : List Int) : Int := if netOk ns ps then (if 0 ≤ s ∧ s < ns.length then (if flP ps fl then (if treeP ns ps then 0 else 6) else 7) else 2) else 1
def wyA (w : Nat × Nat × Nat) : AV := .agg [.s (.int .i64 (w.1 : Int)), .s (.int .i64 (w.2.1 : Int)), .s (.int .i64 (w.2.2 : Int))]
theorem wyE_F {e : Nat × Nat} {u i : Nat} {y : List Nat × List (Nat × Nat × Nat)} (h : nxt e u = none) : wyE u i y e = y := by unfold wyE; rw [h]
theorem wyE_M {e : Nat × Nat} {u i x : Nat} {y : List Nat × List (Nat × Nat × Nat)} (h : nxt e u = some x) (hm : x ∈ y.1) : wyE u i y e = y := by unfold wyE; rw [h]; exact if_pos hm
theorem wyE_T {e : Nat × Nat} {u i x : Nat} {y : List Nat × List (Nat × Nat × Nat)} (h : nxt e u = some x) (hm : ¬ x ∈ y.1) : wyE u i y e = (y.1 ++ [x], y.2 ++ [(x, u, i)]) := by unfold wyE; rw [h]; exact if_neg hm
theorem wyI_d {ps : List Pi} {i u : Nat} {p : Pi} {y : List Nat × List (Nat × Nat × Nat)} (h : ps[i]? = some p) : wyI u ((ps.map pe).drop i) i y = wyI u ((ps.map pe).drop (i + 1)) (i + 1) (wyE u i y (pe p)) := by
  have hl := (List.getElem?_eq_some_iff.1 h).1
  have hg : (ps.map pe)[i]'(by simpa using hl) = pe p := by
    have := (List.getElem?_eq_some_iff.1 h).2
    simp [this]
  rw [List.drop_eq_getElem_cons (by simpa using hl), hg]; rfl
theorem wyI_end {ps : List Pi} {i u : Nat} {y : List Nat × List (Nat × Nat × Nat)} (h : ps.length ≤ i) : wyI u ((ps.map pe).drop i) i y = y := by
  rw [List.drop_of_length_le (by simpa using h)]; rfl
theorem wyO_s {es : List (Nat × Nat)} {n k u : Nat} {y : List Nat × List (Nat × Nat × Nat)} (h : y.1[k]? = some u) (hk : k < n) : wyO es (n - k) k y = wyO es (n - (k + 1)) (k + 1) (wyI u es 0 y) := by
  have e : n - k = (n - (k + 1)) + 1 := by omega
  rw [e]
  show (match y.1[k]? with | some u => _ | none => _) = _
  rw [h]
theorem wyO_e {es : List (Nat × Nat)} {k f : Nat} {y : List Nat × List (Nat × Nat × Nat)} (h : y.1.length ≤ k) : wyO es f k y = y := by
  cases f with
  | zero => rfl
  | succ f =>
    show (match y.1[k]? with | some u => _ | none => _) = _
    rw [List.getElem?_eq_none h]
theorem wyA_app {ws : List (Nat × Nat × Nat)} {a : Int} {u i : Nat} (h : 0 ≤ a) : ws.map wyA ++ [.agg [.s (.int .i64 a), .s (.int .i64 (u : Int)), .s (.int .i64 (i : Int))]] = (ws ++ [(a.toNat, u, i)]).map wyA := by
  have : ((a.toNat : Nat) : Int) = a := by omega
  simp [wyA, this]
theorem wk_get {ks : List Nat} {k u : Nat} {x : AV} (h : ks[k]? = some u) : ((toI ks).map ci ++ [x])[((k : Nat) : Int).toNat]? = some (ci (u : Int)) := by
  have e : (((k : Nat) : Int)).toNat = k := rfl
  have hg := toI_get h
  rw [e] at hg ⊢
  rw [List.getElem?_append_left (List.getElem?_eq_some_iff.1 hg).1]; exact hg
def sgW (es : List (Nat × Nat)) (w : Nat × Nat × Nat) : Int := match es[w.2.2]? with
  | some e => if w.2.1 = e.1 then (w.2.2 : Int) + 1 else -((w.2.2 : Int) + 1)
  | none => 0
structure WIn2 (es : List (Nat × Nat)) (s : Nat) (st : List Nat × List (Nat × Nat × Nat)) : Prop extends WInv es s st where
  bf : ∀ m w, st.2[m]? = some w → w.2.1 ∈ s :: (st.2.take m).map fun w => w.1
  pn : (st.2.map fun w => w.2.2).Nodup
theorem wyE_in2 {es : List (Nat × Nat)} {s u i : Nat} {st : List Nat × List (Nat × Nat × Nat)} {e : Nat × Nat} (he : es[i]? = some e) (hu : u ∈ st.1) (h : WIn2 es s st) : WIn2 es s (wyE u i st e) := by
  refine ⟨wyE_inv he hu h.toWInv, ?_, ?_⟩
  · unfold wyE
    split
    · rename_i v hv
      split
      · exact h.bf
      · intro m w hw
        by_cases c : m < st.2.length
        · rw [show (st.1 ++ [v], st.2 ++ [(v, u, i)]).2 = st.2 ++ [(v, u, i)] from rfl] at hw ⊢
          rw [List.getElem?_append_left c] at hw
          rw [List.take_append_of_le_length (by omega)]
          exact h.bf m w hw
        · have hl := (List.getElem?_eq_some_iff.1 hw).1
          simp only [List.length_append, List.length_cons, List.length_nil] at hl
          have : m = st.2.length := by omega
          subst this
          simp only [List.getElem?_append_right (Nat.le_refl _), Nat.sub_self, List.getElem?_cons_zero, Option.some.injEq] at hw
          subst hw
          simp only [List.take_append_of_le_length (Nat.le_refl _), List.take_length]
          rw [← h.hd]; exact hu
    · exact h.bf
  · unfold wyE
    split
    · rename_i v hv
      split
      · exact h.pn
      · rename_i hn
        show ((st.2 ++ [(v, u, i)]).map fun w => w.2.2).Nodup
        rw [List.map_append, List.nodup_append]
        refine ⟨h.pn, by simp, fun a ha b hb => ?_⟩
        simp at hb; subst hb
        intro k; subst k
        obtain ⟨w, hw, hwi⟩ := List.mem_map.1 ha
        obtain ⟨f, hf, hx, hb⟩ := h.ed w hw
        have hwi : w.2.2 = a := hwi
        rw [hwi, he] at hf
        cases hf
        have h1 : w.1 ∈ st.1 := by rw [h.hd]; exact List.mem_cons_of_mem _ (List.mem_map_of_mem hw)
        apply hn
        rcases nxt_edge hv with c | c <;> rcases nxt_edge hx with d | d <;> rw [← c] at d <;> cases d <;> assumption
    · exact h.pn
theorem wyI_in2 {es : List (Nat × Nat)} {s u : Nat} : ∀ (fs : List (Nat × Nat)) (i : Nat) (st : List Nat × List (Nat × Nat × Nat)), (∀ j e, fs[j]? = some e → es[i + j]? = some e) → u ∈ st.1 → WIn2 es s st → WIn2 es s (wyI u fs i st)
  | [], _, _, _, _, h => h
  | e :: fs, i, st, hf, hu, h => by
    show WIn2 es s (wyI u fs (i + 1) (wyE u i st e))
    refine wyI_in2 fs (i + 1) _ (fun j x hx => ?_) ?_ (wyE_in2 (hf 0 e rfl) hu h)
    · have := hf (j + 1) x (by simpa using hx)
      rwa [show i + 1 + j = i + (j + 1) by omega]
    · rw [wyE_1]
      obtain ⟨t, ht⟩ := bfE_pre (u := u) (ks := st.1) (e := e)
      rw [ht]; exact List.mem_append_left _ hu
theorem wyO_in2 {es : List (Nat × Nat)} {s : Nat} : ∀ (f k : Nat) (st : List Nat × List (Nat × Nat × Nat)), WIn2 es s st → WIn2 es s (wyO es f k st)
  | 0, _, _, h => h
  | f + 1, k, st, h => by
    unfold wyO
    cases hk : st.1[k]? with
    | none => exact h
    | some u => exact wyO_in2 f (k + 1) _ (wyI_in2 es 0 st (fun j e he => by rw [Nat.zero_add]; exact he) (List.mem_of_getElem? hk) h)
theorem waysF_in2 {es : List (Nat × Nat)} {n s : Nat} : WIn2 es s (waysF es n s) := wyO_in2 n 0 _ { hd := rfl, ed := fun w hw => (by cases hw), bf := fun m w hw => (by cases hw), pn := (by simp) }
theorem all_of_len {n : Nat} {ks : List Nat} (hd : ks.Nodup) (hl : ∀ v ∈ ks, v < n) (hn : n ≤ ks.length) {v : Nat} (hv : v < n) : v ∈ ks := by
  apply Classical.byContradiction
  intro h
  have := len_le (n := n) (v :: ks) (List.nodup_cons.2 ⟨h, hd⟩) (fun w hw => by
    rcases List.mem_cons.1 hw with c | c
    · subst c; exact hv
    · exact hl w c)
  simp at this; omega
theorem ways_lt {es : List (Nat × Nat)} {n s : Nat} (hr : ∀ e ∈ es, e.1 < n ∧ e.2 < n) (hs : s < n) {w : Nat × Nat × Nat} (hw : w ∈ (waysF es n s).2) : w.1 < n ∧ w.2.1 < n ∧ ¬ w.1 = w.2.1 ∧ w.2.2 < es.length ∧ ¬ w.1 = s ∧ ∃ e, es[w.2.2]? = some e ∧ nxt e w.2.1 = some w.1 := by
  have hi := waysF_in2 (es := es) (n := n) (s := s)
  have hf := (found_inv hr hs).1
  obtain ⟨e, he, hx, hb⟩ := hi.ed w hw
  rw [waysF_1] at hb
  have h1 : w.1 ∈ found es n s := by rw [← waysF_1, hi.hd]; exact List.mem_cons_of_mem _ (List.mem_map_of_mem hw)
  have hnd := hf.nd
  rw [← waysF_1, hi.hd, List.nodup_cons] at hnd
  refine ⟨hf.lt _ h1, hf.lt _ hb, ?_, (List.getElem?_eq_some_iff.1 he).1, fun c => ?_, e, he, hx⟩
  · obtain ⟨m, hm⟩ := List.getElem?_of_mem hw
    have hbf := hi.bf m w hm
    intro c
    rw [← c] at hbf
    rcases List.mem_cons.1 hbf with k | k
    · exact hnd.1 (List.mem_map.2 ⟨w, hw, k⟩)
    · have hml := (List.getElem?_eq_some_iff.1 hm).1
      have hsp : ((waysF es n s).2.take m).map (fun w => w.1) ++ w.1 :: ((waysF es n s).2.drop (m + 1)).map (fun w => w.1) = (waysF es n s).2.map fun w => w.1 := by
        conv => rhs; rw [← List.take_append_drop m (waysF es n s).2, List.map_append]
        congr 1
        rw [List.drop_eq_getElem_cons hml, (List.getElem?_eq_some_iff.1 hm).2]; rfl
      have := hnd.2
      rw [← hsp, List.nodup_append] at this
      exact this.2.2 w.1 k w.1 List.mem_cons_self rfl
  · exact hnd.1 (List.mem_map.2 ⟨w, hw, c⟩)
theorem ways_nd {es : List (Nat × Nat)} {n s : Nat} (hr : ∀ e ∈ es, e.1 < n ∧ e.2 < n) (hs : s < n) : ((waysF es n s).2.map fun w => w.1).Nodup := by
  have hf := (found_inv hr hs).1.nd
  rw [← waysF_1, (waysF_in2 (es := es) (n := n) (s := s)).hd, List.nodup_cons] at hf
  exact hf.2
theorem ways_len {es : List (Nat × Nat)} {n s : Nat} : (waysF es n s).2.length + 1 = (found es n s).length := by
  rw [← waysF_1, (waysF_in2 (es := es) (n := n) (s := s)).hd]; simp
theorem ways_all {es : List (Nat × Nat)} {n s : Nat} (hr : ∀ e ∈ es, e.1 < n ∧ e.2 < n) (hs : s < n) (hc : ∀ v, v < n → Conn es s v) (hl : es.length + 1 = n) {i : Nat} (hi : i < es.length) : ∃ w ∈ (waysF es n s).2, w.2.2 = i := by
  have h2 := (found_len hr hs).2 hc
  have h3 := ways_len (es := es) (n := n) (s := s)
  have := all_of_len (n := es.length) (waysF_in2 (es := es) (n := n) (s := s)).pn (fun v hv => by
    obtain ⟨w, hw, rfl⟩ := List.mem_map.1 hv
    exact (ways_lt hr hs hw).2.2.2.1) (by rw [List.length_map]; omega) hi
  obtain ⟨w, hw, e⟩ := List.mem_map.1 this
  exact ⟨w, hw, e⟩
def wyT (f : Nat × Nat × Nat → Int → Int) (ws : List (Nat × Nat × Nat)) (t : List Int) : List Int := ws.foldl (fun t w => t.set w.1 (f w (t.getD w.2.1 0))) t
theorem wyT_s {f : Nat × Nat × Nat → Int → Int} {ws : List (Nat × Nat × Nat)} {m : Nat} {w : Nat × Nat × Nat} {t : List Int} (h : ws[m]? = some w) : wyT f (ws.take (m + 1)) t = (wyT f (ws.take m) t).set w.1 (f w ((wyT f (ws.take m) t).getD w.2.1 0)) := by
  unfold wyT
  rw [List.take_add_one, h, List.foldl_append]; rfl
theorem wyT_len {f : Nat × Nat × Nat → Int → Int} : ∀ (ws : List (Nat × Nat × Nat)) (t : List Int), (wyT f ws t).length = t.length
  | [], _ => rfl
  | w :: ws, t => by
    show (wyT f ws _).length = _
    rw [wyT_len ws]; simp
def su {α : Type} (f : α → Int) : List α → Int
  | [] => 0
  | x :: l => f x + su f l
theorem su_perm {α : Type} {f : α → Int} {l m : List α} (h : l.Perm m) : su f l = su f m := by
  induction h with
  | nil => rfl
  | cons x _ ih => show f x + _ = f x + _; rw [ih]
  | swap x y l => show f y + (f x + su f l) = f x + (f y + su f l); omega
  | trans _ _ h1 h2 => exact h1.trans h2
theorem su_app {α : Type} {f : α → Int} : ∀ (l m : List α), su f (l ++ m) = su f l + su f m
  | [], m => by show _ = 0 + _; rw [Int.zero_add]; rfl
  | x :: l, m => by show f x + su f (l ++ m) = f x + su f l + su f m; rw [su_app l m]; omega
theorem su_map {α β : Type} {f : β → Int} {g : α → β} : ∀ (l : List α), su f (l.map g) = su (fun x => f (g x)) l
  | [] => rfl
  | x :: l => by show f (g x) + su f (l.map g) = f (g x) + _; rw [su_map l]
theorem su_cong {α : Type} {f g : α → Int} : ∀ (l : List α), (∀ x ∈ l, f x = g x) → su f l = su g l
  | [], _ => rfl
  | x :: l, h => by show f x + su f l = g x + su g l; rw [h x List.mem_cons_self, su_cong l (fun y hy => h y (List.mem_cons_of_mem _ hy))]
theorem su_add {α : Type} {f g : α → Int} : ∀ (l : List α), su (fun x => f x + g x) l = su f l + su g l
  | [] => rfl
  | x :: l => by show f x + g x + su _ l = f x + su f l + (g x + su g l); rw [su_add l]; omega
theorem su_neg {α : Type} {f : α → Int} : ∀ (l : List α), su (fun x => -(f x)) l = -(su f l)
  | [] => rfl
  | x :: l => by show -(f x) + su _ l = -(f x + su f l); rw [su_neg l]; omega
theorem su_0 {α : Type} {f : α → Int} : ∀ (l : List α), (∀ x ∈ l, f x = 0) → su f l = 0
  | [], _ => rfl
  | x :: l, h => by show f x + su f l = 0; rw [h x List.mem_cons_self, su_0 l (fun y hy => h y (List.mem_cons_of_mem _ hy))]; rfl
theorem su_nn {α : Type} {f : α → Int} : ∀ (l : List α), (∀ x ∈ l, 0 ≤ f x) → 0 ≤ su f l
  | [], _ => Int.le_refl _
  | x :: l, h => by
    have h1 := h x List.mem_cons_self
    have h2 := su_nn l (fun y hy => h y (List.mem_cons_of_mem _ hy))
    show 0 ≤ f x + su f l; omega
theorem su_le {α : Type} {f : α → Int} {b : Int} : ∀ (l : List α), (∀ x ∈ l, f x ≤ b) → su f l ≤ b * l.length
  | [], _ => by simp [su]
  | x :: l, h => by
    have h1 := h x List.mem_cons_self
    have h2 := su_le (b := b) l (fun y hy => h y (List.mem_cons_of_mem _ hy))
    show f x + su f l ≤ b * ((l.length + 1 : Nat) : Int)
    have e : b * ((l.length + 1 : Nat) : Int) = b * (l.length : Int) + b := by rw [Int.natCast_add, Int.mul_add]; simp
    omega
theorem su_mem {α : Type} {f : α → Int} {x : α} : ∀ (l : List α), (∀ y ∈ l, 0 ≤ f y) → x ∈ l → f x ≤ su f l
  | y :: l, h, hx => by
    have h1 := h y List.mem_cons_self
    have h2 := su_nn l (fun z hz => h z (List.mem_cons_of_mem _ hz))
    show f x ≤ f y + su f l
    rcases List.mem_cons.1 hx with c | c
    · rw [c]; omega
    · have := su_mem l (fun z hz => h z (List.mem_cons_of_mem _ hz)) c
      omega
theorem su_upd {α : Type} {f g : α → Int} {a : α} {k : Int} : ∀ (l : List α), l.Nodup → a ∈ l → g a = f a + k → (∀ x, ¬ x = a → g x = f x) → su g l = su f l + k
  | y :: l, hn, ha, h1, h2 => by
    rw [List.nodup_cons] at hn
    show g y + su g l = f y + su f l + k
    rcases List.mem_cons.1 ha with c | c
    · subst c
      rw [h1, su_cong (f := g) (g := f) l (fun x hx => h2 x (fun e => hn.1 (e ▸ hx)))]; omega
    · rw [h2 y (fun e => hn.1 (e ▸ c)), su_upd l hn.2 c h1 h2]; omega
def smB (ws : List (Nat × Nat × Nat)) (d : List Int) : List Int := ws.foldr (fun w t => t.set w.2.1 (t.getD w.2.1 0 + t.getD w.1 0)) d
theorem smB_s {ws : List (Nat × Nat × Nat)} {m : Nat} {w : Nat × Nat × Nat} {d : List Int} (h : ws[m]? = some w) : smB (ws.drop m) d = (smB (ws.drop (m + 1)) d).set w.2.1 ((smB (ws.drop (m + 1)) d).getD w.2.1 0 + (smB (ws.drop (m + 1)) d).getD w.1 0) := by
  obtain ⟨hl, he⟩ := List.getElem?_eq_some_iff.1 h
  rw [List.drop_eq_getElem_cons hl, he]; rfl
theorem smB_len : ∀ (ws : List (Nat × Nat × Nat)) (d : List Int), (smB ws d).length = d.length
  | [], _ => rfl
  | w :: ws, d => by
    show ((smB ws d).set _ _).length = _
    rw [List.length_set, smB_len ws]
theorem getD_set {t : List Int} {i j : Nat} {x : Int} : (t.set i x).getD j 0 = if i = j ∧ i < t.length then x else t.getD j 0 := by
  unfold List.getD
  rw [List.getElem?_set]
  by_cases c : i = j
  · subst c
    by_cases d : i < t.length
    · rw [if_pos rfl, if_pos d, if_pos ⟨rfl, d⟩]; rfl
    · rw [if_pos rfl, if_neg d, if_neg (fun h => d h.2), List.getElem?_eq_none (by omega)]
  · rw [if_neg c, if_neg (fun h => c h.1)]
theorem smB_keep {v : Nat} : ∀ (ws : List (Nat × Nat × Nat)) (d : List Int), (∀ w ∈ ws, ¬ w.2.1 = v) → (smB ws d).getD v 0 = d.getD v 0
  | [], _, _ => rfl
  | w :: ws, d, h => by
    show ((smB ws d).set _ _).getD v 0 = _
    rw [getD_set, if_neg (fun k => h w List.mem_cons_self k.1), smB_keep ws d (fun x hx => h x (List.mem_cons_of_mem _ hx))]
theorem smB_app (ws vs : List (Nat × Nat × Nat)) (d : List Int) : smB (ws ++ vs) d = smB ws (smB vs d) := by unfold smB; rw [List.foldr_append]
theorem smB_nn : ∀ (ws : List (Nat × Nat × Nat)) (d : List Int), (∀ v, 0 ≤ d.getD v 0) → ∀ v, 0 ≤ (smB ws d).getD v 0
  | [], _, h => h
  | w :: ws, d, h => fun v => by
    have ih := smB_nn ws d h
    show 0 ≤ ((smB ws d).set _ _).getD v 0
    rw [getD_set]
    split
    · have h1 : 0 ≤ (smB ws d).getD w.2.1 0 := ih w.2.1
      have h2 : 0 ≤ (smB ws d).getD w.1 0 := ih w.1
      exact Int.add_nonneg h1 h2
    · exact ih v
structure WOrd (s : Nat) (ws : List (Nat × Nat × Nat)) : Prop where
  nd : (s :: ws.map fun w => w.1).Nodup
  bf : ∀ m w, ws[m]? = some w → w.2.1 ∈ s :: (ws.take m).map fun w => w.1
theorem ways_ord {es : List (Nat × Nat)} {n s : Nat} (hr : ∀ e ∈ es, e.1 < n ∧ e.2 < n) (hs : s < n) : WOrd s (waysF es n s).2 := by
  have hf := (found_inv hr hs).1.nd
  rw [← waysF_1, (waysF_in2 (es := es) (n := n) (s := s)).hd] at hf
  exact ⟨hf, (waysF_in2 (es := es) (n := n) (s := s)).bf⟩
theorem WOrd.tk {s : Nat} {ws : List (Nat × Nat × Nat)} (h : WOrd s ws) {m : Nat} {w : Nat × Nat × Nat} (hm : ws[m]? = some w) : (s :: (ws.take m).map fun w => w.1).Nodup ∧ ¬ w.1 ∈ s :: (ws.take m).map (fun w => w.1) ∧ ws.take (m + 1) = ws.take m ++ [w] := by
  have e : ws.take (m + 1) = ws.take m ++ [w] := by rw [List.take_add_one, hm]; rfl
  have h1 : (s :: (ws.take (m + 1)).map fun w => w.1).Nodup := by
    refine List.Nodup.sublist ?_ h.nd
    exact List.Sublist.cons_cons _ ((List.take_sublist _ _).map _)
  rw [e, List.map_append, ← List.cons_append, List.nodup_append] at h1
  exact ⟨h1.1, fun k => h1.2.2 _ k w.1 (by simp) rfl, e⟩
theorem smB_fin {s : Nat} {ws : List (Nat × Nat × Nat)} {d : List Int} (h : WOrd s ws) {m : Nat} {w : Nat × Nat × Nat} (hm : ws[m]? = some w) : (smB (ws.drop (m + 1)) d).getD w.1 0 = (smB ws d).getD w.1 0 := by
  have e : smB ws d = smB (ws.take (m + 1)) (smB (ws.drop (m + 1)) d) := by rw [← smB_app, List.take_append_drop]
  rw [e]
  refine (smB_keep _ _ ?_).symm
  intro x hx c
  obtain ⟨i, hi⟩ := List.getElem?_of_mem hx
  have hil := (List.getElem?_eq_some_iff.1 hi).1
  rw [List.length_take] at hil
  rw [List.getElem?_take] at hi
  split at hi
  · have hb := h.bf i x hi
    rw [c] at hb
    have hk := (h.tk hm).2.1
    apply hk
    rcases List.mem_cons.1 hb with q | q
    · rw [q]; exact List.mem_cons_self
    · refine List.mem_cons_of_mem _ ?_
      obtain ⟨y, hy, ey⟩ := List.mem_map.1 q
      exact List.mem_map.2 ⟨y, (List.take_subset_take_left ws (by omega)) hy, ey⟩
  · cases hi
theorem smB_eq {s n : Nat} {ws : List (Nat × Nat × Nat)} {d : List Int} (h : WOrd s ws) (hn : d.length = n) (hlt : ∀ w ∈ ws, w.2.1 < n) (v : Nat) : ∀ j m : Nat, j + m = ws.length → (smB (ws.drop m) d).getD v 0 = d.getD v 0 + su (fun w => if w.2.1 = v then (smB ws d).getD w.1 0 else 0) (ws.drop m)
  | 0, m, hm => by rw [List.drop_of_length_le (by omega)]; show d.getD v 0 = d.getD v 0 + 0; omega
  | j + 1, m, hm => by
    have hl : m < ws.length := by omega
    have hg : ws[m]? = some (ws[m]) := List.getElem?_eq_getElem hl
    have ih := smB_eq h hn hlt v j (m + 1) (by omega)
    have hf := smB_fin (d := d) h hg
    have hw := hlt _ (List.getElem_mem hl)
    rw [smB_s hg, getD_set]
    rw [List.drop_eq_getElem_cons hl]
    show _ = _ + ((if (ws[m]).2.1 = v then _ else 0) + su _ (ws.drop (m + 1)))
    have hll := smB_len (ws.drop (m + 1)) d
    by_cases c : (ws[m]).2.1 = v
    · rw [if_pos ⟨c, by omega⟩, if_pos c, hf, c, ih]; omega
    · rw [if_neg (fun k => c k.1), if_neg c, ih]; omega
theorem smB_tot {s : Nat} {ws : List (Nat × Nat × Nat)} {d : List Int} (h : WOrd s ws) (hlt : ∀ w ∈ ws, w.2.1 < d.length) : ∀ j m : Nat, j + m = ws.length → su (fun v => (smB (ws.drop m) d).getD v 0) (s :: (ws.take m).map fun w => w.1) = su (fun v => d.getD v 0) (s :: ws.map fun w => w.1)
  | 0, m, hm => by rw [List.drop_of_length_le (by omega), List.take_of_length_le (by omega)]; rfl
  | j + 1, m, hm => by
    have hl : m < ws.length := by omega
    have hg : ws[m]? = some (ws[m]) := List.getElem?_eq_getElem hl
    have ih := smB_tot h hlt j (m + 1) (by omega)
    obtain ⟨h1, h2, h3⟩ := h.tk hg
    have hw := hlt _ (List.getElem_mem hl)
    have hb := h.bf m _ hg
    have hll := smB_len (ws.drop (m + 1)) d
    rw [h3, List.map_append, ← List.cons_append, su_app] at ih
    rw [← ih]
    refine (su_upd (f := fun v => (smB (ws.drop (m + 1)) d).getD v 0) (a := (ws[m]).2.1) (k := (smB (ws.drop (m + 1)) d).getD (ws[m]).1 0) _ h1 hb ?_ ?_).trans ?_
    · show (smB (ws.drop m) d).getD _ 0 = _
      rw [smB_s hg, getD_set, if_pos ⟨rfl, by omega⟩]
    · intro x hx
      show (smB (ws.drop m) d).getD _ 0 = _
      rw [smB_s hg, getD_set, if_neg (fun k => hx k.1.symm)]
    · show _ + _ = _ + ((smB (ws.drop (m + 1)) d).getD (ws[m]).1 0 + 0)
      omega
theorem smB_le {s : Nat} {ws : List (Nat × Nat × Nat)} {d : List Int} (h : WOrd s ws) (hlt : ∀ w ∈ ws, w.2.1 < d.length) (hd : ∀ v, 0 ≤ d.getD v 0) {w : Nat × Nat × Nat} (hw : w ∈ ws) : 0 ≤ (smB ws d).getD w.1 0 ∧ (smB ws d).getD w.1 0 ≤ su (fun v => d.getD v 0) (s :: ws.map fun w => w.1) := by
  obtain ⟨m, hm⟩ := List.getElem?_of_mem hw
  have hl := (List.getElem?_eq_some_iff.1 hm).1
  have ht := smB_tot h hlt (ws.length - (m + 1)) (m + 1) (by omega)
  have hnn := smB_nn (ws.drop (m + 1)) d hd
  refine ⟨smB_nn ws d hd _, ?_⟩
  rw [← ht, ← smB_fin (d := d) h hm]
  refine su_mem (f := fun v => (smB (ws.drop (m + 1)) d).getD v 0) _ (fun y _ => hnn y) ?_
  rw [(h.tk hm).2.2]; simp
def wpi (ws : List (Nat × Nat × Nat)) (i : Nat) : Option (Nat × Nat × Nat) := ws.find? (fun w => w.2.2 == i)
theorem wpi_get {w : Nat × Nat × Nat} : ∀ {ws : List (Nat × Nat × Nat)} (_ : (ws.map fun w => w.2.2).Nodup) (_ : w ∈ ws), wpi ws w.2.2 = some w
  | x :: ws, hn, hm => by
    rw [List.map_cons, List.nodup_cons] at hn
    unfold wpi
    by_cases c : x.2.2 = w.2.2
    · rw [List.find?_cons_of_pos (by simpa using c)]
      rcases List.mem_cons.1 hm with k | k
      · rw [k]
      · exact absurd (c ▸ List.mem_map_of_mem (f := fun w : Nat × Nat × Nat => w.2.2) k) hn.1
    · rw [List.find?_cons_of_neg (by simpa using c)]
      rcases List.mem_cons.1 hm with k | k
      · rw [k] at c; exact absurd rfl c
      · exact wpi_get hn.2 k
def flW (es : List (Nat × Nat)) (S : List Int) (w : Nat × Nat × Nat) : Int := match es[w.2.2]? with
  | some e => if e.1 = w.1 then -(S.getD w.1 0) else S.getD w.1 0
  | none => 0
def flL (es : List (Nat × Nat)) (S : List Int) (ws : List (Nat × Nat × Nat)) : List Int := (List.range es.length).map fun i => match wpi ws i with
  | some w => flW es S w
  | none => 0
theorem flL_len {es : List (Nat × Nat)} {S : List Int} {ws : List (Nat × Nat × Nat)} : (flL es S ws).length = es.length := by simp [flL]
theorem flL_0 {es : List (Nat × Nat)} {S : List Int} : flL es S [] = List.replicate es.length 0 := by
  unfold flL wpi
  refine List.ext_getElem? fun j => ?_
  rw [List.getElem?_map, List.getElem?_replicate]
  by_cases c : j < es.length
  · rw [List.getElem?_range c, if_pos c]; rfl
  · rw [List.getElem?_eq_none (by simpa using c), if_neg c]; rfl
theorem flL_set {es : List (Nat × Nat)} {S : List Int} {ws : List (Nat × Nat × Nat)} {w : Nat × Nat × Nat} (hi : w.2.2 < es.length) : (flL es S ws).set w.2.2 (flW es S w) = flL es S (w :: ws) := by
  refine List.ext_getElem? fun j => ?_
  rw [List.getElem?_set]
  unfold flL
  by_cases hj : j < es.length
  · rw [List.getElem?_map, List.getElem?_map, List.getElem?_range hj]
    simp only [Option.map_some, List.length_map, List.length_range]
    by_cases c : w.2.2 = j
    · subst c
      rw [if_pos rfl, if_pos hi]
      unfold wpi
      rw [List.find?_cons_of_pos (by simp)]
    · rw [if_neg c]
      unfold wpi
      rw [List.find?_cons_of_neg (by simpa using c)]
  · rw [List.getElem?_eq_none (by simp; omega)]
    rw [List.getElem?_eq_none (by simp; omega)]
    split
    · rw [if_neg (by simp; omega)]
    · rfl
theorem flL_get {es : List (Nat × Nat)} {S : List Int} {ws : List (Nat × Nat × Nat)} (hn : (ws.map fun w => w.2.2).Nodup) {w : Nat × Nat × Nat} (hw : w ∈ ws) (hi : w.2.2 < es.length) : (flL es S ws)[w.2.2]? = some (flW es S w) := by
  unfold flL
  rw [List.getElem?_map, List.getElem?_range hi]
  simp only [Option.map_some, wpi_get hn hw]
def baS (es : List (Nat × Nat)) (fl : List Int) (j i : Nat) : Int := match es[i]? with
  | some e => (if e.2 = j then fl.getD i 0 else 0) - (if e.1 = j then fl.getD i 0 else 0)
  | none => 0
def baF (es : List (Nat × Nat)) (fl : List Int) (j : Nat) : Int := su (baS es fl j) (List.range es.length)
theorem baS_way {es : List (Nat × Nat)} {S : List Int} {ws : List (Nat × Nat × Nat)} (hn : (ws.map fun w => w.2.2).Nodup) {w : Nat × Nat × Nat} (hw : w ∈ ws) {e : Nat × Nat} (he : es[w.2.2]? = some e) (hx : nxt e w.2.1 = some w.1) (hne : ¬ w.1 = w.2.1) (j : Nat) : baS es (flL es S ws) j w.2.2 = (if w.1 = j then S.getD w.1 0 else 0) - (if w.2.1 = j then S.getD w.1 0 else 0) := by
  have hi := (List.getElem?_eq_some_iff.1 he).1
  have hg := flL_get (S := S) hn hw hi
  have hfl : (flL es S ws).getD w.2.2 0 = flW es S w := by unfold List.getD; rw [hg]; rfl
  unfold baS
  rw [he]
  simp only [hfl]
  have hF : flW es S w = if e.1 = w.1 then -(S.getD w.1 0) else S.getD w.1 0 := by unfold flW; rw [he]
  rw [hF]
  rcases nxt_edge hx with c | c
  · have h1 : e.1 = w.2.1 := by rw [← c]
    have h2 : e.2 = w.1 := by rw [← c]
    rw [h1, h2]
    rw [if_neg (show ¬ w.2.1 = w.1 from fun k => hne k.symm)]
  · have h1 : e.1 = w.1 := by rw [← c]
    have h2 : e.2 = w.2.1 := by rw [← c]
    rw [h1, h2, if_pos rfl]
    split <;> split <;> omega
theorem ba_law {es : List (Nat × Nat)} {n s : Nat} {d : List Int} (hr : ∀ e ∈ es, e.1 < n ∧ e.2 < n) (hs : s < n) (hc : ∀ v, v < n → Conn es s v) (hl : es.length + 1 = n) (hd : d.length = n) {j : Nat} (hj : j < n) (hjs : ¬ j = s) : baF es (flL es (smB (waysF es n s).2 d) (waysF es n s).2) j = d.getD j 0 := by
  have hord := ways_ord hr hs
  have hpn := (waysF_in2 (es := es) (n := n) (s := s)).pn
  have hlt : ∀ w ∈ (waysF es n s).2, _ := fun w hw => ways_lt hr hs hw
  have hperm : ((waysF es n s).2.map fun w => w.2.2).Perm (List.range es.length) := by
    rw [List.perm_ext_iff_of_nodup hpn List.nodup_range]
    intro i
    rw [List.mem_range]
    constructor
    · intro h
      obtain ⟨w, hw, rfl⟩ := List.mem_map.1 h
      exact (hlt w hw).2.2.2.1
    · intro h
      obtain ⟨w, hw, e⟩ := ways_all hr hs hc hl h
      exact List.mem_map.2 ⟨w, hw, e⟩
  unfold baF
  rw [← su_perm hperm, su_map]
  rw [su_cong (g := fun w => (if w.1 = j then (smB (waysF es n s).2 d).getD w.1 0 else 0) + -(if w.2.1 = j then (smB (waysF es n s).2 d).getD w.1 0 else 0)) _ (fun w hw => by
    obtain ⟨_, _, hne, _, _, e, he, hx⟩ := hlt w hw
    rw [baS_way hpn hw he hx hne j]; omega)]
  rw [su_add, su_neg]
  have hS := smB_eq (d := d) hord hd (fun w hw => (hlt w hw).2.1) j (waysF es n s).2.length 0 (by omega)
  rw [List.drop_zero] at hS
  have hmem : j ∈ (waysF es n s).2.map fun w => w.1 := by
    have := ((found_inv hr hs).2 j).2 (hc j hj)
    rw [← waysF_1, (waysF_in2 (es := es) (n := n) (s := s)).hd] at this
    exact (List.mem_cons.1 this).resolve_left hjs
  have hone : su (fun w : Nat × Nat × Nat => if w.1 = j then (smB (waysF es n s).2 d).getD w.1 0 else 0) (waysF es n s).2 = (smB (waysF es n s).2 d).getD j 0 := by
    have hnd := ways_nd hr hs
    rw [← su_map (f := fun v => if v = j then (smB (waysF es n s).2 d).getD v 0 else 0) (g := fun w : Nat × Nat × Nat => w.1)]
    have := su_upd (f := fun _ => 0) (g := fun v => if v = j then (smB (waysF es n s).2 d).getD v 0 else 0) (a := j) (k := (smB (waysF es n s).2 d).getD j 0) _ hnd hmem (by simp) (fun x hx => if_neg hx)
    rw [this, su_0 _ (fun _ _ => rfl)]; omega
  rw [hone, hS]; omega
theorem ba_sum {es : List (Nat × Nat)} {n : Nat} (fl : List Int) (hr : ∀ e ∈ es, e.1 < n ∧ e.2 < n) : su (baF es fl) (List.range n) = 0 := by
  have swap : ∀ (l : List Nat) (m : List Nat), su (fun j => su (baS es fl j) l) m = su (fun i => su (fun j => baS es fl j i) m) l := by
    intro l
    induction l with
    | nil => intro m; exact su_0 _ (fun _ _ => rfl)
    | cons i l ih =>
      intro m
      show su (fun j => baS es fl j i + su (baS es fl j) l) m = su (fun j => baS es fl j i) m + su _ l
      rw [su_add, ih]
  unfold baF
  rw [swap]
  refine su_0 _ fun i hi => ?_
  rw [List.mem_range] at hi
  have he : es[i]? = some es[i] := List.getElem?_eq_getElem hi
  have hb := hr _ (List.getElem_mem hi)
  have e1 : su (fun j => baS es fl j i) (List.range n) = su (fun j => if es[i].2 = j then fl.getD i 0 else 0) (List.range n) + -(su (fun j => if es[i].1 = j then fl.getD i 0 else 0) (List.range n)) := by
    rw [← su_neg, ← su_add]
    refine su_cong _ fun j _ => ?_
    show (match es[i]? with | some e => _ | none => _) = _
    rw [he]
    show _ - _ = _ + -_
    omega
  have e2 : ∀ a : Nat, a < n → su (fun j => if a = j then fl.getD i 0 else 0) (List.range n) = fl.getD i 0 := fun a ha => by
    have := su_upd (f := fun _ => 0) (g := fun v => if a = v then fl.getD i 0 else 0) (a := a) (k := fl.getD i 0) _ List.nodup_range (List.mem_range.2 ha) (by simp) (fun x hx => if_neg (fun e => hx e.symm))
    rw [this, su_0 _ (fun _ _ => rfl)]; omega
  rw [e1, e2 _ hb.1, e2 _ hb.2]; omega
theorem wyT_rel {s : Nat} {ws : List (Nat × Nat × Nat)} {R : Int → Int → Prop} {f g : Nat × Nat × Nat → Int → Int} {t u : List Int} (h : WOrd s ws) (hst : s < t.length) (hlt : ∀ w ∈ ws, w.1 < t.length) (hl : u.length = t.length) (h0 : R (t.getD s 0) (u.getD s 0)) (hf : ∀ w ∈ ws, ∀ a b, R a b → R (f w a) (g w b)) : ∀ m : Nat, m ≤ ws.length → ∀ v ∈ s :: (ws.take m).map (fun w => w.1), R ((wyT f (ws.take m) t).getD v 0) ((wyT g (ws.take m) u).getD v 0)
  | 0, _, v, hv => by
    have e : v = s := by simpa using hv
    rw [e]; exact h0
  | m + 1, hm, v, hv => by
    have hg : ws[m]? = some ws[m] := List.getElem?_eq_getElem (by omega)
    obtain ⟨h1, h2, h3⟩ := h.tk hg
    have ih := wyT_rel h hst hlt hl h0 hf m (by omega)
    have hw := hlt _ (List.getElem_mem (show m < ws.length by omega))
    rw [wyT_s hg, wyT_s hg, getD_set, getD_set, wyT_len, wyT_len]
    by_cases c : (ws[m]).1 = v
    · rw [if_pos ⟨c, hw⟩, if_pos ⟨c, by omega⟩]
      exact hf _ (List.getElem_mem _) _ _ (ih _ (h.bf m _ hg))
    · rw [if_neg (fun k => c k.1), if_neg (fun k => c k.1)]
      refine ih v ?_
      rw [h3, List.map_append, ← List.cons_append] at hv
      rcases List.mem_append.1 hv with k | k
      · exact k
      · exact absurd (show (ws[m]).1 = v from (List.mem_singleton.1 k).symm) c
theorem wyT_src {f : Nat × Nat × Nat → Int → Int} {s : Nat} : ∀ (ws : List (Nat × Nat × Nat)) (t : List Int), ¬ s ∈ ws.map (fun w => w.1) → (wyT f ws t).getD s 0 = t.getD s 0
  | [], _, _ => rfl
  | w :: ws, t, h => by
    rw [List.map_cons, List.mem_cons] at h
    show (wyT f ws (t.set w.1 _)).getD s 0 = _
    rw [wyT_src ws _ (fun k => h (.inr k)), getD_set, if_neg (fun k => h (.inl k.1.symm))]
theorem mapSet {xs : List Int} {i : Nat} {x : Int} : (xs.map ci).set i (ci x) = (xs.set i x).map ci := List.map_set.symm
theorem repI {n : Nat} : List.replicate n (ci 0) = (List.replicate n (0 : Int)).map ci := by simp [ci]
theorem repG {n i : Nat} {z : AV} (h : i < n) : (List.replicate n z)[i]? = some z := by rw [List.getElem?_replicate, if_pos h]
theorem sg_f {ps : List Pi} {p : Pi} {i u v : Nat} (hp : ps[i]? = some p) (h : p.fm = (u : Int)) : sgW (ps.map pe) (v, u, i) = (i : Int) + 1 := by
  unfold sgW
  simp only [List.getElem?_map, hp, Option.map_some]
  exact if_pos (by unfold pe; simp only; omega)
theorem sg_t {ps : List Pi} {p : Pi} {i u v : Nat} (hp : ps[i]? = some p) (h0 : 0 ≤ p.fm) (h : ¬ p.fm = (u : Int)) : sgW (ps.map pe) (v, u, i) = -((i : Int) + 1) := by
  unfold sgW
  simp only [List.getElem?_map, hp, Option.map_some]
  exact if_neg (by unfold pe; simp only; omega)
def flS (es : List (Nat × Nat)) (fl : List Int) (w : Nat × Nat × Nat) : Int := match es[w.2.2]? with
  | some e => if w.1 = e.2 then fl.getD w.2.2 0 else -(fl.getD w.2.2 0)
  | none => 0
theorem flS_y {ps : List Pi} {fl : List Int} {w : Nat × Nat × Nat} {p : Pi} {l : Int} (hp : ps[w.2.2]? = some p) (hl : fl[w.2.2]? = some l) : flS (ps.map pe) fl w = if w.1 = p.tt.toNat then l else -l := by
  unfold flS
  rw [List.getElem?_map, hp]
  simp only [Option.map_some, List.getD, hl, Option.getD_some]
  rfl
def wyR (f : Nat × Nat × Nat → Int → Int) (es : List (Nat × Nat)) (n s : Nat) (x : Int) (m : Nat) : List Int := wyT f ((waysF es n s).2.take m) ((List.replicate n 0).set s x)
theorem wyR_len {f : Nat × Nat × Nat → Int → Int} {es : List (Nat × Nat)} {n s m : Nat} {x : Int} : (wyR f es n s x m).length = n := by unfold wyR; rw [wyT_len]; simp
theorem wyR_s {f : Nat × Nat × Nat → Int → Int} {es : List (Nat × Nat)} {n s m : Nat} {x : Int} {w : Nat × Nat × Nat} (h : (waysF es n s).2[m]? = some w) : wyR f es n s x (m + 1) = (wyR f es n s x m).set w.1 (f w ((wyR f es n s x m).getD w.2.1 0)) := wyT_s h
theorem wyR_0 {f : Nat × Nat × Nat → Int → Int} {es : List (Nat × Nat)} {n s : Nat} {x : Int} : (List.replicate n (ci 0)).set s (ci x) = (wyR f es n s x 0).map ci := by
  rw [repI, mapSet]; rfl
theorem getG {t : List Int} {v : Nat} (h : v < t.length) : (t.map ci)[v]? = some (ci (t.getD v 0)) := by
  rw [List.getElem?_map, List.getElem?_eq_getElem h]
  simp [List.getD, h]
structure WayOf (ns : List Int) (ps : List Pi) (w : Nat × Nat × Nat) (p : Pi) : Prop where
  hp : ps[w.2.2]? = some p
  l1 : w.1 < ns.length
  l2 : w.2.1 < ns.length
  ne : ¬ w.1 = w.2.1
  sg : (sgW (ps.map pe) w = (w.2.2 : Int) + 1 ∧ p.fm = (w.2.1 : Int) ∧ p.tt = (w.1 : Int)) ∨ (sgW (ps.map pe) w = -((w.2.2 : Int) + 1) ∧ p.tt = (w.2.1 : Int) ∧ p.fm = (w.1 : Int))
theorem wayOf {ns : List Int} {ps : List Pi} {s : Nat} (ok : netOk ns ps) (hs : s < ns.length) {w : Nat × Nat × Nat} (hw : w ∈ (waysF (ps.map pe) ns.length s).2) : ∃ p, WayOf ns ps w p := by
  obtain ⟨h1, h2, h3, h4, _, e, he, hx⟩ := ways_lt (esF_lt ok) hs hw
  rw [List.length_map] at h4
  have hp : ps[w.2.2]? = some ps[w.2.2] := List.getElem?_eq_getElem h4
  rw [List.getElem?_map, hp] at he
  cases he
  have hpo := (ok.2 _ _ hp).1
  have h5 := hpo.1.2.1
  have h6 := hpo.1.2.2.1
  have h7 := hpo.1.2.2.2.1
  refine ⟨ps[w.2.2], hp, h1, h2, h3, ?_⟩
  rcases nxt_edge hx with c | c
  · left
    have c1 : w.2.1 = (pe ps[w.2.2]).1 := (Prod.mk.inj c).1
    have c2 : w.1 = (pe ps[w.2.2]).2 := (Prod.mk.inj c).2
    unfold pe at c1 c2
    have e1 : (ps[w.2.2]).fm = (w.2.1 : Int) := by simp only at c1; omega
    exact ⟨sg_f (v := w.1) hp e1, e1, by simp only at c2; omega⟩
  · right
    have c1 : w.1 = (pe ps[w.2.2]).1 := (Prod.mk.inj c).1
    have c2 : w.2.1 = (pe ps[w.2.2]).2 := (Prod.mk.inj c).2
    unfold pe at c1 c2
    have e1 : ¬ (ps[w.2.2]).fm = (w.2.1 : Int) := by simp only at c1; omega
    exact ⟨sg_t (v := w.1) hp h5.1 e1, by simp only at c2; omega, by simp only at c1; omega⟩
theorem ways_le {es : List (Nat × Nat)} {n s : Nat} (hr : ∀ e ∈ es, e.1 < n ∧ e.2 < n) (hs : s < n) : (waysF es n s).2.length + 1 ≤ n := by
  rw [ways_len]
  have h := (found_inv hr hs).1
  exact len_le _ h.nd h.lt
theorem wy_get {ws : List (Nat × Nat × Nat)} {m : Nat} {w : Nat × Nat × Nat} (h : ws[m]? = some w) : (ws.map wyA)[((m : Nat) : Int).toNat]? = some (wyA w) := by
  have e : (((m : Nat) : Int)).toNat = m := rfl
  rw [e, List.getElem?_map, h]; rfl
theorem pure_ci {xs : List Int} : (flats (xs.map ci)).all noMem = true := by
  induction xs with
  | nil => rfl
  | cons x xs ih => simp only [List.map_cons, flats, List.flatMap_cons, List.all_append, Bool.and_eq_true]; exact ⟨rfl, ih⟩
def ixs (p : Nat → Prop) [DecidablePred p] : Nat → List Int
  | 0 => []
  | n + 1 => if p n then ixs p n ++ [(n : Int)] else ixs p n
def gd (xs : List Int) (i : Nat) : Int := xs.getD i 0
def bl (x0 y0 x1 y1 x : Int) : Int := if x ≤ x0 ∨ x1 ≤ x0 then y0 else if x ≥ x1 then y1 else y0 + dr ((y1 - y0) * (x - x0)) (x1 - x0)
def boil (x : Int) : Int := if x ≤ 2000 then bl 1000 700 2000 1750 x else if x ≤ 10000 then bl 2000 1750 10000 4580 x else if x ≤ 50000 then bl 10000 4580 50000 8135 x else if x ≤ 101325 then bl 50000 8135 101325 9961 x else if x ≤ 200000 then bl 101325 9961 200000 12023 x else if x ≤ 400000 then bl 200000 12023 400000 14361 x else if x ≤ 600000 then bl 400000 14361 600000 15883 x else if x ≤ 1000000 then bl 600000 15883 1000000 17988 x else bl 1000000 17988 1200000 18796 x
theorem srN_ex (p : Int → Prop) : ∀ n : Nat, ∃ k : Nat, k ≤ n ∧ (∀ j : Nat, j < k → ¬ p j) ∧ (k < n → p k)
  | 0 => ⟨0, Nat.le_refl _, fun j h => absurd h (Nat.not_lt_zero _), fun h => absurd h (Nat.not_lt_zero _)⟩
  | n + 1 => by
    obtain ⟨k, h1, h2, h3⟩ := srN_ex p n
    by_cases e : k = n
    · subst e
      by_cases hp : p k
      · exact ⟨k, by omega, h2, fun _ => hp⟩
      · refine ⟨k + 1, Nat.le_refl _, fun j hj => ?_, fun h => by omega⟩
        by_cases ej : j = k
        · subst ej; exact hp
        · exact h2 j (by omega)
    · exact ⟨k, by omega, h2, fun _ => h3 (by omega)⟩
noncomputable def srN (p : Int → Prop) [DecidablePred p] (n : Nat) : Nat := Classical.choose (srN_ex p n)
noncomputable def lst (p : Int → Prop) [DecidablePred p] (lo hi : Int) : Int := lo + srN (fun i => p (lo + i)) (hi - lo + 1).toNat
set_option maxHeartbeats 4000000 in
noncomputable def stm (t : Int) : Int := lst (fun n => boil n ≥ t) 1000 1200000
noncomputable def ln (xs ds : List Int) : Int := if within xs (-100000000) 100000000 ∧ within ds 0 18000 then (if xs.length = ds.length ∧ xs.length ≤ 16 then 0 else 7) else 2
noncomputable def bc (xs ds : List Int) (m lim : Int) : Int := if (0 ≤ m ∧ m ≤ 1000000) ∧ (0 ≤ lim ∧ lim ≤ 100000000) then ln xs ds else 2
noncomputable def thC (xs : List Int) (lim : Int) : Int := bc xs (List.replicate xs.length 0) 0 lim
def d5 (d : Int) : Int := d * d * d * d * d
theorem d5_bd {d : Int} (h : 20 ≤ d ∧ d ≤ 1000) : 3200000 ≤ d5 d ∧ d5 d ≤ 1000000000000000 ∧ (400 ≤ d * d ∧ d * d ≤ 1000000) ∧ (8000 ≤ d * d * d ∧ d * d * d ≤ 1000000000) ∧ (160000 ≤ d * d * d * d ∧ d * d * d * d ≤ 1000000000000) := by
  have h2l := Int.mul_le_mul h.1 h.1 (by omega) (show (0 : Int) ≤ d by omega)
  have h2u := Int.mul_le_mul h.2 h.2 (by omega) (show (0 : Int) ≤ 1000 by omega)
  have h3l := Int.mul_le_mul h2l h.1 (by omega) (show (0 : Int) ≤ d * d by omega)
  have h3u := Int.mul_le_mul h2u h.2 (by omega) (show (0 : Int) ≤ 1000 * 1000 by omega)
  have h4l := Int.mul_le_mul h3l h.1 (by omega) (show (0 : Int) ≤ d * d * d by omega)
  have h4u := Int.mul_le_mul h3u h.2 (by omega) (show (0 : Int) ≤ 1000 * 1000 * 1000 by omega)
  have h5l := Int.mul_le_mul h4l h.1 (by omega) (show (0 : Int) ≤ d * d * d * d by omega)
  have h5u := Int.mul_le_mul h4u h.2 (by omega) (show (0 : Int) ≤ 1000 * 1000 * 1000 * 1000 by omega)
  unfold d5
  omega
def drN (le q : Int) : Int := le * 16200 * q * (q.natAbs : Int)
theorem drN_bd {le q : Int} (h : 1 ≤ le ∧ le ≤ 10000) (hq : -100000 ≤ q ∧ q ≤ 100000) : (-16200000000000 ≤ le * 16200 * q ∧ le * 16200 * q ≤ 16200000000000) ∧ -1620000000000000000 ≤ drN le q ∧ drN le q ≤ 1620000000000000000 := by
  have h1 := mulS (a := le * 16200) (b := q) (A := 162000000) (B := 100000) (by omega) (by omega) (by omega) (by omega)
  have h2 := mulS (a := le * 16200 * q) (b := (q.natAbs : Int)) (A := 16200000000000) (B := 100000) (by omega) (by omega) (by omega) (by omega)
  unfold drN
  omega
def drp (le di q : Int) : Int := dr (drN le q) (d5 di)
theorem dr_eqP {a b : Int} (hb : 0 < b) : dr a b = if a < 0 then -((b - 2 * a) / (2 * b)) else (2 * a + b) / (2 * b) := by unfold dr drP; rw [if_neg (by omega)]
theorem dr_neg {a b : Int} (hb : 0 < b) : dr (-a) b = - dr a b := by
  rw [dr_eqP hb, dr_eqP hb]
  by_cases h : a < 0
  · rw [if_neg (by omega), if_pos h]
    rw [show 2 * -a + b = b - 2 * a by omega]; omega
  · by_cases h0 : a = 0
    · subst h0
      rw [if_neg (by omega), if_neg (by omega)]
      have : (2 * (0 : Int) + b) / (2 * b) = 0 := Int.ediv_eq_zero_of_lt (by omega) (by omega)
      rw [show 2 * -(0 : Int) + b = 2 * 0 + b by omega, this]; rfl
    · rw [if_pos (by omega), if_neg h]
      rw [show b - 2 * -a = 2 * a + b by omega]
theorem dr_abs {a b B : Int} (hb : 0 < b) (hB : 0 ≤ B) (h : -(b * B) ≤ a ∧ a ≤ b * B) : -B ≤ dr a b ∧ dr a b ≤ B := by
  have key : ∀ a : Int, 0 ≤ a → a ≤ b * B → 0 ≤ dr a b ∧ dr a b ≤ B := fun a h0 h1 => by
    rw [dr_eqP hb, if_neg (by omega)]
    refine ⟨Int.ediv_nonneg (by omega) (by omega), ?_⟩
    have h2 : (2 * a + b) / (2 * b) < B + 1 := by
      refine Int.ediv_lt_of_lt_mul (by omega) ?_
      have e : (B + 1) * (2 * b) = 2 * (b * B) + 2 * b := by rw [Int.add_mul, Int.one_mul, Int.mul_comm B (2 * b), Int.mul_assoc]
      omega
    omega
  by_cases c : 0 ≤ a
  · have := key a c h.2; omega
  · have := key (-a) (by omega) (by omega)
    rw [dr_neg hb] at this; omega
theorem drN_neg {le q : Int} : drN le (-q) = - drN le q := by
  unfold drN
  rw [Int.natAbs_neg, Int.mul_neg, Int.neg_mul]
theorem drp_neg {le di q : Int} (h : 20 ≤ di ∧ di ≤ 1000) : drp le di (-q) = - drp le di q := by
  unfold drp
  rw [drN_neg, dr_neg (by have := (d5_bd h).1; omega)]
theorem drp_nn {le di q : Int} (h : 20 ≤ di ∧ di ≤ 1000) (h2 : 1 ≤ le) (hq : 0 ≤ q) : 0 ≤ drp le di q := by
  have hd := (d5_bd h).1
  have hn : 0 ≤ drN le q := by unfold drN; exact Int.mul_nonneg (Int.mul_nonneg (by omega) hq) (by omega)
  unfold drp
  rw [dr_eqP (by omega), if_neg (by omega)]
  exact Int.ediv_nonneg (by omega) (by omega)
theorem drp_bd {le di q : Int} (h2 : 1 ≤ le ∧ le ≤ 10000) (h : 20 ≤ di ∧ di ≤ 1000) (hq : -100000 ≤ q ∧ q ≤ 100000) : -600000000000 ≤ drp le di q ∧ drp le di q ≤ 600000000000 := by
  have hd := (d5_bd h).1
  have hn := (drN_bd h2 hq).2
  have hm : 3200000 * 600000000000 ≤ d5 di * 600000000000 := Int.mul_le_mul_of_nonneg_right hd (by omega)
  exact dr_abs (by omega) (by omega) ⟨by omega, by omega⟩
def drW (ps : List Pi) (fl : List Int) (w : Nat × Nat × Nat) : Int := match ps[w.2.2]? with
  | some p => drp p.le p.di (flS (ps.map pe) fl w)
  | none => 0
theorem drW_eq {ps : List Pi} {fl : List Int} {w : Nat × Nat × Nat} {p : Pi} (h : ps[w.2.2]? = some p) : drW ps fl w = drp p.le p.di (flS (ps.map pe) fl w) := by unfold drW; rw [h]
def riW (ns : List Int) (w : Nat × Nat × Nat) : Int := dr (981 * (ns.getD w.1 0 - ns.getD w.2.1 0)) 10
theorem riW_bd {ns : List Int} {w : Nat × Nat × Nat} (h1 : -100000 ≤ ns.getD w.1 0 ∧ ns.getD w.1 0 ≤ 100000) (h2 : -100000 ≤ ns.getD w.2.1 0 ∧ ns.getD w.2.1 0 ≤ 100000) : -20000000 ≤ riW ns w ∧ riW ns w ≤ 20000000 := by
  unfold riW
  exact dr_abs (by omega) (by omega) ⟨by omega, by omega⟩
def prF (ns : List Int) (ps : List Pi) (fl : List Int) (w : Nat × Nat × Nat) (a : Int) : Int := a - drW ps fl w - riW ns w
theorem prF_eq {ns : List Int} {ps : List Pi} {fl : List Int} {w : Nat × Nat × Nat} {a : Int} : prF ns ps fl w a = a - drW ps fl w - riW ns w := rfl
def dfF (ps : List Pi) (fl : List Int) (w : Nat × Nat × Nat) (a : Int) : Int := a - 2 * drW ps fl w
def dropP (ps : List Pi) (fl : List Int) : Prop := ∀ (i : Nat) (p : Pi) (l : Int), ps[i]? = some p → fl[i]? = some l → (drp p.le p.di l).natAbs ≤ 100000000
noncomputable instance (ps : List Pi) (fl : List Int) : Decidable (dropP ps fl) := Classical.propDecidable _
theorem nsG {ns : List Int} (h : within ns (-100000) 100000) (v : Nat) : -100000 ≤ ns.getD v 0 ∧ ns.getD v 0 ≤ 100000 := by
  unfold List.getD
  cases hg : ns[v]? with
  | none => simp
  | some a => exact h v a hg
theorem wyT_grow {f : Nat × Nat × Nat → Int → Int} {C : Int} (hC : 0 ≤ C) : ∀ (ws : List (Nat × Nat × Nat)) (t : List Int) (B : Int), 0 ≤ B → (∀ w ∈ ws, ∀ a, -C ≤ f w a - a ∧ f w a - a ≤ C) → (∀ v, -B ≤ t.getD v 0 ∧ t.getD v 0 ≤ B) → ∀ v, -(B + C * ws.length) ≤ (wyT f ws t).getD v 0 ∧ (wyT f ws t).getD v 0 ≤ B + C * ws.length
  | [], t, B, _, _, ht, v => by have := ht v; simp only [List.length_nil, Int.natCast_zero, Int.mul_zero, Int.add_zero]; exact this
  | w :: ws, t, B, hB, hf, ht, v => by
    have ih := wyT_grow hC ws (t.set w.1 (f w (t.getD w.2.1 0))) (B + C) (by omega) (fun x hx => hf x (List.mem_cons_of_mem _ hx)) (fun u => by
      have h1 := ht u
      have h2 := ht w.2.1
      have h3 := hf w List.mem_cons_self (t.getD w.2.1 0)
      rw [getD_set]
      split <;> omega) v
    have e : C * ((ws.length + 1 : Nat) : Int) = C * (ws.length : Int) + C := by rw [Int.natCast_add, Int.mul_add]; simp
    show -(B + C * ((ws.length + 1 : Nat) : Int)) ≤ (wyT f ws (t.set w.1 (f w (t.getD w.2.1 0)))).getD v 0 ∧ (wyT f ws (t.set w.1 (f w (t.getD w.2.1 0)))).getD v 0 ≤ B + C * ((ws.length + 1 : Nat) : Int)
    rw [e]
    omega
theorem wyR_grow {f : Nat × Nat × Nat → Int → Int} {es : List (Nat × Nat)} {n s m : Nat} {x C : Int} (hr : ∀ e ∈ es, e.1 < n ∧ e.2 < n) (hs : s < n) (hn : n ≤ 16) (hx : -100000000 ≤ x ∧ x ≤ 100000000) (hC : 0 ≤ C ∧ C ≤ 10000000000000) (hf : ∀ w ∈ (waysF es n s).2, ∀ a, -C ≤ f w a - a ∧ f w a - a ≤ C) (v : Nat) : -(100000000 + C * 16) ≤ (wyR f es n s x m).getD v 0 ∧ (wyR f es n s x m).getD v 0 ≤ 100000000 + C * 16 := by
  have h := wyT_grow (f := f) hC.1 ((waysF es n s).2.take m) ((List.replicate n 0).set s x) 100000000 (by omega) (fun w hw => hf w (List.mem_of_mem_take hw)) (fun u => by
    rw [getD_set]
    split
    · exact hx
    · unfold List.getD
      rw [List.getElem?_replicate]
      split <;> simp) v
  have hl := ways_le hr hs
  have hl2 : ((waysF es n s).2.take m).length ≤ 16 := by rw [List.length_take]; omega
  have hm : C * (((waysF es n s).2.take m).length : Int) ≤ C * 16 := Int.mul_le_mul_of_nonneg_left (by omega) hC.1
  unfold wyR
  omega
theorem drW_bd {ns : List Int} {ps : List Pi} {fl : List Int} {s : Nat} (ok : netOk ns ps) (hfl : flP ps fl) {w : Nat × Nat × Nat} (hs : s < ns.length) (hw : w ∈ (waysF (ps.map pe) ns.length s).2) : -600000000000 ≤ drW ps fl w ∧ drW ps fl w ≤ 600000000000 := by
  obtain ⟨p, hW⟩ := wayOf ok hs hw
  have hpo := (ok.2 _ p hW.hp).1.1
  have hpl := (List.getElem?_eq_some_iff.1 hW.hp).1
  have hl : fl[w.2.2]? = some (fl[w.2.2]'(by have := hfl.1; omega)) := List.getElem?_eq_getElem (by have := hfl.1; omega)
  have hlb := hfl.2 _ _ hl
  have hfs := flS_y hW.hp hl
  rw [drW_eq hW.hp]
  refine drp_bd hpo.2.2.2.2.1 hpo.2.2.2.2.2.1 ?_
  rw [hfs]; split <;> omega
theorem drW_ab {ps : List Pi} {fl : List Int} {w : Nat × Nat × Nat} {p : Pi} {l : Int} (hp : ps[w.2.2]? = some p) (hl : fl[w.2.2]? = some l) (hd : 20 ≤ p.di ∧ p.di ≤ 1000) : (drW ps fl w).natAbs = (drp p.le p.di l).natAbs := by
  rw [drW_eq hp, flS_y hp hl]
  split
  · rfl
  · rw [drp_neg hd, Int.natAbs_neg]
theorem drop_ways {ns : List Int} {ps : List Pi} {fl : List Int} {s : Nat} (ok : netOk ns ps) (hfl : flP ps fl) (ht : treeP ns ps) (hs : s < ns.length) (h : ∀ w ∈ (waysF (ps.map pe) ns.length s).2, (drW ps fl w).natAbs ≤ 100000000) : dropP ps fl := fun i p l hp hl => by
  have hpl := (List.getElem?_eq_some_iff.1 hp).1
  have hc : ∀ v, v < ns.length → Conn (ps.map pe) s v := fun v hv => (ht.2 s hs).symm.trans (ht.2 v hv)
  obtain ⟨w, hw, e⟩ := ways_all (esF_lt ok) hs hc (by rw [List.length_map]; exact ht.1) (i := i) (by rw [List.length_map]; exact hpl)
  subst e
  rw [← drW_ab hp hl (ok.2 _ p hp).1.1.2.2.2.2.2.1]
  exact h w hw
theorem prF_d {ns : List Int} {ps : List Pi} {fl : List Int} {s : Nat} (ok : netOk ns ps) (hfl : flP ps fl) (hs : s < ns.length) : ∀ w ∈ (waysF (ps.map pe) ns.length s).2, ∀ a, -1000000000000 ≤ prF ns ps fl w a - a ∧ prF ns ps fl w a - a ≤ 1000000000000 := fun w hw a => by
  have h1 := drW_bd ok hfl hs hw
  have h2 := riW_bd (ns := ns) (w := w) (nsG ok.1.2.1 _) (nsG ok.1.2.1 _)
  unfold prF; omega
theorem dfF_d {ns : List Int} {ps : List Pi} {fl : List Int} {s : Nat} (ok : netOk ns ps) (hfl : flP ps fl) (hs : s < ns.length) : ∀ w ∈ (waysF (ps.map pe) ns.length s).2, ∀ a, -2000000000000 ≤ dfF ps fl w a - a ∧ dfF ps fl w a - a ≤ 2000000000000 := fun w hw a => by
  have h1 := drW_bd ok hfl hs hw
  unfold dfF; omega
def dgP (ns ds : List Int) : Prop := ds.length = ns.length ∧ within ds 0 18000
noncomputable instance (ns ds : List Int) : Decidable (dgP ns ds) := Classical.propDecidable _
def cb (n : Int) : AV := .s (.int .u8 n)
def src (cs : List Int) (a s : Int) : List AV := [.lst 1 (cs.map cb), .s (.int .i64 a), .s (.int .u64 s)]
def byteL (cs : List Int) : Prop := ∀ x ∈ cs, 0 ≤ x ∧ x ≤ 255
theorem and255 {x n : Int} (h : n = bitsI .and .u64 x 255) : 0 ≤ n ∧ n ≤ 255 := by
  subst h
  simp only [bitsI]
  have h1 : ((BitVec.ofInt IntKind.u64.bits x) &&& (BitVec.ofInt IntKind.u64.bits 255)).toNat ≤ 255 := by
    rw [BitVec.toNat_and]
    exact Nat.le_trans Nat.and_le_right (by decide)
  generalize ((BitVec.ofInt IntKind.u64.bits x) &&& (BitVec.ofInt IntKind.u64.bits 255)).toNat = m at h1
  have e : IntKind.u64.wrap (m : Int) = (m : Int) % 18446744073709551616 := by simp [IntKind.wrap, IntKind.bits, IntKind.signed]
  rw [e]; omega
def idL : List ByteArray := [⟨#[97]⟩, ⟨#[98]⟩, ⟨#[99]⟩, ⟨#[100]⟩, ⟨#[101]⟩, ⟨#[102]⟩, ⟨#[103]⟩, ⟨#[104]⟩, ⟨#[105]⟩, ⟨#[106]⟩, ⟨#[107]⟩, ⟨#[108]⟩]
def dpB (p : Pi) : Prop := (20 ≤ p.le ∧ p.le ≤ 919) ∧ (60 ≤ p.di ∧ p.di ≤ 440) ∧ (100 ≤ p.lo ∧ p.lo ≤ 699)
def trI (i : Nat) (p : Pi) : Prop := idL[i]? = some p.id ∧ dpB p ∧ ((p.fm = (i : Int) + 1 ∧ 0 ≤ p.tt ∧ p.tt ≤ i) ∨ (p.tt = (i : Int) + 1 ∧ 0 ≤ p.fm ∧ p.fm ≤ i))
def trA (ps : List Pi) : Prop := ∀ (i : Nat) (p : Pi), ps[i]? = some p → trI i p
theorem trA_app {ps : List Pi} {p : Pi} (h : trA ps) (hp : trI ps.length p) : trA (ps ++ [p]) := fun i q hq => by
  by_cases c : i < ps.length
  · rw [List.getElem?_append_left c] at hq; exact h i q hq
  · have hl := (List.getElem?_eq_some_iff.1 hq).1
    simp at hl
    have e : i = ps.length := by omega
    subst e
    rw [List.getElem?_append_right (Nat.le_refl _)] at hq
    simp at hq; subst hq; exact hp
def nsB (ns : List Int) : Prop := ∀ x ∈ ns, -1000 ≤ x ∧ x ≤ 2900
theorem nsB_app {ns : List Int} {x : Int} (h : nsB ns) (hx : -1000 ≤ x ∧ x ≤ 2900) : nsB (ns ++ [x]) := fun y hy => by
  rcases List.mem_append.1 hy with c | c
  · exact h y c
  · simp at c; subst c; exact hx
structure DrT (ns : List Int) (ps : List Pi) : Prop where
  n2 : 2 ≤ ns.length
  n6 : ns.length ≤ 6
  pl : ps.length + 1 = ns.length
  nb : nsB ns
  tr : trA ps
theorem idL_ok : ∀ i : Nat, i < 12 → ∃ t, idL[i]? = some t ∧ isName t = true ∧ t.size ≤ 1 ∧ ∀ s, 0 < i → idL[i - 1]? = some s → idLt s t := by
  intro i hi
  rcases (by omega : i = 0 ∨ i = 1 ∨ i = 2 ∨ i = 3 ∨ i = 4 ∨ i = 5 ∨ i = 6 ∨ i = 7 ∨ i = 8 ∨ i = 9 ∨ i = 10 ∨ i = 11) with h | h | h | h | h | h | h | h | h | h | h | h <;> subst h <;> refine ⟨_, rfl, by decide +kernel, by decide +kernel, fun s hs he => ?_⟩ <;> first | omega | (cases he; unfold idLt; decide +kernel)
theorem DrT.net {ns : List Int} {ps : List Pi} (h : DrT ns ps) : netOk ns ps := by
  have h2 := h.n2
  have h6 := h.n6
  have hl := h.pl
  refine ⟨⟨⟨by omega, by omega⟩, fun j q hq => ?_, by omega⟩, fun j x hx => ?_⟩
  · have := h.nb q (List.mem_of_getElem? hq); omega
  · have hj := (List.getElem?_eq_some_iff.1 hx).1
    obtain ⟨t1, ⟨t2, t3, t4⟩, t5⟩ := h.tr j x hx
    obtain ⟨t, u1, u2, _, u3⟩ := idL_ok j (by omega)
    have e : t = x.id := by rw [t1] at u1; exact (Option.some.inj u1).symm
    subst e
    refine ⟨⟨⟨u2, by omega, by omega, by omega, by omega, by omega, by omega⟩, by omega, by omega⟩, fun y h0 hy => ?_⟩
    exact u3 _ h0 (h.tr (j - 1) y hy).1
theorem DrT.tree {ns : List Int} {ps : List Pi} (h : DrT ns ps) : treeP ns ps := by
  refine ⟨h.pl, fun v hv => ?_⟩
  induction v using Nat.strongRecOn with
  | _ v ih =>
    cases v with
    | zero => exact .rfl _
    | succ i =>
      have hl := h.pl
      have hi : i < ps.length := by omega
      have hp : ps[i]? = some ps[i] := List.getElem?_eq_getElem hi
      have hm : pe ps[i] ∈ ps.map pe := List.mem_map_of_mem (List.getElem_mem hi)
      obtain ⟨_, _, h3 | h3⟩ := h.tr i _ hp
      · refine .step (ih (ps[i]).tt.toNat (by omega) (by omega)) (.inr ?_)
        have e : (i + 1, (ps[i]).tt.toNat) = pe ps[i] := by unfold pe; rw [h3.1]; congr 1
        rw [e]; exact hm
      · refine .step (ih (ps[i]).fm.toNat (by omega) (by omega)) (.inl ?_)
        have e : ((ps[i]).fm.toNat, i + 1) = pe ps[i] := by unfold pe; rw [h3.1]; congr 1
        rw [e]; exact hm
theorem DrT.idz {ns : List Int} {ps : List Pi} (h : DrT ns ps) : idSz ps := fun j x hx => by
  have hj := (List.getElem?_eq_some_iff.1 hx).1
  have hl := h.pl
  have h6 := h.n6
  obtain ⟨t, u1, _, u2, _⟩ := idL_ok j (by omega)
  have e : t = x.id := by rw [(h.tr j x hx).1] at u1; exact (Option.some.inj u1).symm
  rw [← e]; omega
def sAV (s : ByteArray) : AV := .s (.string s)
theorem idG {i : Nat} {k : Int} {nm : ByteArray} (h : idL[i]? = some nm) (hk : k = (i : Int)) : (idL.map sAV)[k.toNat]? = some (.s (.string nm)) := by
  rw [show k.toNat = i by omega, List.getElem?_map, h]; rfl
def dmP (ns ds : List Int) : Prop := ds.length = ns.length ∧ ∀ x ∈ ds, 0 ≤ x ∧ x ≤ 2000
theorem dmP.g {ns ds : List Int} (h : dmP ns ds) (v : Nat) : 0 ≤ ds.getD v 0 ∧ ds.getD v 0 ≤ 2000 := by
  unfold List.getD
  cases hg : ds[v]? with
  | none => simp
  | some a => exact h.2 a (List.mem_of_getElem? hg)
theorem sm_le {es : List (Nat × Nat)} {n s : Nat} {ds : List Int} (hr : ∀ e ∈ es, e.1 < n ∧ e.2 < n) (hs : s < n) (hn : n ≤ 16) (hl : ds.length = n) (hd : ∀ v, 0 ≤ ds.getD v 0 ∧ ds.getD v 0 ≤ 2000) {m v : Nat} (hm : m ≤ (waysF es n s).2.length) (hv : v ∈ s :: ((waysF es n s).2.take m).map fun w => w.1) : 0 ≤ (smB ((waysF es n s).2.drop m) ds).getD v 0 ∧ (smB ((waysF es n s).2.drop m) ds).getD v 0 ≤ 2000 * n := by
  have hord := ways_ord hr hs
  have hlt : ∀ w ∈ (waysF es n s).2, w.2.1 < ds.length := fun w hw => by rw [hl]; exact (ways_lt hr hs hw).2.1
  have ht := smB_tot (d := ds) hord hlt ((waysF es n s).2.length - m) m (by omega)
  have hnn := smB_nn ((waysF es n s).2.drop m) ds (fun v => (hd v).1)
  refine ⟨hnn v, ?_⟩
  have h1 := su_mem (f := fun v => (smB ((waysF es n s).2.drop m) ds).getD v 0) _ (fun y _ => hnn y) hv
  have h2 := su_le (f := fun v => ds.getD v 0) (b := 2000) (s :: (waysF es n s).2.map fun w => w.1) (fun x _ => (hd x).2)
  have h3 := ways_le hr hs
  have h4 : ((s :: (waysF es n s).2.map fun w => w.1).length : Int) ≤ n := by simp; omega
  have h5 : (2000 : Int) * ((s :: (waysF es n s).2.map fun w => w.1).length : Int) ≤ 2000 * n := by omega
  exact Int.le_trans h1 (by rw [ht]; omega)
theorem flW_P {ns : List Int} {ps : List Pi} {S : List Int} {w : Nat × Nat × Nat} {p : Pi} (h : WayOf ns ps w p) (hf : p.fm = (w.2.1 : Int)) : flW (ps.map pe) S w = S.getD w.1 0 := by
  unfold flW
  rw [List.getElem?_map, h.hp]
  exact if_neg (by unfold pe; simp only; have := h.ne; omega)
theorem flW_M {ns : List Int} {ps : List Pi} {S : List Int} {w : Nat × Nat × Nat} {p : Pi} (h : WayOf ns ps w p) (hf : p.fm = (w.1 : Int)) : flW (ps.map pe) S w = -(S.getD w.1 0) := by
  unfold flW
  rw [List.getElem?_map, h.hp]
  exact if_pos (by unfold pe; simp only; omega)
theorem drop_c {α : Type} {l : List α} {j : Nat} {w : α} (h : l[j]? = some w) : l.drop j = w :: l.drop (j + 1) := by
  obtain ⟨hl, he⟩ := List.getElem?_eq_some_iff.1 h
  rw [List.drop_eq_getElem_cons hl, he]
def lmB (f : Nat → Int) : Nat → Nat
  | 0 => 0
  | n + 1 => if n = 0 ∨ f n < f (lmB f n) then n else lmB f n
noncomputable def lmF (xs ds : List Int) (i : Nat) : Int := gd xs i - stm (gd ds i)
noncomputable def lmC (xs ds : List Int) : Int := if ln xs ds = 0 then (if xs.length = 0 then 3 else 0) else ln xs ds
def bnP (xs ds : List Int) (m : Int) (i : Nat) : Prop := gd xs i < stm (gd ds i) + m
noncomputable instance (xs ds : List Int) (m : Int) : DecidablePred (bnP xs ds m) := fun i => by unfold bnP; infer_instance
noncomputable def bnC (xs ds : List Int) (m : Int) : Int := bc xs ds m 0
noncomputable def bnL (xs ds : List Int) (m : Int) : List Int := if bnC xs ds m = 0 then ixs (bnP xs ds m) xs.length else []
noncomputable def prG (xs ds : List Int) (m : Int) (i : Nat) : Int := stm (gd ds i) + m - gd xs i
def prL (g : Nat → Int) : Nat → Int
  | 0 => -9223372036854775808
  | n + 1 => if prL g n < g n then g n else prL g n
def prH (h : Nat → Int) : Nat → Int
  | 0 => 9223372036854775807
  | n + 1 => if h n < prH h n then h n else prH h n
def prh (xs : List Int) (lim : Int) (i : Nat) : Int := lim - gd xs i
noncomputable def prC (xs ds : List Int) (m lim : Int) : Int := if bc xs ds m lim = 0 then (if xs.length = 0 then 6 else if prL (prG xs ds m) xs.length > prH (prh xs lim) xs.length then 3 else 0) else bc xs ds m lim
theorem S_le {es : List (Nat × Nat)} {n s : Nat} {ds : List Int} (hr : ∀ e ∈ es, e.1 < n ∧ e.2 < n) (hs : s < n) (hn : n ≤ 6) (hl : ds.length = n) (hd : ∀ v, 0 ≤ ds.getD v 0 ∧ ds.getD v 0 ≤ 2000) {w : Nat × Nat × Nat} (hw : w ∈ (waysF es n s).2) : 0 ≤ (smB (waysF es n s).2 ds).getD w.1 0 ∧ (smB (waysF es n s).2 ds).getD w.1 0 ≤ 12000 := by
  have h := smB_le (d := ds) (ways_ord hr hs) (fun w hw => by rw [hl]; exact (ways_lt hr hs hw).2.1) (fun v => (hd v).1) hw
  have h2 := su_le (f := fun v => ds.getD v 0) (b := 2000) (s :: (waysF es n s).2.map fun w => w.1) (fun x _ => (hd x).2)
  have h3 := ways_le hr hs
  have h4 : ((s :: (waysF es n s).2.map fun w => w.1).length : Int) ≤ 6 := by simp; omega
  refine ⟨h.1, Int.le_trans h.2 ?_⟩
  omega
def flT (ns : List Int) (ps : List Pi) (s : Nat) (dm : List Int) : List Int := flL (ps.map pe) (smB (waysF (ps.map pe) ns.length s).2 dm) (waysF (ps.map pe) ns.length s).2
theorem flT_ok {ns : List Int} {ps : List Pi} {s : Nat} {dm : List Int} (h : DrT ns ps) (hs : s < ns.length) (hd : dmP ns dm) : flP ps (flT ns ps s dm) := by
  refine ⟨by unfold flT; rw [flL_len, List.length_map], fun j q hq => ?_⟩
  have hm := List.mem_of_getElem? hq
  unfold flT flL at hm
  obtain ⟨i, hi, rfl⟩ := List.mem_map.1 hm
  cases hw : wpi (waysF (ps.map pe) ns.length s).2 i with
  | none => simp
  | some w =>
    have hwm : w ∈ (waysF (ps.map pe) ns.length s).2 := List.mem_of_find?_eq_some hw
    have hS := S_le (esF_lt h.net) hs h.n6 hd.1 hd.g hwm
    simp only
    unfold flW
    split
    · split <;> omega
    · omega
theorem flT_al {ns : List Int} {ps : List Pi} {s : Nat} {dm : List Int} (h : DrT ns ps) (hs : s < ns.length) (hd : dmP ns dm) {w : Nat × Nat × Nat} (hw : w ∈ (waysF (ps.map pe) ns.length s).2) : flS (ps.map pe) (flT ns ps s dm) w = (smB (waysF (ps.map pe) ns.length s).2 dm).getD w.1 0 := by
  obtain ⟨p, hW⟩ := wayOf h.net hs hw
  have hpl := (List.getElem?_eq_some_iff.1 hW.hp).1
  have hg := flL_get (es := ps.map pe) (S := smB (waysF (ps.map pe) ns.length s).2 dm) (waysF_in2 (es := ps.map pe) (n := ns.length) (s := s)).pn hw (by rw [List.length_map]; exact hpl)
  have hl : (flT ns ps s dm)[w.2.2]? = some (flW (ps.map pe) (smB (waysF (ps.map pe) ns.length s).2 dm) w) := hg
  have hne := hW.ne
  rw [flS_y hW.hp hl]
  rcases hW.sg with ⟨_, e1, e2⟩ | ⟨_, e1, e2⟩
  · rw [if_pos (by omega), flW_P hW e1]
  · rw [if_neg (by omega), flW_M hW e2]; omega
theorem drW_T {ns : List Int} {ps : List Pi} {s : Nat} {dm : List Int} (h : DrT ns ps) (hs : s < ns.length) (hd : dmP ns dm) {w : Nat × Nat × Nat} (hw : w ∈ (waysF (ps.map pe) ns.length s).2) : 0 ≤ drW ps (flT ns ps s dm) w ∧ drW ps (flT ns ps s dm) w ≤ 3000000 := by
  obtain ⟨p, hW⟩ := wayOf h.net hs hw
  have hS := S_le (esF_lt h.net) hs h.n6 hd.1 hd.g hw
  obtain ⟨_, ⟨t1, t2, t3⟩, _⟩ := h.tr _ p hW.hp
  rw [drW_eq hW.hp, flT_al h hs hd hw]
  generalize (smB (waysF (ps.map pe) ns.length s).2 dm).getD w.1 0 = q at hS
  have h1 := drp_nn (le := p.le) (di := p.di) (q := q) (by omega) (by omega) hS.1
  refine ⟨h1, ?_⟩
  have d1 := (d5_bd (d := p.di) (by omega)).1
  have d2 : 777600000 ≤ d5 p.di := by
    have m2 := Int.mul_le_mul t2.1 t2.1 (by omega) (show (0 : Int) ≤ p.di by omega)
    have m3 := Int.mul_le_mul m2 t2.1 (by omega) (show (0 : Int) ≤ p.di * p.di by omega)
    have m4 := Int.mul_le_mul m3 t2.1 (by omega) (show (0 : Int) ≤ p.di * p.di * p.di by omega)
    have m5 := Int.mul_le_mul m4 t2.1 (by omega) (show (0 : Int) ≤ p.di * p.di * p.di * p.di by omega)
    unfold d5; omega
  have n1 : 0 ≤ p.le * 16200 * q ∧ p.le * 16200 * q ≤ 14887800 * 12000 := mulB (a := p.le * 16200) (A := 14887800) (by omega) (by omega) hS.1 hS.2
  have n2 : 0 ≤ drN p.le q ∧ drN p.le q ≤ 14887800 * 12000 * 12000 := by
    unfold drN
    exact mulB n1.1 n1.2 (by omega) (by omega)
  have m : 777600000 * 3000000 ≤ d5 p.di * 3000000 := Int.mul_le_mul_of_nonneg_right d2 (by omega)
  exact (dr_abs (by omega) (by omega) ⟨by omega, by omega⟩).2
theorem nsG2 {ns : List Int} (h : nsB ns) (v : Nat) : -1000 ≤ ns.getD v 0 ∧ ns.getD v 0 ≤ 2900 := by
  unfold List.getD
  cases hg : ns[v]? with
  | none => simp
  | some a => exact h a (List.mem_of_getElem? hg)
theorem riW_T {ns : List Int} (h : nsB ns) (w : Nat × Nat × Nat) : -400000 ≤ riW ns w ∧ riW ns w ≤ 400000 := by
  have h1 := nsG2 h w.1
  have h2 := nsG2 h w.2.1
  unfold riW
  exact dr_abs (by omega) (by omega) ⟨by omega, by omega⟩
def prT (ns : List Int) (ps : List Pi) (s : Nat) (dm : List Int) (x : Int) : List Int := wyR (prF ns ps (flT ns ps s dm)) (ps.map pe) ns.length s x (waysF (ps.map pe) ns.length s).2.length
theorem prT_len {ns : List Int} {ps : List Pi} {s : Nat} {dm : List Int} {x : Int} : (prT ns ps s dm x).length = ns.length := wyR_len
theorem prT_0 {ns : List Int} {ps : List Pi} {s : Nat} {dm : List Int} (h : DrT ns ps) (hs : s < ns.length) (hd : dmP ns dm) (v : Nat) : -17000000 ≤ (prT ns ps s dm 0).getD v 0 ∧ (prT ns ps s dm 0).getD v 0 ≤ 17000000 := by
  have hl := ways_le (esF_lt h.net) hs
  have h6 := h.n6
  have g := wyT_grow (f := prF ns ps (flT ns ps s dm)) (C := 3400000) (by omega) ((waysF (ps.map pe) ns.length s).2.take (waysF (ps.map pe) ns.length s).2.length) ((List.replicate ns.length 0).set s 0) 0 (by omega) (fun w hw a => by
    have h1 := drW_T h hs hd (List.mem_of_mem_take hw)
    have h2 := riW_T h.nb w
    rw [prF_eq]; omega) (fun u => by
    rw [getD_set]
    split
    · omega
    · unfold List.getD
      rw [List.getElem?_replicate]
      split <;> simp) v
  rw [List.length_take] at g
  unfold prT wyR
  omega
theorem tree_mem {ns : List Int} {ps : List Pi} {s v : Nat} (h : DrT ns ps) (hs : s < ns.length) (hv : v < ns.length) : v ∈ s :: (waysF (ps.map pe) ns.length s).2.map fun w => w.1 := by
  rw [← (waysF_in2 (es := ps.map pe) (n := ns.length) (s := s)).hd, waysF_1]
  exact ((found_inv (esF_lt h.net) hs).2 v).2 ((h.tree.2 s hs).symm.trans (h.tree.2 v hv))
theorem rep_s {n s : Nat} {x : Int} (hs : s < n) : ((List.replicate n 0).set s x).getD s 0 = x := by
  rw [getD_set, if_pos ⟨rfl, by simpa using hs⟩]
theorem prT_x {ns : List Int} {ps : List Pi} {s : Nat} {dm : List Int} {x : Int} (h : DrT ns ps) (hs : s < ns.length) {v : Nat} (hv : v < ns.length) : (prT ns ps s dm x).getD v 0 = (prT ns ps s dm 0).getD v 0 + x := by
  have hm := tree_mem h hs hv
  have := wyT_rel (R := fun a b => b = a + x) (f := prF ns ps (flT ns ps s dm)) (g := prF ns ps (flT ns ps s dm)) (t := (List.replicate ns.length 0).set s 0) (u := (List.replicate ns.length 0).set s x) (ways_ord (esF_lt h.net) hs) (by simpa using hs) (fun w hw => by simpa using (ways_lt (esF_lt h.net) hs hw).1) (by simp) (by rw [rep_s hs, rep_s hs]; omega) (fun w _ a b hab => by rw [prF_eq, prF_eq]; omega) (waysF (ps.map pe) ns.length s).2.length (Nat.le_refl _) v (by rw [List.take_length]; exact hm)
  exact this
theorem drT_ok {ns : List Int} {ps : List Pi} {s : Nat} {dm : List Int} (h : DrT ns ps) (hs : s < ns.length) (hd : dmP ns dm) : dropP ps (flT ns ps s dm) := drop_ways h.net (flT_ok h hs hd) h.tree hs (fun w hw => by have := drW_T h hs hd hw; omega)
structure FB (ns : List Int) (ps : List Pi) (s : Nat) (dm ds : List Int) (mg L : Int) : Prop where
  r : 0 ≤ L ∧ L ≤ 20000000
  w : ∀ x, 0 ≤ x → x ≤ 20000000 → bc (prT ns ps s dm x) ds mg 0 = 0 ∧ (∀ lim, 0 ≤ lim → lim ≤ 100000000 → bc (prT ns ps s dm x) ds mg lim = 0) ∧ thC (prT ns ps s dm x) 700000 = 0 ∧ ln (prT ns ps s dm x) ds = 0
  b : (bnL (prT ns ps s dm L) ds mg).length = 0
  m : lmC (prT ns ps s dm L) ds = 0 ∧ lmB (lmF (prT ns ps s dm L) ds) ns.length < ns.length ∧ mg ≤ lmF (prT ns ps s dm L) ds (lmB (lmF (prT ns ps s dm L) ds) ns.length) ∧ (0 < L → lmF (prT ns ps s dm L) ds (lmB (lmF (prT ns ps s dm L) ds) ns.length) = mg)
  p : prC (prT ns ps s dm L) ds mg 100000000 = 0 ∧ prL (prG (prT ns ps s dm L) ds mg) ns.length ≤ 0 ∧ prL (prG (prT ns ps s dm L) ds mg) ns.length ≤ prH (prh (prT ns ps s dm L) 100000000) ns.length ∧ (0 < L → prL (prG (prT ns ps s dm L) ds mg) ns.length = 0)
  l : 0 < L → ¬ (bnL (prT ns ps s dm (L - 1)) ds mg).length = 0
def r8a (cs : List Int) (k n : Int) : Int := if n ≤ 1 ∨ k ≥ cs.length then 0 else (cs.getD k.toNat 0) % n
theorem r8a_bd {cs : List Int} {k n : Int} (h : 1 ≤ n) : 0 ≤ r8a cs k n ∧ r8a cs k n < n := by
  unfold r8a; split
  · omega
  · exact ⟨Int.emod_nonneg _ (by omega), Int.emod_lt_of_pos _ (by omega)⟩
theorem dmP_app {ns u : List Int} {v : Int} (h : ∀ x ∈ u, 0 ≤ x ∧ x ≤ 2000) (hv : 0 ≤ v ∧ v ≤ 2000) : ∀ x ∈ u ++ [v], 0 ≤ x ∧ x ≤ 2000 := fun x hx => by
  rcases List.mem_append.1 hx with c | c
  · exact h x c
  · simp at c; subst c; exact hv
theorem fc_y {ns : List Int} {ps : List Pi} {s : Int} {fl : List Int} (h1 : netOk ns ps) (h2 : 0 ≤ s ∧ s < ns.length) (h3 : flP ps fl) (h4 : treeP ns ps) : fcC ns ps s fl = 0 := by
  unfold fcC; rw [if_pos h1, if_pos h2, if_pos h3, if_pos h4]
theorem dfF_eq {ps : List Pi} {fl : List Int} {w : Nat × Nat × Nat} {a : Int} : dfF ps fl w a = a - 2 * drW ps fl w := rfl
theorem dmP_w {ns : List Int} {dm : List Int} (h : dmP ns dm) : within dm 0 100000 := fun j q hq => by
  have := h.2 q (List.mem_of_getElem? hq); omega
theorem nilMap {α : Type} {f : α → AV} {xs : List α} (h : (xs.map f).length = 0) : xs = [] := by simpa using h
def wr (x : Int) : Int := IntKind.i64.wrap x
theorem wr_id {x : Int} (h0 : -9223372036854775808 ≤ x) (h1 : x ≤ 9223372036854775807) : wr x = x := by unfold wr; rw [IntKind.wrap_i64]; omega
def tfw (ps : List Pi) (st : List Int × List Int) (w : Nat × Nat × Nat) : List Int × List Int :=
  (st.1.set w.2.1 (wr (st.1.getD w.2.1 0 + st.1.getD w.1 0)),
    match ps[w.2.2]? with
    | some p => if p.fm = (w.1 : Int) then (st.2.set w.2.2 ((st.1.set w.2.1 (wr (st.1.getD w.2.1 0 + st.1.getD w.1 0))).getD w.1 0)).set w.2.2 (wr (0 - (st.1.set w.2.1 (wr (st.1.getD w.2.1 0 + st.1.getD w.1 0))).getD w.1 0)) else st.2.set w.2.2 ((st.1.set w.2.1 (wr (st.1.getD w.2.1 0 + st.1.getD w.1 0))).getD w.1 0)
    | none => st.2)
def wvA (ws : List (Nat × Nat × Nat)) (x : Nat) : Nat × Nat × Nat := ws.getD x (ws.getD 0 (0, 0, 0))
theorem wvA_mem {ws : List (Nat × Nat × Nat)} (h : 0 < ws.length) (x : Nat) : wvA ws x ∈ ws := by
  unfold wvA List.getD
  cases hx : ws[x]? with
  | some a => exact List.mem_of_getElem? hx
  | none =>
    rw [List.getElem?_eq_getElem h]
    exact List.getElem_mem h
theorem wvA_get {ws : List (Nat × Nat × Nat)} {x : Nat} {w : Nat × Nat × Nat} (h : ws[x]? = some w) : wvA ws x = w := by
  unfold wvA List.getD; rw [h]; rfl
def tfA (ps : List Pi) (ds : List Int) (ws : List (Nat × Nat × Nat)) (pre : List Nat) : List Int × List Int := pre.foldl (fun st x => tfw ps st (wvA ws x)) (ds, List.replicate ps.length 0)
theorem tfA_app {ps : List Pi} {ds : List Int} {ws : List (Nat × Nat × Nat)} {pre : List Nat} {x : Nat} : tfA ps ds ws (pre ++ [x]) = tfw ps (tfA ps ds ws pre) (wvA ws x) := by
  unfold tfA; rw [List.foldl_append]; rfl
theorem tfw_len {ps : List Pi} {st : List Int × List Int} {w : Nat × Nat × Nat} : (tfw ps st w).1.length = st.1.length ∧ (tfw ps st w).2.length = st.2.length := by
  unfold tfw
  refine ⟨by simp, ?_⟩
  cases ps[w.2.2]? with
  | none => rfl
  | some p => show (if _ then _ else _ : List Int).length = _; split <;> simp
theorem tfA_len {ps : List Pi} {ds : List Int} {ws : List (Nat × Nat × Nat)} : ∀ pre : List Nat, (tfA ps ds ws pre).1.length = ds.length ∧ (tfA ps ds ws pre).2.length = ps.length := by
  have gen : ∀ (pre : List Nat) (st : List Int × List Int), (pre.foldl (fun st x => tfw ps st (wvA ws x)) st).1.length = st.1.length ∧ (pre.foldl (fun st x => tfw ps st (wvA ws x)) st).2.length = st.2.length := by
    intro pre
    induction pre with
    | nil => intro st; exact ⟨rfl, rfl⟩
    | cons x l ih =>
      intro st
      have h := ih (tfw ps st (wvA ws x))
      have h2 := tfw_len (ps := ps) (st := st) (w := wvA ws x)
      exact ⟨h.1.trans h2.1, h.2.trans h2.2⟩
  intro pre
  have h := gen pre (ds, List.replicate ps.length 0)
  exact ⟨h.1, h.2.trans (by simp)⟩
def dnL (n k : Nat) : List Nat := (List.range k).map fun j => n - 1 - j
theorem dnL_s {n k : Nat} : dnL n (k + 1) = dnL n k ++ [n - 1 - k] := by unfold dnL; rw [List.range_succ, List.map_append]; rfl
theorem set_set2 {l : List Int} {i : Nat} {a b : Int} : (l.set i a).set i b = l.set i b := by rw [List.set_set]
theorem tfA_run {ns : List Int} {ps : List Pi} {s : Nat} {ds : List Int} (ok : netOk ns ps) (hs : s < ns.length) (hdm : dmP ns ds) : ∀ k : Nat, k ≤ (waysF (ps.map pe) ns.length s).2.length →
    tfA ps ds (waysF (ps.map pe) ns.length s).2 (dnL (waysF (ps.map pe) ns.length s).2.length k) = (smB ((waysF (ps.map pe) ns.length s).2.drop ((waysF (ps.map pe) ns.length s).2.length - k)) ds, flL (ps.map pe) (smB (waysF (ps.map pe) ns.length s).2 ds) ((waysF (ps.map pe) ns.length s).2.drop ((waysF (ps.map pe) ns.length s).2.length - k))) := by
  intro k
  induction k with
  | zero =>
    intro _
    rw [Nat.sub_zero, List.drop_length, flL_0, List.length_map]; rfl
  | succ k ih =>
    intro hk
    generalize hws : (waysF (ps.map pe) ns.length s).2 = ws at *
    obtain ⟨j, hj⟩ : ∃ j, ws.length - 1 - k = j := ⟨_, rfl⟩
    have hjl : j < ws.length := by omega
    have hw : ws[j]? = some ws[j] := List.getElem?_eq_getElem hjl
    generalize ws[j] = w at hw
    have hwm : w ∈ ws := List.mem_of_getElem? hw
    have h16 := ok.1.1
    obtain ⟨p, hW⟩ := wayOf (w := w) ok hs (by rw [hws]; exact hwm)
    have hord := ways_ord (s := s) (esF_lt ok) hs
    rw [hws] at hord
    have htk := hord.tk hw
    have hl1 := sm_le (esF_lt ok) hs (by omega) hdm.1 hdm.g (m := j + 1) (v := w.1) (by rw [hws]; omega) (by rw [hws, htk.2.2]; simp)
    have hl2 := sm_le (esF_lt ok) hs (by omega) hdm.1 hdm.g (m := j + 1) (v := w.2.1) (by rw [hws]; omega) (by rw [hws]; have := hord.bf j w hw; rw [htk.2.2]; simp at this ⊢; rcases this with h | h; exact .inl h; exact .inr (.inl h))
    rw [hws] at hl1 hl2
    have hfin := smB_fin (d := ds) hord hw
    have hsm := smB_s (d := ds) hw
    have hdc := drop_c hw
    rw [dnL_s, tfA_app, ih (by omega), hj, wvA_get hw, show ws.length - k = j + 1 by omega, show ws.length - (k + 1) = j by omega]
    unfold tfw
    rw [hW.hp]
    have e1 : wr ((smB (ws.drop (j + 1)) ds).getD w.2.1 0 + (smB (ws.drop (j + 1)) ds).getD w.1 0) = (smB (ws.drop (j + 1)) ds).getD w.2.1 0 + (smB (ws.drop (j + 1)) ds).getD w.1 0 := wr_id (by omega) (by omega)
    dsimp only
    rw [e1, ← hsm]
    have e2 : (smB (ws.drop j) ds).getD w.1 0 = (smB ws ds).getD w.1 0 := by
      rw [hsm, getD_set, if_neg (by intro h; exact hW.ne h.1.symm)]; exact hfin
    rw [e2, hdc, ← flL_set (by rw [List.length_map]; exact (List.getElem?_eq_some_iff.1 hW.hp).1)]
    have e3 : (smB ws ds).getD w.1 0 = (smB (ws.drop (j + 1)) ds).getD w.1 0 := hfin.symm
    refine Prod.ext (by rw [← hdc]) ?_
    dsimp only
    rcases hW.sg with ⟨-, hf, ht⟩ | ⟨-, ht, hf⟩
    · rw [if_neg (by rw [hf]; have := hW.ne; omega), flW_P hW hf]
    · rw [if_pos hf, set_set2, flW_M hW hf, wr_id (by omega) (by omega)]
      congr 1; omega
theorem rep0 {n v : Nat} : (List.replicate n (0 : Int)).getD v 0 = 0 := by
  unfold List.getD
  rw [List.getElem?_replicate]
  split <;> rfl
theorem riW_0 {n : Nat} {w : Nat × Nat × Nat} : riW (List.replicate n 0) w = 0 := by
  unfold riW
  rw [rep0, rep0]
  decide
theorem DrT.lev {ns : List Int} {ps : List Pi} (h : DrT ns ps) : DrT (List.replicate ns.length 0) ps :=
  ⟨by rw [List.length_replicate]; exact h.n2, by rw [List.length_replicate]; exact h.n6, by rw [List.length_replicate]; exact h.pl, fun x hx => by rw [(List.mem_replicate.1 hx).2]; omega, h.tr⟩
theorem flT_lev {ns : List Int} {ps : List Pi} {s : Nat} {dm : List Int} : flT (List.replicate ns.length 0) ps s dm = flT ns ps s dm := by
  unfold flT; rw [List.length_replicate]
theorem lev_rel {ns : List Int} {ps : List Pi} {s : Nat} {dm : List Int} (h : DrT ns ps) (hs : s < ns.length) (hd : dmP ns dm) {v : Nat} (hv : v < ns.length) :
    500000 - (wyR (dfF ps (flT ns ps s dm)) (ps.map pe) ns.length s 500000 (waysF (ps.map pe) ns.length s).2.length).getD v 0 = 2 * (500000 - (wyR (prF (List.replicate ns.length 0) ps (flT ns ps s dm)) (ps.map pe) ns.length s 500000 (waysF (ps.map pe) ns.length s).2.length).getD v 0) ∧
      (wyR (prF (List.replicate ns.length 0) ps (flT ns ps s dm)) (ps.map pe) ns.length s 500000 (waysF (ps.map pe) ns.length s).2.length).getD v 0 ≤ 500000 := by
  have hm := tree_mem h hs hv
  have := wyT_rel (R := fun a b => 500000 - a = 2 * (500000 - b) ∧ b ≤ 500000) (f := dfF ps (flT ns ps s dm)) (g := prF (List.replicate ns.length 0) ps (flT ns ps s dm)) (t := (List.replicate ns.length 0).set s 500000) (u := (List.replicate ns.length 0).set s 500000) (ways_ord (esF_lt h.net) hs) (by simpa using hs) (fun w hw => by simpa using (ways_lt (esF_lt h.net) hs hw).1) rfl (by rw [rep_s hs]; omega) (fun w hw a b hab => by
    have hdw := (drW_T h hs hd hw).1
    show 500000 - (a - 2 * drW ps (flT ns ps s dm) w) = 2 * (500000 - (b - drW ps (flT ns ps s dm) w - riW (List.replicate ns.length 0) w)) ∧ b - drW ps (flT ns ps s dm) w - riW (List.replicate ns.length 0) w ≤ 500000
    rw [riW_0]; omega) (waysF (ps.map pe) ns.length s).2.length (Nat.le_refl _) v (by rw [List.take_length]; exact hm)
  exact this
noncomputable def baC (ns : List Int) (ps : List Pi) (fl : List Int) (j : Int) : Int := if netOk ns ps then (if 0 ≤ j ∧ j < ns.length then (if flP ps fl then 0 else 7) else 2) else 1
noncomputable def baV (ns : List Int) (ps : List Pi) (fl : List Int) (j : Int) : Int := if baC ns ps fl j = 0 then baF (ps.map pe) fl j.toNat else 0
theorem ba_1 {ns : List Int} {ps : List Pi} {fl : List Int} {j : Int} (h : ¬ netOk ns ps) : baC ns ps fl j = 1 ∧ baV ns ps fl j = 0 := by
  have e : baC ns ps fl j = 1 := if_neg h
  exact ⟨e, if_neg (by omega)⟩
theorem ba_2 {ns : List Int} {ps : List Pi} {fl : List Int} {j : Int} (h : netOk ns ps) (h2 : ¬ (0 ≤ j ∧ j < ns.length)) : baC ns ps fl j = 2 ∧ baV ns ps fl j = 0 := by
  have e : baC ns ps fl j = 2 := by unfold baC; rw [if_pos h, if_neg h2]
  exact ⟨e, if_neg (by omega)⟩
theorem ba_7 {ns : List Int} {ps : List Pi} {fl : List Int} {j : Int} (h : netOk ns ps) (h2 : 0 ≤ j ∧ j < ns.length) (h3 : ¬ flP ps fl) : baC ns ps fl j = 7 ∧ baV ns ps fl j = 0 := by
  have e : baC ns ps fl j = 7 := by unfold baC; rw [if_pos h, if_pos h2, if_neg h3]
  exact ⟨e, if_neg (by omega)⟩
theorem ba_0 {ns : List Int} {ps : List Pi} {fl : List Int} {j b : Int} (h : netOk ns ps) (h2 : 0 ≤ j ∧ j < ns.length) (h3 : flP ps fl) (hb : b = su (baS (ps.map pe) fl j.toNat) (List.range ps.length)) : baC ns ps fl j = 0 ∧ baV ns ps fl j = b := by
  have e : baC ns ps fl j = 0 := by unfold baC; rw [if_pos h, if_pos h2, if_pos h3]
  refine ⟨e, ?_⟩
  unfold baV baF
  rw [if_pos e, List.length_map, hb]
theorem baS_c {ps : List Pi} {fl : List Int} {i j : Nat} {p : Pi} {l : Int} (hp : ps[i]? = some p) (hl : fl[i]? = some l) : baS (ps.map pe) fl j i = (if p.tt.toNat = j then l else 0) - (if p.fm.toNat = j then l else 0) := by
  unfold baS
  rw [List.getElem?_map, hp]
  have e : fl.getD i 0 = l := by unfold List.getD; rw [hl]; rfl
  show (if p.tt.toNat = j then fl.getD i 0 else 0) - (if p.fm.toNat = j then fl.getD i 0 else 0) = _
  rw [e]
theorem su_rg {f : Nat → Int} {i : Nat} : su f (List.range (i + 1)) = su f (List.range i) + f i := by
  rw [List.range_succ, su_app]; show _ + (f i + 0) = _; omega
theorem su_lo {α : Type} {f : α → Int} {b : Int} (l : List α) (h : ∀ x ∈ l, -b ≤ f x) : -(b * l.length) ≤ su f l := by
  have h2 := su_le (f := fun x => -(f x)) (b := b) l (fun x hx => by have := h x hx; omega)
  rw [su_neg] at h2; omega
theorem baF_bd {ps : List Pi} {fl : List Int} (h : flP ps fl) {j : Nat} : -(200000 * (ps.length : Int)) ≤ baF (ps.map pe) fl j ∧ baF (ps.map pe) fl j ≤ 200000 * ps.length := by
  have hb : ∀ i ∈ List.range (ps.map pe).length, -200000 ≤ baS (ps.map pe) fl j i ∧ baS (ps.map pe) fl j i ≤ 200000 := fun i hi => by
    have hil : i < ps.length := by simpa using hi
    have hp : ps[i]? = some ps[i] := List.getElem?_eq_getElem hil
    have hl : fl[i]? = some (fl[i]'(by rw [h.1]; exact hil)) := List.getElem?_eq_getElem (by rw [h.1]; exact hil)
    have hq := h.2 _ _ hl
    rw [baS_c hp hl]
    split <;> split <;> omega
  have h1 := su_lo (f := baS (ps.map pe) fl j) (b := 200000) _ (fun i hi => (hb i hi).1)
  have h2 := su_le (f := baS (ps.map pe) fl j) (b := 200000) _ (fun i hi => (hb i hi).2)
  rw [List.length_range, List.length_map] at h1 h2
  unfold baF
  rw [List.length_map]
  exact ⟨h1, h2⟩
theorem ba_ok {ns : List Int} {ps : List Pi} {fl : List Int} {j : Nat} (h : netOk ns ps) (hj : j < ns.length) (hf : flP ps fl) : baC ns ps fl (j : Int) = 0 ∧ baV ns ps fl (j : Int) = baF (ps.map pe) fl j := by
  have e : baC ns ps fl (j : Int) = 0 := by unfold baC; rw [if_pos h, if_pos ⟨by omega, by omega⟩, if_pos hf]
  refine ⟨e, ?_⟩
  unfold baV
  rw [if_pos e]; rfl
theorem ba_dm {ns : List Int} {ps : List Pi} {s : Nat} {dm : List Int} (h : DrT ns ps) (hs : s < ns.length) (hd : dmP ns dm) {j : Nat} (hj : j < ns.length) (hjs : ¬ j = s) : baF (ps.map pe) (flT ns ps s dm) j = dm.getD j 0 :=
  ba_law (esF_lt h.net) hs (fun v hv => (h.tree.2 s hs).symm.trans (h.tree.2 v hv)) (by rw [List.length_map]; exact h.pl) hd.1 hj hjs
def dfT (ns : List Int) (ps : List Pi) (s : Nat) (dm : List Int) : List Int := wyR (dfF ps (flT ns ps s dm)) (ps.map pe) ns.length s 500000 (waysF (ps.map pe) ns.length s).2.length
def lvT (ns : List Int) (ps : List Pi) (s : Nat) (dm : List Int) : List Int := wyR (prF (List.replicate ns.length 0) ps (flT ns ps s dm)) (ps.map pe) (List.replicate ns.length (0 : Int)).length s 500000 (waysF (ps.map pe) (List.replicate ns.length (0 : Int)).length s).2.length
theorem dfT_len {ns : List Int} {ps : List Pi} {s : Nat} {dm : List Int} : (dfT ns ps s dm).length = ns.length := wyR_len
theorem lvT_len {ns : List Int} {ps : List Pi} {s : Nat} {dm : List Int} : (lvT ns ps s dm).length = ns.length := by unfold lvT; rw [wyR_len, List.length_replicate]
theorem lv_rel {ns : List Int} {ps : List Pi} {s : Nat} {dm : List Int} (h : DrT ns ps) (hs : s < ns.length) (hd : dmP ns dm) {v : Nat} (hv : v < ns.length) :
    500000 - (dfT ns ps s dm).getD v 0 = 2 * (500000 - (lvT ns ps s dm).getD v 0) ∧ (lvT ns ps s dm).getD v 0 ≤ 500000 := by
  have := lev_rel h hs hd hv
  unfold dfT lvT
  rw [List.length_replicate]; exact this
theorem src_no {es : List (Nat × Nat)} {n s : Nat} (hr : ∀ e ∈ es, e.1 < n ∧ e.2 < n) (hs : s < n) : ¬ s ∈ (waysF es n s).2.map (fun w => w.1) := by
  intro hm
  obtain ⟨w, hw, e⟩ := List.mem_map.1 hm
  exact (ways_lt hr hs hw).2.2.2.2.1 e
theorem wyR_src {f : Nat × Nat × Nat → Int → Int} {es : List (Nat × Nat)} {n s : Nat} {x : Int} (hr : ∀ e ∈ es, e.1 < n ∧ e.2 < n) (hs : s < n) : (wyR f es n s x (waysF es n s).2.length).getD s 0 = x := by
  unfold wyR
  rw [List.take_length, wyT_src _ _ (src_no hr hs), rep_s hs]
theorem lvT_pr {ns : List Int} {ps : List Pi} {s : Nat} {dm : List Int} : lvT ns ps s dm = prT (List.replicate ns.length 0) ps s dm 500000 := by
  unfold lvT prT
  rw [flT_lev]
theorem lvT_bd {ns : List Int} {ps : List Pi} {s : Nat} {dm : List Int} (h : DrT ns ps) (hs : s < ns.length) (hd : dmP ns dm) {v : Nat} (hv : v < ns.length) : -17000000 ≤ (lvT ns ps s dm).getD v 0 := by
  have hr : (List.replicate ns.length (0 : Int)).length = ns.length := List.length_replicate
  have hd' : dmP (List.replicate ns.length 0) dm := ⟨by rw [hr]; exact hd.1, hd.2⟩
  have h1 := prT_x (x := 500000) (dm := dm) h.lev (s := s) (by omega) (v := v) (by omega)
  have h2 := prT_0 h.lev (s := s) (by omega) hd' v
  rw [lvT_pr, h1]; omega
theorem prT_src {ns : List Int} {ps : List Pi} {s : Nat} {dm : List Int} {x : Int} (h : DrT ns ps) (hs : s < ns.length) : (prT ns ps s dm x).getD s 0 = x := wyR_src (esF_lt h.net) hs
theorem dfT_src {ns : List Int} {ps : List Pi} {s : Nat} {dm : List Int} (h : DrT ns ps) (hs : s < ns.length) : (dfT ns ps s dm).getD s 0 = 500000 := wyR_src (esF_lt h.net) hs
theorem getS6 {t : List Int} {v : Nat} (h : v < t.length) : t[v]? = some (t.getD v 0) := by simp [List.getD, List.getElem?_eq_getElem h]
theorem in64s {n x : Int} (h : n = IntKind.i64.wrap x) (hb : -2000000000 ≤ x ∧ x ≤ 2000000000) : n = x := in64 h (by omega) (by omega)
theorem ltOf {i L : Nat} {n : Int} (h : (i : Int) < n) (e : n = L) : i < L := by omega
theorem hy_q {ns : List Int} {ps : List Pi} {s : Nat} {dm : List Int} (h : DrT ns ps) (hs : s < ns.length) (hd : dmP ns dm) {v : Nat} (hv : v < ns.length) : ∃ A B D L : Int, (prT ns ps s dm 500000)[v]? = some A ∧ (prT ns ps s dm 500123)[v]? = some B ∧ (dfT ns ps s dm)[v]? = some D ∧ (lvT ns ps s dm)[v]? = some L ∧ B = A + 123 ∧ 500000 - D = 2 * (500000 - L) ∧ L ≤ 500000 ∧ (-2000000000 ≤ A + 123 ∧ A + 123 ≤ 2000000000) ∧ (-2000000000 ≤ 500000 - D ∧ 500000 - D ≤ 2000000000) ∧ (-2000000000 ≤ 500000 - L ∧ 500000 - L ≤ 2000000000) ∧ (-2000000000 ≤ 2 * (500000 - L) ∧ 2 * (500000 - L) ≤ 2000000000) ∧ (-2000000000 ≤ (v : Int) + 1 ∧ (v : Int) + 1 ≤ 2000000000) ∧ v < (List.replicate ns.length (0 : Int)).length := by
  have hn6 := h.n6
  have q0 := prT_0 h hs hd v
  have q1 := prT_x (x := 500000) (dm := dm) h hs (v := v) hv
  have q2 := prT_x (x := 500123) (dm := dm) h hs (v := v) hv
  have q3 := lv_rel h hs hd (v := v) hv
  have q4 := lvT_bd h hs hd (v := v) hv
  refine ⟨(prT ns ps s dm 500000).getD v 0, (prT ns ps s dm 500123).getD v 0, (dfT ns ps s dm).getD v 0, (lvT ns ps s dm).getD v 0, getS6 (by rw [prT_len]; exact hv), getS6 (by rw [prT_len]; exact hv), getS6 (by rw [dfT_len]; exact hv), getS6 (by rw [lvT_len]; exact hv), ?_⟩
  rw [List.length_replicate]
  generalize (prT ns ps s dm 500000).getD v 0 = A at *
  generalize (prT ns ps s dm 500123).getD v 0 = B at *
  generalize (dfT ns ps s dm).getD v 0 = D at *
  generalize (lvT ns ps s dm).getD v 0 = L at *
  generalize (prT ns ps s dm 0).getD v 0 = Z at *
  omega
theorem hy_s {ns : List Int} {ps : List Pi} {s : Nat} {dm : List Int} (h : DrT ns ps) (hs : s < ns.length) : (prT ns ps s dm 500000)[s]? = some 500000 ∧ (dfT ns ps s dm)[s]? = some 500000 := by
  have e0 := prT_src (x := 500000) (dm := dm) h hs
  have e1 := dfT_src (dm := dm) h hs
  exact ⟨by rw [getS6 (by rw [prT_len]; exact hs), e0], by rw [getS6 (by rw [dfT_len]; exact hs), e1]⟩
theorem takeRepI {n : Nat} : List.take n ((List.replicate n (0 : Int)).map ci) = (List.replicate n (0 : Int)).map ci := List.take_of_length_le (by simp)
theorem fO102_0 : fOff Try.prog 102 0 = some 0 := by kernel_rfl
theorem fO102_1 : fOff Try.prog 102 1 = some 1 := by kernel_rfl
theorem fO102_2 : fOff Try.prog 102 2 = some 2 := by kernel_rfl
theorem fO112_0 : fOff Try.prog 112 0 = some 0 := by kernel_rfl
theorem fO112_1 : fOff Try.prog 112 1 = some 1 := by kernel_rfl
theorem fO112_2 : fOff Try.prog 112 2 = some 2 := by kernel_rfl
theorem fO27_0 : fOff Try.prog 27 0 = some 0 := by kernel_rfl
theorem fO27_1 : fOff Try.prog 27 1 = some 1 := by kernel_rfl
theorem fO73_0 : fOff Try.prog 73 0 = some 0 := by kernel_rfl
theorem fO73_1 : fOff Try.prog 73 1 = some 1 := by kernel_rfl
theorem fO73_2 : fOff Try.prog 73 2 = some 2 := by kernel_rfl
theorem fO73_3 : fOff Try.prog 73 3 = some 3 := by kernel_rfl
theorem fO73_4 : fOff Try.prog 73 4 = some 4 := by kernel_rfl
theorem fO73_5 : fOff Try.prog 73 5 = some 5 := by kernel_rfl
theorem hmix : Try.prog.follows .mixedOrders = true := by kernel_rfl
theorem pl102 : placesA Try.prog 102 = some [(0, 1), (1, 1), (2, 1)] := by kernel_rfl
theorem pl112 : placesA Try.prog 112 = some [(0, 1), (1, 1), (2, 1)] := by kernel_rfl
theorem pl27 : placesA Try.prog 27 = some [(0, 1), (1, 1)] := by kernel_rfl
theorem pl73 : placesA Try.prog 73 = some [(0, 1), (1, 1), (2, 1), (3, 1), (4, 1), (5, 1)] := by kernel_rfl
theorem sz100 : tSz Try.prog 100 = some 1 := by kernel_rfl
theorem sz112 : tSz Try.prog 112 = some 3 := by kernel_rfl
theorem sz2 : tSz Try.prog 2 = some 1 := by kernel_rfl
theorem sz24 : tSz Try.prog 24 = some 1 := by kernel_rfl
theorem sz25 : tSz Try.prog 25 = some 1 := by kernel_rfl
theorem sz27 : tSz Try.prog 27 = some 2 := by kernel_rfl
theorem sz3 : tSz Try.prog 3 = some 1 := by kernel_rfl
theorem sz73 : tSz Try.prog 73 = some 6 := by kernel_rfl
theorem tA100 : tAgg Try.prog 100 = some none := by kernel_rfl
theorem tA112 : tAgg Try.prog 112 = some (some 3) := by kernel_rfl
theorem tA2 : tAgg Try.prog 2 = some none := by kernel_rfl
theorem tA22 : tAgg Try.prog 22 = some none := by kernel_rfl
theorem tA24 : tAgg Try.prog 24 = some none := by kernel_rfl
theorem tA25 : tAgg Try.prog 25 = some none := by kernel_rfl
theorem tA27 : tAgg Try.prog 27 = some (some 2) := by kernel_rfl
theorem tA3 : tAgg Try.prog 3 = some none := by kernel_rfl
theorem tA5 : tAgg Try.prog 5 = some none := by kernel_rfl
theorem tA73 : tAgg Try.prog 73 = some (some 6) := by kernel_rfl
theorem tA9 : tAgg Try.prog 9 = some none := by kernel_rfl
theorem tApp110 : tApp Try.prog 110 = some (112, 3, 24) := by kernel_rfl
theorem tApp24 : tApp Try.prog 24 = some (2, 1, 8) := by kernel_rfl
theorem tApp25 : tApp Try.prog 25 = some (73, 6, 56) := by kernel_rfl
theorem tB4 : tIsBool Try.prog 4 = true := by kernel_rfl
theorem tBy2 : tBytes Try.prog 2 = some 8 := by kernel_rfl
theorem tE103 : tElem Try.prog 103 = some (9, 1) := by kernel_rfl
theorem tE110 : tElem Try.prog 110 = some (112, 3) := by kernel_rfl
theorem tE22 : tElem Try.prog 22 = some (5, 1) := by kernel_rfl
theorem tE24 : tElem Try.prog 24 = some (2, 1) := by kernel_rfl
theorem tE25 : tElem Try.prog 25 = some (73, 6) := by kernel_rfl
theorem tEs110 : (tElem Try.prog 110).isSome = true := by kernel_rfl
theorem tEs22 : (tElem Try.prog 22).isSome = true := by kernel_rfl
theorem tEs24 : (tElem Try.prog 24).isSome = true := by kernel_rfl
theorem tEs25 : (tElem Try.prog 25).isSome = true := by kernel_rfl
theorem tK100 : tKind Try.prog 100 = some .u64 := by kernel_rfl
theorem tK2 : tKind Try.prog 2 = some .i64 := by kernel_rfl
theorem tK3 : tKind Try.prog 3 = some .i64 := by kernel_rfl
theorem tK5 : tKind Try.prog 5 = some .u8 := by kernel_rfl
theorem tStr9 : tIsStr Try.prog 9 = true := by kernel_rfl
theorem zA102 : zeroA Try.prog 102 = some [.nil, .s (.int .i64 0), .s (.int .u64 0)] := by kernel_rfl
theorem zA112 : zeroA Try.prog 112 = some [.s (.int .i64 0), .s (.int .i64 0), .s (.int .i64 0)] := by kernel_rfl
theorem zA2 : zeroA Try.prog 2 = some [.s (.int .i64 0)] := by kernel_rfl
theorem zA24 : zeroA Try.prog 24 = some [.nil] := by kernel_rfl
theorem zA27 : zeroA Try.prog 27 = some [.nil, .nil] := by kernel_rfl
theorem zA73 : zeroA Try.prog 73 = some [.s (.string ⟨#[]⟩), .s (.int .i64 0), .s (.int .i64 0), .s (.int .i64 0), .s (.int .i64 0), .s (.int .i64 0)] := by kernel_rfl
theorem zA9 : zeroA Try.prog 9 = some [.s (.string ⟨#[]⟩)] := by kernel_rfl

-- impl.within
theorem D_impl_within (a lo hi : Int)  : Den Try.prog 85 [.s (.int .i64 a), .s (.int .i64 lo), .s (.int .i64 hi)] (.s (.bool (decide (lo ≤ a ∧ a ≤ hi)))) := by
  refine den_of_good Try.func85 (by decide) rfl (Nat.le_of_ble_eq_true rfl) (Nat.le_of_ble_eq_true rfl) ?_
  refine good_seq fun K1 hK1 => ?_
  refine gr rfl ?_
  refine ea rfl (by conv=>lhs;whnf) ?_
  refine ev_nil (hK1 _ ?_); clear hK1
  refine good_seq fun K2 hK2 => ?_
  refine gr rfl ?_
  refine em rfl (by conv=>lhs;whnf) ?_
  refine em rfl (by conv=>lhs;whnf) ?_
  refine ei rfl rfl rfl ?_
  intro b3 hb3; cases b3
  · replace hb3 := dF hb3
    refine em rfl (by conv=>lhs;whnf) ?_
    refine ev_skip rfl ?_
    refine ev_skip rfl ?_
    refine ev_skip rfl ?_
    refine ev_q rfl (q_pickF rfl (by conv=>lhs;whnf) ?_)
    refine ea rfl (by conv=>lhs;whnf) ?_
    refine ev_nil (hK2 _ ?_); clear hK2
    refine good_ret ?_
    repeat first|refine thenQ_ret ?_|refine blockQ_ret ?_
    refine ret_tmp (st := _) rfl (by conv=>lhs;whnf) rfl ?_
    first | rfl | exact fT (by first | omega | grind) | exact fF (by first | omega | grind) | exact fT' (by first | omega | grind) | (exfalso; first | omega | grind)
  · replace hb3 := dT hb3
    refine em rfl (by conv=>lhs;whnf) ?_
    refine em rfl (by conv=>lhs;whnf) ?_
    refine em rfl (by conv=>lhs;whnf) ?_
    refine ei rfl rfl rfl ?_
    intro b4 hb4; cases b4
    · replace hb4 := dF hb4
      refine ev_q rfl (q_pickT rfl (by conv=>lhs;whnf) ?_)
      refine ea rfl (by conv=>lhs;whnf) ?_
      refine ev_nil (hK2 _ ?_); clear hK2
      refine good_ret ?_
      repeat first|refine thenQ_ret ?_|refine blockQ_ret ?_
      refine ret_tmp (st := _) rfl (by conv=>lhs;whnf) rfl ?_
      first | rfl | exact fT (by first | omega | grind) | exact fF (by first | omega | grind) | exact fT' (by first | omega | grind) | (exfalso; first | omega | grind)
    · replace hb4 := dT hb4
      refine ev_q rfl (q_pickT rfl (by conv=>lhs;whnf) ?_)
      refine ea rfl (by conv=>lhs;whnf) ?_
      refine ev_nil (hK2 _ ?_); clear hK2
      refine good_ret ?_
      repeat first|refine thenQ_ret ?_|refine blockQ_ret ?_
      refine ret_tmp (st := _) rfl (by conv=>lhs;whnf) rfl ?_
      first | rfl | exact fT (by first | omega | grind) | exact fF (by first | omega | grind) | exact fT' (by first | omega | grind) | (exfalso; first | omega | grind)

-- spec.l00In
theorem D_spec_l00In (a lo hi : Int)  : Den Try.prog 62 [.s (.int .i64 a), .s (.int .i64 lo), .s (.int .i64 hi)] (.s (.bool (decide (lo ≤ a ∧ a ≤ hi)))) := by
  refine den_of_good Try.func62 (by decide) rfl (Nat.le_of_ble_eq_true rfl) (Nat.le_of_ble_eq_true rfl) ?_
  refine good_seq fun K1 hK1 => ?_
  refine gr rfl ?_
  refine ea rfl (by conv=>lhs;whnf) ?_
  refine ev_nil (hK1 _ ?_); clear hK1
  refine good_seq fun K2 hK2 => ?_
  refine gr rfl ?_
  refine em rfl (by conv=>lhs;whnf) ?_
  refine em rfl (by conv=>lhs;whnf) ?_
  refine ei rfl rfl rfl ?_
  intro b3 hb3; cases b3
  · replace hb3 := dF hb3
    refine em rfl (by conv=>lhs;whnf) ?_
    refine ev_skip rfl ?_
    refine ev_skip rfl ?_
    refine ev_skip rfl ?_
    refine ev_q rfl (q_pickF rfl (by conv=>lhs;whnf) ?_)
    refine ea rfl (by conv=>lhs;whnf) ?_
    refine ev_nil (hK2 _ ?_); clear hK2
    refine good_ret ?_
    repeat first|refine thenQ_ret ?_|refine blockQ_ret ?_
    refine ret_tmp (st := _) rfl (by conv=>lhs;whnf) rfl ?_
    first | rfl | exact fT (by first | omega | grind) | exact fF (by first | omega | grind) | exact fT' (by first | omega | grind) | (exfalso; first | omega | grind)
  · replace hb3 := dT hb3
    refine em rfl (by conv=>lhs;whnf) ?_
    refine em rfl (by conv=>lhs;whnf) ?_
    refine em rfl (by conv=>lhs;whnf) ?_
    refine ei rfl rfl rfl ?_
    intro b4 hb4; cases b4
    · replace hb4 := dF hb4
      refine ev_q rfl (q_pickT rfl (by conv=>lhs;whnf) ?_)
      refine ea rfl (by conv=>lhs;whnf) ?_
      refine ev_nil (hK2 _ ?_); clear hK2
      refine good_ret ?_
      repeat first|refine thenQ_ret ?_|refine blockQ_ret ?_
      refine ret_tmp (st := _) rfl (by conv=>lhs;whnf) rfl ?_
      first | rfl | exact fT (by first | omega | grind) | exact fF (by first | omega | grind) | exact fT' (by first | omega | grind) | (exfalso; first | omega | grind)
    · replace hb4 := dT hb4
      refine ev_q rfl (q_pickT rfl (by conv=>lhs;whnf) ?_)
      refine ea rfl (by conv=>lhs;whnf) ?_
      refine ev_nil (hK2 _ ?_); clear hK2
      refine good_ret ?_
      repeat first|refine thenQ_ret ?_|refine blockQ_ret ?_
      refine ret_tmp (st := _) rfl (by conv=>lhs;whnf) rfl ?_
      first | rfl | exact fT (by first | omega | grind) | exact fF (by first | omega | grind) | exact fT' (by first | omega | grind) | (exfalso; first | omega | grind)

-- spec.l01Small
theorem D_spec_l01Small (u : UInt8)  : Den Try.prog 123 [.s (.int .u8 u.toNat)] (.s (.bool (small u))) := by
  refine den_of_good Try.func123 (by decide) rfl (Nat.le_of_ble_eq_true rfl) (Nat.le_of_ble_eq_true rfl) ?_
  refine good_seq fun K1 hK1 => ?_
  refine gr rfl ?_
  refine ea rfl (by conv=>lhs;whnf) ?_
  refine ev_nil (hK1 _ ?_); clear hK1
  refine good_seq fun K2 hK2 => ?_
  refine gr rfl ?_
  refine em rfl (by conv=>lhs;whnf) ?_
  refine ei rfl rfl rfl ?_
  intro b3 hb3; cases b3
  · replace hb3 := dF hb3
    refine em rfl (by conv=>lhs;whnf) ?_
    refine ev_skip rfl ?_
    refine ev_skip rfl ?_
    refine ev_q rfl (q_pickF rfl (by conv=>lhs;whnf) ?_)
    refine ea rfl (by conv=>lhs;whnf) ?_
    refine ev_nil (hK2 _ ?_); clear hK2
    refine good_ret ?_
    repeat first|refine thenQ_ret ?_|refine blockQ_ret ?_
    refine ret_tmp (st := _) rfl (by conv=>lhs;whnf) rfl ?_
    exact fB (by simp only [small]; grind)
  · replace hb3 := dT hb3
    refine em rfl (by conv=>lhs;whnf) ?_
    refine em rfl (by conv=>lhs;whnf) ?_
    refine ei rfl rfl rfl ?_
    intro b4 hb4; cases b4
    · replace hb4 := dF hb4
      refine ev_q rfl (q_pickT rfl (by conv=>lhs;whnf) ?_)
      refine ea rfl (by conv=>lhs;whnf) ?_
      refine ev_nil (hK2 _ ?_); clear hK2
      refine good_ret ?_
      repeat first|refine thenQ_ret ?_|refine blockQ_ret ?_
      refine ret_tmp (st := _) rfl (by conv=>lhs;whnf) rfl ?_
      exact fB (by simp only [small]; grind)
    · replace hb4 := dT hb4
      refine ev_q rfl (q_pickT rfl (by conv=>lhs;whnf) ?_)
      refine ea rfl (by conv=>lhs;whnf) ?_
      refine ev_nil (hK2 _ ?_); clear hK2
      refine good_ret ?_
      repeat first|refine thenQ_ret ?_|refine blockQ_ret ?_
      refine ret_tmp (st := _) rfl (by conv=>lhs;whnf) rfl ?_
      exact fB (by simp only [small]; grind)

-- spec.l01Digit
theorem D_spec_l01Digit (u : UInt8)  : Den Try.prog 124 [.s (.int .u8 u.toNat)] (.s (.bool (digit u))) := by
  refine den_of_good Try.func124 (by decide) rfl (Nat.le_of_ble_eq_true rfl) (Nat.le_of_ble_eq_true rfl) ?_
  refine good_seq fun K1 hK1 => ?_
  refine gr rfl ?_
  refine ea rfl (by conv=>lhs;whnf) ?_
  refine ev_nil (hK1 _ ?_); clear hK1
  refine good_seq fun K2 hK2 => ?_
  refine gr rfl ?_
  refine em rfl (by conv=>lhs;whnf) ?_
  refine ei rfl rfl rfl ?_
  intro b3 hb3; cases b3
  · replace hb3 := dF hb3
    refine em rfl (by conv=>lhs;whnf) ?_
    refine ev_skip rfl ?_
    refine ev_skip rfl ?_
    refine ev_q rfl (q_pickF rfl (by conv=>lhs;whnf) ?_)
    refine ea rfl (by conv=>lhs;whnf) ?_
    refine ev_nil (hK2 _ ?_); clear hK2
    refine good_ret ?_
    repeat first|refine thenQ_ret ?_|refine blockQ_ret ?_
    refine ret_tmp (st := _) rfl (by conv=>lhs;whnf) rfl ?_
    exact fB (by simp only [digit]; grind)
  · replace hb3 := dT hb3
    refine em rfl (by conv=>lhs;whnf) ?_
    refine em rfl (by conv=>lhs;whnf) ?_
    refine ei rfl rfl rfl ?_
    intro b4 hb4; cases b4
    · replace hb4 := dF hb4
      refine ev_q rfl (q_pickT rfl (by conv=>lhs;whnf) ?_)
      refine ea rfl (by conv=>lhs;whnf) ?_
      refine ev_nil (hK2 _ ?_); clear hK2
      refine good_ret ?_
      repeat first|refine thenQ_ret ?_|refine blockQ_ret ?_
      refine ret_tmp (st := _) rfl (by conv=>lhs;whnf) rfl ?_
      exact fB (by simp only [digit]; grind)
    · replace hb4 := dT hb4
      refine ev_q rfl (q_pickT rfl (by conv=>lhs;whnf) ?_)
      refine ea rfl (by conv=>lhs;whnf) ?_
      refine ev_nil (hK2 _ ?_); clear hK2
      refine good_ret ?_
      repeat first|refine thenQ_ret ?_|refine blockQ_ret ?_
      refine ret_tmp (st := _) rfl (by conv=>lhs;whnf) rfl ?_
      exact fB (by simp only [digit]; grind)

-- impl.onlyNameBytes
theorem D_impl_onlyNameBytes (s : ByteArray) (hs : s.size ≤ 140737488351232) : Den Try.prog 125 [.s (.string s)] (.s (.bool (allNb s))) := by
  refine den_of_good Try.func125 (by decide) rfl (Nat.le_of_ble_eq_true rfl) (Nat.le_of_ble_eq_true rfl) ?_
  refine good_seq fun K1 hK1 => ?_
  refine gr rfl ?_
  refine ea rfl (by conv=>lhs;whnf) ?_
  refine ev_nil (hK1 _ ?_); clear hK1
  refine good_seq fun K2 hK2 => ?_
  refine good_seq fun K3 hK3 => ?_
  refine gr rfl ?_
  refine em rfl (by conv=>lhs;whnf) ?_
  refine ev_q rfl (q_lenS tStr9 rfl ?_)
  intro n4 hn4
  refine em rfl (by conv=>lhs;whnf) ?_
  refine ev_nil (hK3 _ ?_); clear hK3
  refine good_block ?_
  refine good_loop (α := Nat) (fun i => { env := upd (upd (upd ((fun _ => .junk)) 0 (.s (.string s))) 6 (.s (.int .i64 (s.size)))) 7 (.s (.int .i64 i)), H := fun _ => none }) (fun i => i ≤ s.size ∧ ∀ j u, j < i → s[j]? = some u → nbc u = true) (fun i => s.size - i) 0 ?_ ?_ ?_
  · exact ⟨by omega, fun j u hj => by omega⟩
  · refine sub_weak ?_ ?_
    · exact weakH_none _
    · refine weakE_upd ?e7 ?r7 (weakE_upd ?e6 ?r6 (weakE_upd ?e0 ?r0 (weakE_junk _ _)))
      case e0 => first | rfl | exact fI (by omega) | (simp_all)
      case r0 => intro h hh; cases hh
      case e6 => first | rfl | exact fI (by omega) | (simp_all)
      case r6 => intro h hh; cases hh
      case e7 => first | rfl | exact fI (by omega) | (simp_all)
      case r7 => intro h hh; cases hh
  · rintro i ⟨hI, hJ⟩
    refine good_seq fun K5 hK5 => ?_
    refine gr rfl ?_
    refine ei rfl rfl rfl ?_
    intro b6 hb6; cases b6
    · replace hb6 := dF hb6
      refine ev_nil (hK5 _ ?_); clear hK5
      refine good_seq fun K7 hK7 => ?_
      refine good_condF rfl ?_
      refine good_exit ?_
      repeat first|refine thenQ_exit ?_|refine blockQ_pass rfl ?_
      refine blockQ_exit (hK2 _ ?_); clear hK2
      refine good_seq fun K8 hK8 => ?_
      refine gr rfl ?_
      refine ea rfl (by conv=>lhs;whnf) ?_
      refine ev_nil (hK8 _ ?_); clear hK8
      refine good_ret ?_
      repeat first|refine thenQ_ret ?_|refine blockQ_ret ?_
      refine ret_tmp (st := _) rfl (by conv=>lhs;whnf) rfl ?_
      clear hK7
      first | exact fB (allNb_T (fun j u hj => hJ j u (by omega))).symm | exact fB (allNb_F hu (by simp only [nbc, small, digit]; grind)).symm
    · replace hb6 := dT hb6
      obtain ⟨u, hu⟩ := getB (s := s) (i := i) (by omega)
      refine ev_nil (hK5 _ ?_); clear hK5
      refine good_seq fun K9 hK9 => ?_
      refine good_condT rfl ?_
      refine good_skip (hK9 _ ?_); clear hK9
      refine good_seq fun K10 hK10 => ?_
      refine good_block ?_
      refine good_seq fun K11 hK11 => ?_
      refine gr rfl ?_
      refine em rfl (by conv=>lhs;whnf) ?_
      refine ea rfl (by conv=>lhs;whnf) ?_
      refine ev_nil (hK11 _ ?_); clear hK11
      refine good_seq fun K12 hK12 => ?_
      refine gr rfl ?_
      refine em rfl (by conv=>lhs;whnf) ?_
      refine em rfl (by conv=>lhs;whnf) ?_
      refine ev_q rfl (q_indexS tStr9 rfl rfl (by exact Int.natCast_nonneg _) (by exact hu) ?_)
      intro n13 hn13
      refine ea rfl (by conv=>lhs;whnf) ?_
      refine ev_nil (hK12 _ ?_); clear hK12
      refine good_seq fun K14 hK14 => ?_
      refine gr rfl ?_
      refine em rfl (by conv=>lhs;whnf) ?_
      refine ei rfl rfl rfl ?_
      intro b15 hb15; cases b15
      · replace hb15 := dF hb15
        refine em rfl (by conv=>lhs;whnf) ?_
        refine em rfl (by conv=>lhs;whnf) ?_
        refine ei rfl rfl rfl ?_
        intro b16 hb16; cases b16
        · replace hb16 := dF hb16
          refine ev_q rfl (q_pickF rfl (by conv=>lhs;whnf) ?_)
          refine em rfl (by conv=>lhs;whnf) ?_
          refine ev_skip rfl ?_
          refine ev_skip rfl ?_
          refine ev_skip rfl ?_
          refine ev_skip rfl ?_
          refine ev_skip rfl ?_
          refine ev_skip rfl ?_
          refine ev_q rfl (q_pickF rfl (by conv=>lhs;whnf) ?_)
          refine ev_nil (hK14 _ ?_); clear hK14
          refine good_condF rfl ?_
          refine good_skip (hK10 _ ?_); clear hK10
          refine gr rfl ?_
          refine ei rfl rfl rfl ?_
          intro n17 hn17
          replace hn17 := in64 hn17 (by omega) (by omega)
          refine em rfl (by conv=>lhs;whnf) ?_
          refine ev_nil ?_
          clear hK2
          refine ⟨i + 1, ?_, ?_, ?_⟩
          · refine ⟨by omega, fun j v hj hv => ?_⟩
            by_cases hji : j = i
            · subst hji; rw [hu] at hv; cases hv; simp only [nbc, small, digit] at *; grind
            · exact hJ j v (by omega) hv
          · first | omega | (simp only []; omega) | (dsimp only; omega)
          · refine sub_weak ?_ ?_
            · exact weakH_none _
            · refine weakE_upd ?e7 ?r7 (weakE_upd ?e6 ?r6 (weakE_upd ?e0 ?r0 (weakE_junk _ _)))
              case e0 => first | rfl | exact fI (by omega) | (simp_all)
              case r0 => intro h hh; cases hh
              case e6 => first | rfl | exact fI (by omega) | (simp_all)
              case r6 => intro h hh; cases hh
              case e7 => first | rfl | exact fI (by omega) | (simp_all)
              case r7 => intro h hh; cases hh
        · replace hb16 := dT hb16
          refine ev_q rfl (q_pickF rfl (by conv=>lhs;whnf) ?_)
          refine em rfl (by conv=>lhs;whnf) ?_
          refine em rfl (by conv=>lhs;whnf) ?_
          refine ei rfl rfl rfl ?_
          intro b18 hb18; cases b18
          · replace hb18 := dF hb18
            refine em rfl (by conv=>lhs;whnf) ?_
            refine em rfl (by conv=>lhs;whnf) ?_
            refine ei rfl rfl rfl ?_
            intro b19 hb19; cases b19
            · replace hb19 := dF hb19
              refine ev_q rfl (q_pickF rfl (by conv=>lhs;whnf) ?_)
              refine ev_q rfl (q_pickT rfl (by conv=>lhs;whnf) ?_)
              refine ev_nil (hK14 _ ?_); clear hK14
              refine good_condF rfl ?_
              refine good_skip (hK10 _ ?_); clear hK10
              refine gr rfl ?_
              refine ei rfl rfl rfl ?_
              intro n20 hn20
              replace hn20 := in64 hn20 (by omega) (by omega)
              refine em rfl (by conv=>lhs;whnf) ?_
              refine ev_nil ?_
              clear hK2
              refine ⟨i + 1, ?_, ?_, ?_⟩
              · refine ⟨by omega, fun j v hj hv => ?_⟩
                by_cases hji : j = i
                · subst hji; rw [hu] at hv; cases hv; simp only [nbc, small, digit] at *; grind
                · exact hJ j v (by omega) hv
              · first | omega | (simp only []; omega) | (dsimp only; omega)
              · refine sub_weak ?_ ?_
                · exact weakH_none _
                · refine weakE_upd ?e7 ?r7 (weakE_upd ?e6 ?r6 (weakE_upd ?e0 ?r0 (weakE_junk _ _)))
                  case e0 => first | rfl | exact fI (by omega) | (simp_all)
                  case r0 => intro h hh; cases hh
                  case e6 => first | rfl | exact fI (by omega) | (simp_all)
                  case r6 => intro h hh; cases hh
                  case e7 => first | rfl | exact fI (by omega) | (simp_all)
                  case r7 => intro h hh; cases hh
            · replace hb19 := dT hb19
              refine ev_q rfl (q_pickF rfl (by conv=>lhs;whnf) ?_)
              refine ev_q rfl (q_pickT rfl (by conv=>lhs;whnf) ?_)
              refine ev_nil (hK14 _ ?_); clear hK14
              refine good_condT rfl ?_
              refine good_seq fun K21 hK21 => ?_
              refine gr rfl ?_
              refine ea rfl (by conv=>lhs;whnf) ?_
              refine ev_nil (hK21 _ ?_); clear hK21
              refine good_ret ?_
              repeat first|refine thenQ_ret ?_|refine blockQ_ret ?_
              refine ret_tmp (st := _) rfl (by conv=>lhs;whnf) rfl ?_
              clear hK2 hK10
              first | exact fB (allNb_T (fun j u hj => hJ j u (by omega))).symm | exact fB (allNb_F hu (by simp only [nbc, small, digit]; grind)).symm
          · replace hb18 := dT hb18
            refine em rfl (by conv=>lhs;whnf) ?_
            refine ev_skip rfl ?_
            refine ev_skip rfl ?_
            refine ev_q rfl (q_pickT rfl (by conv=>lhs;whnf) ?_)
            refine ev_q rfl (q_pickT rfl (by conv=>lhs;whnf) ?_)
            refine ev_nil (hK14 _ ?_); clear hK14
            refine good_condT rfl ?_
            refine good_seq fun K22 hK22 => ?_
            refine gr rfl ?_
            refine ea rfl (by conv=>lhs;whnf) ?_
            refine ev_nil (hK22 _ ?_); clear hK22
            refine good_ret ?_
            repeat first|refine thenQ_ret ?_|refine blockQ_ret ?_
            refine ret_tmp (st := _) rfl (by conv=>lhs;whnf) rfl ?_
            clear hK2 hK10
            first | exact fB (allNb_T (fun j u hj => hJ j u (by omega))).symm | exact fB (allNb_F hu (by simp only [nbc, small, digit]; grind)).symm
      · replace hb15 := dT hb15
        refine em rfl (by conv=>lhs;whnf) ?_
        refine ev_skip rfl ?_
        refine ev_skip rfl ?_
        refine ev_q rfl (q_pickT rfl (by conv=>lhs;whnf) ?_)
        refine em rfl (by conv=>lhs;whnf) ?_
        refine em rfl (by conv=>lhs;whnf) ?_
        refine ei rfl rfl rfl ?_
        intro b23 hb23; cases b23
        · replace hb23 := dF hb23
          refine em rfl (by conv=>lhs;whnf) ?_
          refine em rfl (by conv=>lhs;whnf) ?_
          refine ei rfl rfl rfl ?_
          intro b24 hb24; cases b24
          · replace hb24 := dF hb24
            refine ev_q rfl (q_pickF rfl (by conv=>lhs;whnf) ?_)
            refine ev_q rfl (q_pickT rfl (by conv=>lhs;whnf) ?_)
            refine ev_nil (hK14 _ ?_); clear hK14
            refine good_condF rfl ?_
            refine good_skip (hK10 _ ?_); clear hK10
            refine gr rfl ?_
            refine ei rfl rfl rfl ?_
            intro n25 hn25
            replace hn25 := in64 hn25 (by omega) (by omega)
            refine em rfl (by conv=>lhs;whnf) ?_
            refine ev_nil ?_
            clear hK2
            refine ⟨i + 1, ?_, ?_, ?_⟩
            · refine ⟨by omega, fun j v hj hv => ?_⟩
              by_cases hji : j = i
              · subst hji; rw [hu] at hv; cases hv; simp only [nbc, small, digit] at *; grind
              · exact hJ j v (by omega) hv
            · first | omega | (simp only []; omega) | (dsimp only; omega)
            · refine sub_weak ?_ ?_
              · exact weakH_none _
              · refine weakE_upd ?e7 ?r7 (weakE_upd ?e6 ?r6 (weakE_upd ?e0 ?r0 (weakE_junk _ _)))
                case e0 => first | rfl | exact fI (by omega) | (simp_all)
                case r0 => intro h hh; cases hh
                case e6 => first | rfl | exact fI (by omega) | (simp_all)
                case r6 => intro h hh; cases hh
                case e7 => first | rfl | exact fI (by omega) | (simp_all)
                case r7 => intro h hh; cases hh
          · replace hb24 := dT hb24
            refine ev_q rfl (q_pickF rfl (by conv=>lhs;whnf) ?_)
            refine ev_q rfl (q_pickT rfl (by conv=>lhs;whnf) ?_)
            refine ev_nil (hK14 _ ?_); clear hK14
            refine good_condT rfl ?_
            refine good_seq fun K26 hK26 => ?_
            refine gr rfl ?_
            refine ea rfl (by conv=>lhs;whnf) ?_
            refine ev_nil (hK26 _ ?_); clear hK26
            refine good_ret ?_
            repeat first|refine thenQ_ret ?_|refine blockQ_ret ?_
            refine ret_tmp (st := _) rfl (by conv=>lhs;whnf) rfl ?_
            clear hK2 hK10
            first | exact fB (allNb_T (fun j u hj => hJ j u (by omega))).symm | exact fB (allNb_F hu (by simp only [nbc, small, digit]; grind)).symm
        · replace hb23 := dT hb23
          refine em rfl (by conv=>lhs;whnf) ?_
          refine ev_skip rfl ?_
          refine ev_skip rfl ?_
          refine ev_q rfl (q_pickT rfl (by conv=>lhs;whnf) ?_)
          refine ev_q rfl (q_pickT rfl (by conv=>lhs;whnf) ?_)
          refine ev_nil (hK14 _ ?_); clear hK14
          refine good_condT rfl ?_
          refine good_seq fun K27 hK27 => ?_
          refine gr rfl ?_
          refine ea rfl (by conv=>lhs;whnf) ?_
          refine ev_nil (hK27 _ ?_); clear hK27
          refine good_ret ?_
          repeat first|refine thenQ_ret ?_|refine blockQ_ret ?_
          refine ret_tmp (st := _) rfl (by conv=>lhs;whnf) rfl ?_
          clear hK2 hK10
          first | exact fB (allNb_T (fun j u hj => hJ j u (by omega))).symm | exact fB (allNb_F hu (by simp only [nbc, small, digit]; grind)).symm

-- impl.IsName
theorem D_impl_IsName (s : ByteArray) (hs : s.size ≤ 140737488351232) : Den Try.prog 95 [.s (.string s)] (.s (.bool (isName s))) := by
  refine den_of_good Try.func95 (by decide) rfl (Nat.le_of_ble_eq_true rfl) (Nat.le_of_ble_eq_true rfl) ?_
  refine good_seq fun K1 hK1 => ?_
  refine gr rfl ?_
  refine ea rfl (by conv=>lhs;whnf) ?_
  refine ev_nil (hK1 _ ?_); clear hK1
  refine good_seq fun K2 hK2 => ?_
  refine good_seq fun K3 hK3 => ?_
  refine gr rfl ?_
  refine em rfl (by conv=>lhs;whnf) ?_
  refine ev_q rfl (q_lenS tStr9 rfl ?_)
  intro n4 hn4
  refine ei rfl rfl rfl ?_
  intro b5 hb5; cases b5
  · replace hb5 := dF hb5
    refine em rfl (by conv=>lhs;whnf) ?_
    refine em rfl (by conv=>lhs;whnf) ?_
    refine ev_q rfl (q_lenS tStr9 rfl ?_)
    intro n6 hn6
    refine ei rfl rfl rfl ?_
    intro b7 hb7; cases b7
    · replace hb7 := dF hb7
      obtain ⟨u, hu⟩ := getB (s := s) (i := 0) (by omega)
      refine ev_q rfl (q_pickF rfl (by conv=>lhs;whnf) ?_)
      refine em rfl (by conv=>lhs;whnf) ?_
      refine em rfl (by conv=>lhs;whnf) ?_
      refine ev_q rfl (q_indexS tStr9 rfl rfl (by decide) (by exact hu) ?_)
      intro n8 hn8
      refine ei rfl rfl rfl ?_
      intro b9 hb9; cases b9
      · replace hb9 := dF hb9
        refine ev_q rfl (q_pickF rfl (by conv=>lhs;whnf) ?_)
        refine em rfl (by conv=>lhs;whnf) ?_
        refine em rfl (by conv=>lhs;whnf) ?_
        refine ev_q rfl (q_indexS tStr9 rfl rfl (by decide) (by exact hu) ?_)
        intro n10 hn10
        refine ei rfl rfl rfl ?_
        intro b11 hb11; cases b11
        · replace hb11 := dF hb11
          refine ev_q rfl (q_pickF rfl (by conv=>lhs;whnf) ?_)
          refine ev_nil (hK3 _ ?_); clear hK3
          refine good_condF rfl ?_
          refine good_skip (hK2 _ ?_); clear hK2
          refine good_seq fun K12 hK12 => ?_
          refine gr rfl ?_
          refine em rfl (by conv=>lhs;whnf) ?_
          refine ev_q rfl (q_callB rfl rfl (rfl) (D_impl_onlyNameBytes _ hs) ?_)
          intro b13 hb13; cases b13
          · first | replace hb13 := dF hb13 | skip
            refine ea rfl (by conv=>lhs;whnf) ?_
            refine ev_nil (hK12 _ ?_); clear hK12
            refine good_ret ?_
            repeat first|refine thenQ_ret ?_|refine blockQ_ret ?_
            refine ret_tmp (st := _) rfl (by conv=>lhs;whnf) rfl ?_
            first | exact fB (isName_none (by omega)).symm | exact fB (isName_long (by omega)).symm | exact fB (isName_head hu (by simp only [small]; grind)).symm | (exact fB (by rw [isName_eq (by omega) (by omega) hu (by simp only [small]; grind)]; grind))
          · first | replace hb13 := dT hb13 | skip
            refine ea rfl (by conv=>lhs;whnf) ?_
            refine ev_nil (hK12 _ ?_); clear hK12
            refine good_ret ?_
            repeat first|refine thenQ_ret ?_|refine blockQ_ret ?_
            refine ret_tmp (st := _) rfl (by conv=>lhs;whnf) rfl ?_
            first | exact fB (isName_none (by omega)).symm | exact fB (isName_long (by omega)).symm | exact fB (isName_head hu (by simp only [small]; grind)).symm | (exact fB (by rw [isName_eq (by omega) (by omega) hu (by simp only [small]; grind)]; grind))
        · replace hb11 := dT hb11
          refine ev_q rfl (q_pickF rfl (by conv=>lhs;whnf) ?_)
          refine ev_nil (hK3 _ ?_); clear hK3
          refine good_condT rfl ?_
          refine good_seq fun K14 hK14 => ?_
          refine gr rfl ?_
          refine ea rfl (by conv=>lhs;whnf) ?_
          refine ev_nil (hK14 _ ?_); clear hK14
          refine good_ret ?_
          repeat first|refine thenQ_ret ?_|refine blockQ_ret ?_
          refine ret_tmp (st := _) rfl (by conv=>lhs;whnf) rfl ?_
          clear hK2
          first | exact fB (isName_none (by omega)).symm | exact fB (isName_long (by omega)).symm | exact fB (isName_head hu (by simp only [small]; grind)).symm | (exact fB (by rw [isName_eq (by omega) (by omega) hu (by simp only [small]; grind)]; grind))
      · replace hb9 := dT hb9
        refine ev_q rfl (q_pickF rfl (by conv=>lhs;whnf) ?_)
        refine em rfl (by conv=>lhs;whnf) ?_
        refine ev_skip rfl ?_
        refine ev_skip rfl ?_
        refine ev_skip rfl ?_
        refine ev_q rfl (q_pickT rfl (by conv=>lhs;whnf) ?_)
        refine ev_nil (hK3 _ ?_); clear hK3
        refine good_condT rfl ?_
        refine good_seq fun K15 hK15 => ?_
        refine gr rfl ?_
        refine ea rfl (by conv=>lhs;whnf) ?_
        refine ev_nil (hK15 _ ?_); clear hK15
        refine good_ret ?_
        repeat first|refine thenQ_ret ?_|refine blockQ_ret ?_
        refine ret_tmp (st := _) rfl (by conv=>lhs;whnf) rfl ?_
        clear hK2
        first | exact fB (isName_none (by omega)).symm | exact fB (isName_long (by omega)).symm | exact fB (isName_head hu (by simp only [small]; grind)).symm | (exact fB (by rw [isName_eq (by omega) (by omega) hu (by simp only [small]; grind)]; grind))
    · replace hb7 := dT hb7
      refine ev_q rfl (q_pickF rfl (by conv=>lhs;whnf) ?_)
      refine em rfl (by conv=>lhs;whnf) ?_
      refine ev_skip rfl ?_
      refine ev_skip rfl ?_
      refine ev_skip rfl ?_
      refine ev_q rfl (q_pickT rfl (by conv=>lhs;whnf) ?_)
      refine em rfl (by conv=>lhs;whnf) ?_
      refine ev_skip rfl ?_
      refine ev_skip rfl ?_
      refine ev_skip rfl ?_
      refine ev_q rfl (q_pickT rfl (by conv=>lhs;whnf) ?_)
      refine ev_nil (hK3 _ ?_); clear hK3
      refine good_condT rfl ?_
      refine good_seq fun K16 hK16 => ?_
      refine gr rfl ?_
      refine ea rfl (by conv=>lhs;whnf) ?_
      refine ev_nil (hK16 _ ?_); clear hK16
      refine good_ret ?_
      repeat first|refine thenQ_ret ?_|refine blockQ_ret ?_
      refine ret_tmp (st := _) rfl (by conv=>lhs;whnf) rfl ?_
      clear hK2
      first | exact fB (isName_none (by omega)).symm | exact fB (isName_long (by omega)).symm | exact fB (isName_head hu (by simp only [small]; grind)).symm | (exact fB (by rw [isName_eq (by omega) (by omega) hu (by simp only [small]; grind)]; grind))
  · replace hb5 := dT hb5
    refine em rfl (by conv=>lhs;whnf) ?_
    refine ev_skip rfl ?_
    refine ev_skip rfl ?_
    refine ev_skip rfl ?_
    refine ev_q rfl (q_pickT rfl (by conv=>lhs;whnf) ?_)
    refine em rfl (by conv=>lhs;whnf) ?_
    refine ev_skip rfl ?_
    refine ev_skip rfl ?_
    refine ev_skip rfl ?_
    refine ev_q rfl (q_pickT rfl (by conv=>lhs;whnf) ?_)
    refine em rfl (by conv=>lhs;whnf) ?_
    refine ev_skip rfl ?_
    refine ev_skip rfl ?_
    refine ev_skip rfl ?_
    refine ev_q rfl (q_pickT rfl (by conv=>lhs;whnf) ?_)
    refine ev_nil (hK3 _ ?_); clear hK3
    refine good_condT rfl ?_
    refine good_seq fun K17 hK17 => ?_
    refine gr rfl ?_
    refine ea rfl (by conv=>lhs;whnf) ?_
    refine ev_nil (hK17 _ ?_); clear hK17
    refine good_ret ?_
    repeat first|refine thenQ_ret ?_|refine blockQ_ret ?_
    refine ret_tmp (st := _) rfl (by conv=>lhs;whnf) rfl ?_
    clear hK2
    first | exact fB (isName_none (by omega)).symm | exact fB (isName_long (by omega)).symm | exact fB (isName_head hu (by simp only [small]; grind)).symm | (exact fB (by rw [isName_eq (by omega) (by omega) hu (by simp only [small]; grind)]; grind))

-- spec.l01Name
theorem D_spec_l01Name (s : ByteArray) (hs : s.size ≤ 140737488351232) : Den Try.prog 92 [.s (.string s)] (.s (.bool (isName s))) := by
  refine den_of_good Try.func92 (by decide) rfl (Nat.le_of_ble_eq_true rfl) (Nat.le_of_ble_eq_true rfl) ?_
  refine good_seq fun K1 hK1 => ?_
  refine gr rfl ?_
  refine ea rfl (by conv=>lhs;whnf) ?_
  refine ev_nil (hK1 _ ?_); clear hK1
  refine good_seq fun K2 hK2 => ?_
  refine good_seq fun K3 hK3 => ?_
  refine gr rfl ?_
  refine em rfl (by conv=>lhs;whnf) ?_
  refine ev_q rfl (q_str rfl rfl ?_)
  intro b4 hb4; cases b4
  · replace hb4 := seF hb4
    have hz : 1 ≤ s.size := by
      apply Classical.byContradiction; intro hc; exact hb4 (size0 (by omega))
    refine em rfl (by conv=>lhs;whnf) ?_
    refine em rfl (by conv=>lhs;whnf) ?_
    refine ev_q rfl (q_lenS tStr9 rfl ?_)
    intro n5 hn5
    refine ei rfl rfl rfl ?_
    intro b6 hb6; cases b6
    · replace hb6 := dF hb6
      obtain ⟨u0, hu0⟩ := getB (s := s) (i := 0) (by omega)
      refine ev_q rfl (q_pickF rfl (by conv=>lhs;whnf) ?_)
      refine em rfl (by conv=>lhs;whnf) ?_
      refine em rfl (by conv=>lhs;whnf) ?_
      refine ev_q rfl (q_indexS tStr9 rfl rfl (by first | exact Int.natCast_nonneg _ | decide) (by first | exact hu0 | exact hu) ?_)
      intro n7 hn7
      subst hn7
      refine ev_q rfl (q_callB rfl rfl (rfl) (D_spec_l01Small ..) ?_)
      intro b8 hb8; cases b8
      · first | replace hb8 := dF hb8 | skip
        refine ev_q rfl (q_not rfl rfl ?_)
        refine ev_q rfl (q_pickF rfl (by conv=>lhs;whnf) ?_)
        refine ev_nil (hK3 _ ?_); clear hK3
        refine good_condT rfl ?_
        refine good_seq fun K9 hK9 => ?_
        refine gr rfl ?_
        refine ea rfl (by conv=>lhs;whnf) ?_
        refine ev_nil (hK9 _ ?_); clear hK9
        refine good_ret ?_
        repeat first|refine thenQ_ret ?_|refine blockQ_ret ?_
        refine ret_tmp (st := _) rfl (by conv=>lhs;whnf) rfl ?_
        clear hK2
        first | exact fB (by rw [hb4]; rfl) | exact fB (isName_long (by omega)).symm | exact fB (isName_head hu0 (by simp only [small]; grind)).symm | exact fB (by rw [isName_eq (by omega) (by omega) hu0 (by simp only [small]; grind)]; exact (allNb_T (fun j u hj => hJ j u (by omega))).symm) | exact fB (by rw [isName_eq (by omega) (by omega) hu0 (by simp only [small]; grind)]; exact (allNb_F hu (by simp only [nbc, small, digit]; grind)).symm)
      · first | replace hb8 := dT hb8 | skip
        refine ev_q rfl (q_not rfl rfl ?_)
        refine ev_q rfl (q_pickF rfl (by conv=>lhs;whnf) ?_)
        refine ev_nil (hK3 _ ?_); clear hK3
        refine good_condF rfl ?_
        refine good_skip (hK2 _ ?_); clear hK2
        refine good_seq fun K10 hK10 => ?_
        refine good_seq fun K11 hK11 => ?_
        refine gr rfl ?_
        refine ea rfl (by conv=>lhs;whnf) ?_
        refine ev_nil (hK11 _ ?_); clear hK11
        refine good_block ?_
        refine good_loop (α := Nat) (fun i => { env := upd (upd ((fun _ => .junk)) 0 (.s (.string s))) 3 (.s (.int .i64 i)), H := fun _ => none }) (fun i => i ≤ s.size ∧ ∀ j u, j < i → s[j]? = some u → nbc u = true) (fun i => s.size - i) 0 ?_ ?_ ?_
        · exact ⟨by omega, fun j u hj => by omega⟩
        · refine sub_weak ?_ ?_
          · exact weakH_none _
          · refine weakE_upd ?e3 ?r3 (weakE_upd ?e0 ?r0 (weakE_junk _ _))
            case e0 => first | rfl | exact fI (by omega) | (simp_all)
            case r0 => intro h hh; cases hh
            case e3 => first | rfl | exact fI (by omega) | (simp_all)
            case r3 => intro h hh; cases hh
        · rintro i ⟨hI, hJ⟩
          refine good_seq fun K12 hK12 => ?_
          refine good_seq fun K13 hK13 => ?_
          refine gr rfl ?_
          refine em rfl (by conv=>lhs;whnf) ?_
          refine em rfl (by conv=>lhs;whnf) ?_
          refine ev_q rfl (q_lenS tStr9 rfl ?_)
          intro n14 hn14
          refine ei rfl rfl rfl ?_
          intro b15 hb15; cases b15
          · replace hb15 := dF hb15
            refine ev_nil (hK13 _ ?_); clear hK13
            refine good_condF rfl ?_
            refine good_exit ?_
            repeat first|refine thenQ_exit ?_|refine blockQ_pass rfl ?_
            refine blockQ_exit (hK10 _ ?_); clear hK10
            refine good_seq fun K16 hK16 => ?_
            refine gr rfl ?_
            refine ea rfl (by conv=>lhs;whnf) ?_
            refine ev_nil (hK16 _ ?_); clear hK16
            refine good_ret ?_
            repeat first|refine thenQ_ret ?_|refine blockQ_ret ?_
            refine ret_tmp (st := _) rfl (by conv=>lhs;whnf) rfl ?_
            clear hK12
            first | exact fB (by rw [hb4]; rfl) | exact fB (isName_long (by omega)).symm | exact fB (isName_head hu0 (by simp only [small]; grind)).symm | exact fB (by rw [isName_eq (by omega) (by omega) hu0 (by simp only [small]; grind)]; exact (allNb_T (fun j u hj => hJ j u (by omega))).symm) | exact fB (by rw [isName_eq (by omega) (by omega) hu0 (by simp only [small]; grind)]; exact (allNb_F hu (by simp only [nbc, small, digit]; grind)).symm)
          · replace hb15 := dT hb15
            obtain ⟨u, hu⟩ := getB (s := s) (i := i) (by omega)
            refine ev_nil (hK13 _ ?_); clear hK13
            refine good_condT rfl ?_
            refine good_skip (hK12 _ ?_); clear hK12
            refine good_seq fun K17 hK17 => ?_
            refine good_block ?_
            refine good_seq fun K18 hK18 => ?_
            refine gr rfl ?_
            refine em rfl (by conv=>lhs;whnf) ?_
            refine em rfl (by conv=>lhs;whnf) ?_
            refine ev_q rfl (q_indexS tStr9 rfl rfl (by first | exact Int.natCast_nonneg _ | decide) (by first | exact hu0 | exact hu) ?_)
            intro n19 hn19
            subst hn19
            refine ev_q rfl (q_callB rfl rfl (rfl) (D_spec_l01Small ..) ?_)
            intro b20 hb20; cases b20
            · first | replace hb20 := dF hb20 | skip
              refine ev_q rfl (q_not rfl rfl ?_)
              refine em rfl (by conv=>lhs;whnf) ?_
              refine em rfl (by conv=>lhs;whnf) ?_
              refine em rfl (by conv=>lhs;whnf) ?_
              refine ev_q rfl (q_indexS tStr9 rfl rfl (by first | exact Int.natCast_nonneg _ | decide) (by first | exact hu0 | exact hu) ?_)
              intro n21 hn21
              subst hn21
              refine ev_q rfl (q_callB rfl rfl (rfl) (D_spec_l01Digit ..) ?_)
              intro b22 hb22; cases b22
              · first | replace hb22 := dF hb22 | skip
                refine ev_q rfl (q_not rfl rfl ?_)
                refine ev_q rfl (q_pickT rfl (by conv=>lhs;whnf) ?_)
                refine ev_nil (hK18 _ ?_); clear hK18
                refine good_condT rfl ?_
                refine good_seq fun K23 hK23 => ?_
                refine gr rfl ?_
                refine ea rfl (by conv=>lhs;whnf) ?_
                refine ev_nil (hK23 _ ?_); clear hK23
                refine good_ret ?_
                repeat first|refine thenQ_ret ?_|refine blockQ_ret ?_
                refine ret_tmp (st := _) rfl (by conv=>lhs;whnf) rfl ?_
                clear hK10 hK17
                first | exact fB (by rw [hb4]; rfl) | exact fB (isName_long (by omega)).symm | exact fB (isName_head hu0 (by simp only [small]; grind)).symm | exact fB (by rw [isName_eq (by omega) (by omega) hu0 (by simp only [small]; grind)]; exact (allNb_T (fun j u hj => hJ j u (by omega))).symm) | exact fB (by rw [isName_eq (by omega) (by omega) hu0 (by simp only [small]; grind)]; exact (allNb_F hu (by simp only [nbc, small, digit]; grind)).symm)
              · first | replace hb22 := dT hb22 | skip
                refine ev_q rfl (q_not rfl rfl ?_)
                refine ev_q rfl (q_pickT rfl (by conv=>lhs;whnf) ?_)
                refine ev_nil (hK18 _ ?_); clear hK18
                refine good_condF rfl ?_
                refine good_skip (hK17 _ ?_); clear hK17
                refine gr rfl ?_
                refine em rfl (by conv=>lhs;whnf) ?_
                refine ei rfl rfl rfl ?_
                intro n24 hn24
                replace hn24 := in64 hn24 (by omega) (by omega)
                refine ea rfl (by conv=>lhs;whnf) ?_
                refine ev_nil ?_
                clear hK10
                refine ⟨i + 1, ?_, ?_, ?_⟩
                · refine ⟨by omega, fun j v hj hv => ?_⟩
                  by_cases hji : j = i
                  · subst hji; rw [hu] at hv; cases hv; simp only [nbc, small, digit] at *; grind
                  · exact hJ j v (by omega) hv
                · first | omega | (simp only []; omega) | (dsimp only; omega)
                · refine sub_weak ?_ ?_
                  · exact weakH_none _
                  · refine weakE_upd ?e3 ?r3 (weakE_upd ?e0 ?r0 (weakE_junk _ _))
                    case e0 => first | rfl | exact fI (by omega) | (simp_all)
                    case r0 => intro h hh; cases hh
                    case e3 => first | rfl | exact fI (by omega) | (simp_all)
                    case r3 => intro h hh; cases hh
            · first | replace hb20 := dT hb20 | skip
              refine ev_q rfl (q_not rfl rfl ?_)
              refine em rfl (by conv=>lhs;whnf) ?_
              refine ev_skip rfl ?_
              refine ev_skip rfl ?_
              refine ev_skip rfl ?_
              refine ev_skip rfl ?_
              refine ev_skip rfl ?_
              refine ev_q rfl (q_pickF rfl (by conv=>lhs;whnf) ?_)
              refine ev_nil (hK18 _ ?_); clear hK18
              refine good_condF rfl ?_
              refine good_skip (hK17 _ ?_); clear hK17
              refine gr rfl ?_
              refine em rfl (by conv=>lhs;whnf) ?_
              refine ei rfl rfl rfl ?_
              intro n25 hn25
              replace hn25 := in64 hn25 (by omega) (by omega)
              refine ea rfl (by conv=>lhs;whnf) ?_
              refine ev_nil ?_
              clear hK10
              refine ⟨i + 1, ?_, ?_, ?_⟩
              · refine ⟨by omega, fun j v hj hv => ?_⟩
                by_cases hji : j = i
                · subst hji; rw [hu] at hv; cases hv; simp only [nbc, small, digit] at *; grind
                · exact hJ j v (by omega) hv
              · first | omega | (simp only []; omega) | (dsimp only; omega)
              · refine sub_weak ?_ ?_
                · exact weakH_none _
                · refine weakE_upd ?e3 ?r3 (weakE_upd ?e0 ?r0 (weakE_junk _ _))
                  case e0 => first | rfl | exact fI (by omega) | (simp_all)
                  case r0 => intro h hh; cases hh
                  case e3 => first | rfl | exact fI (by omega) | (simp_all)
                  case r3 => intro h hh; cases hh
    · replace hb6 := dT hb6
      refine ev_q rfl (q_pickF rfl (by conv=>lhs;whnf) ?_)
      refine em rfl (by conv=>lhs;whnf) ?_
      refine ev_skip rfl ?_
      refine ev_skip rfl ?_
      refine ev_skip rfl ?_
      refine ev_skip rfl ?_
      refine ev_q rfl (q_pickT rfl (by conv=>lhs;whnf) ?_)
      refine ev_nil (hK3 _ ?_); clear hK3
      refine good_condT rfl ?_
      refine good_seq fun K26 hK26 => ?_
      refine gr rfl ?_
      refine ea rfl (by conv=>lhs;whnf) ?_
      refine ev_nil (hK26 _ ?_); clear hK26
      refine good_ret ?_
      repeat first|refine thenQ_ret ?_|refine blockQ_ret ?_
      refine ret_tmp (st := _) rfl (by conv=>lhs;whnf) rfl ?_
      clear hK2
      first | exact fB (by rw [hb4]; rfl) | exact fB (isName_long (by omega)).symm | exact fB (isName_head hu0 (by simp only [small]; grind)).symm | exact fB (by rw [isName_eq (by omega) (by omega) hu0 (by simp only [small]; grind)]; exact (allNb_T (fun j u hj => hJ j u (by omega))).symm) | exact fB (by rw [isName_eq (by omega) (by omega) hu0 (by simp only [small]; grind)]; exact (allNb_F hu (by simp only [nbc, small, digit]; grind)).symm)
  · replace hb4 := seT hb4
    refine em rfl (by conv=>lhs;whnf) ?_
    refine ev_skip rfl ?_
    refine ev_skip rfl ?_
    refine ev_skip rfl ?_
    refine ev_q rfl (q_pickT rfl (by conv=>lhs;whnf) ?_)
    refine em rfl (by conv=>lhs;whnf) ?_
    refine ev_skip rfl ?_
    refine ev_skip rfl ?_
    refine ev_skip rfl ?_
    refine ev_skip rfl ?_
    refine ev_q rfl (q_pickT rfl (by conv=>lhs;whnf) ?_)
    refine ev_nil (hK3 _ ?_); clear hK3
    refine good_condT rfl ?_
    refine good_seq fun K27 hK27 => ?_
    refine gr rfl ?_
    refine ea rfl (by conv=>lhs;whnf) ?_
    refine ev_nil (hK27 _ ?_); clear hK27
    refine good_ret ?_
    repeat first|refine thenQ_ret ?_|refine blockQ_ret ?_
    refine ret_tmp (st := _) rfl (by conv=>lhs;whnf) rfl ?_
    clear hK2
    first | exact fB (by rw [hb4]; rfl) | exact fB (isName_long (by omega)).symm | exact fB (isName_head hu0 (by simp only [small]; grind)).symm | exact fB (by rw [isName_eq (by omega) (by omega) hu0 (by simp only [small]; grind)]; exact (allNb_T (fun j u hj => hJ j u (by omega))).symm) | exact fB (by rw [isName_eq (by omega) (by omega) hu0 (by simp only [small]; grind)]; exact (allNb_F hu (by simp only [nbc, small, digit]; grind)).symm)

-- impl.nodeOk
theorem D_impl_nodeOk (a : Int)  : Den Try.prog 122 [.s (.int .i64 a)] (.s (.bool (decide (0 ≤ a ∧ a ≤ 15)))) := by
  refine den_of_good Try.func122 (by decide) rfl (Nat.le_of_ble_eq_true rfl) (Nat.le_of_ble_eq_true rfl) ?_
  refine good_seq fun K1 hK1 => ?_
  refine gr rfl ?_
  refine ea rfl (by conv=>lhs;whnf) ?_
  refine ev_nil (hK1 _ ?_); clear hK1
  refine good_seq fun K2 hK2 => ?_
  refine gr rfl ?_
  refine em rfl (by conv=>lhs;whnf) ?_
  refine ev_q rfl (q_callB rfl rfl (rfl) (D_impl_within ..) ?_)
  intro b3 hb3; cases b3
  · first | replace hb3 := dF hb3 | skip
    refine ea rfl (by conv=>lhs;whnf) ?_
    refine ev_nil (hK2 _ ?_); clear hK2
    refine good_ret ?_
    repeat first|refine thenQ_ret ?_|refine blockQ_ret ?_
    refine ret_tmp (st := _) rfl (by conv=>lhs;whnf) rfl ?_
    first | rfl | exact fT (by first | omega | grind) | exact fF (by first | omega | grind) | exact fT' (by first | omega | grind) | (exfalso; first | omega | grind)
  · first | replace hb3 := dT hb3 | skip
    refine ea rfl (by conv=>lhs;whnf) ?_
    refine ev_nil (hK2 _ ?_); clear hK2
    refine good_ret ?_
    repeat first|refine thenQ_ret ?_|refine blockQ_ret ?_
    refine ret_tmp (st := _) rfl (by conv=>lhs;whnf) rfl ?_
    first | rfl | exact fT (by first | omega | grind) | exact fF (by first | omega | grind) | exact fT' (by first | omega | grind) | (exfalso; first | omega | grind)

-- impl.ValidPipe
theorem D_impl_ValidPipe (s : ByteArray) (fm tt le di lo : Int) (hs : s.size ≤ 140737488351232) : Den Try.prog 86 [.agg [.s (.string s), .s (.int .i64 fm), .s (.int .i64 tt), .s (.int .i64 le), .s (.int .i64 di), .s (.int .i64 lo)]] (.s (.bool (decide (isName s = true ∧ (0 ≤ fm ∧ fm ≤ 15) ∧ (0 ≤ tt ∧ tt ≤ 15) ∧ ¬ fm = tt ∧ (1 ≤ le ∧ le ≤ 10000) ∧ (20 ≤ di ∧ di ≤ 1000) ∧ (0 ≤ lo ∧ lo ≤ 5000))))) := by
  refine den_of_good Try.func86 (by decide) rfl (Nat.le_of_ble_eq_true rfl) (Nat.le_of_ble_eq_true rfl) ?_
  refine good_seq fun K1 hK1 => ?_
  refine gr rfl ?_
  refine ev_k rfl (k_box (by conv=>lhs;whnf) rfl rfl rfl ?_)
  refine ea rfl (by conv=>lhs;whnf) ?_
  refine ev_nil (hK1 _ ?_); clear hK1
  refine good_seq fun K2 hK2 => ?_
  refine gr rfl ?_
  refine ev_q rfl (q_fieldAddrP fO73_0 rfl rfl ?_)
  refine ev_q rfl (q_load tA9 rfl ?_)
  refine ev_q rfl (q_callB rfl rfl (rfl) (D_impl_IsName _ hs) ?_)
  intro b3 hb3; cases b3
  · first | replace hb3 := dF hb3 | skip
    refine em rfl (by conv=>lhs;whnf) ?_
    refine ev_skip rfl ?_
    refine ev_skip rfl ?_
    refine ev_skip rfl ?_
    refine ev_q rfl (q_pickF rfl (by conv=>lhs;whnf) ?_)
    refine em rfl (by conv=>lhs;whnf) ?_
    refine ev_skip rfl ?_
    refine ev_skip rfl ?_
    refine ev_skip rfl ?_
    refine ev_q rfl (q_pickF rfl (by conv=>lhs;whnf) ?_)
    refine em rfl (by conv=>lhs;whnf) ?_
    refine ev_skip rfl ?_
    refine ev_skip rfl ?_
    refine ev_skip rfl ?_
    refine ev_skip rfl ?_
    refine ev_skip rfl ?_
    refine ev_q rfl (q_pickF rfl (by conv=>lhs;whnf) ?_)
    refine em rfl (by conv=>lhs;whnf) ?_
    refine ev_skip rfl ?_
    refine ev_skip rfl ?_
    refine ev_skip rfl ?_
    refine ev_q rfl (q_pickF rfl (by conv=>lhs;whnf) ?_)
    refine em rfl (by conv=>lhs;whnf) ?_
    refine ev_skip rfl ?_
    refine ev_skip rfl ?_
    refine ev_skip rfl ?_
    refine ev_q rfl (q_pickF rfl (by conv=>lhs;whnf) ?_)
    refine em rfl (by conv=>lhs;whnf) ?_
    refine ev_skip rfl ?_
    refine ev_skip rfl ?_
    refine ev_skip rfl ?_
    refine ev_q rfl (q_pickF rfl (by conv=>lhs;whnf) ?_)
    refine ea rfl (by conv=>lhs;whnf) ?_
    refine ev_nil (hK2 _ ?_); clear hK2
    refine good_ret ?_
    repeat first|refine thenQ_ret ?_|refine blockQ_ret ?_
    refine ret_tmp (st := _) rfl (by conv=>lhs;whnf) rfl ?_
    first | rfl | exact fT (by first | omega | grind) | exact fF (by first | omega | grind) | exact fT' (by first | omega | grind) | (exfalso; first | omega | grind)
  · first | replace hb3 := dT hb3 | skip
    refine em rfl (by conv=>lhs;whnf) ?_
    refine ev_q rfl (q_fieldAddrP fO73_1 rfl rfl ?_)
    refine ev_q rfl (q_load tA2 rfl ?_)
    refine ev_q rfl (q_callB rfl rfl (rfl) (D_impl_nodeOk ..) ?_)
    intro b4 hb4; cases b4
    · first | replace hb4 := dF hb4 | skip
      refine ev_q rfl (q_pickT rfl (by conv=>lhs;whnf) ?_)
      refine em rfl (by conv=>lhs;whnf) ?_
      refine ev_skip rfl ?_
      refine ev_skip rfl ?_
      refine ev_skip rfl ?_
      refine ev_q rfl (q_pickF rfl (by conv=>lhs;whnf) ?_)
      refine em rfl (by conv=>lhs;whnf) ?_
      refine ev_skip rfl ?_
      refine ev_skip rfl ?_
      refine ev_skip rfl ?_
      refine ev_skip rfl ?_
      refine ev_skip rfl ?_
      refine ev_q rfl (q_pickF rfl (by conv=>lhs;whnf) ?_)
      refine em rfl (by conv=>lhs;whnf) ?_
      refine ev_skip rfl ?_
      refine ev_skip rfl ?_
      refine ev_skip rfl ?_
      refine ev_q rfl (q_pickF rfl (by conv=>lhs;whnf) ?_)
      refine em rfl (by conv=>lhs;whnf) ?_
      refine ev_skip rfl ?_
      refine ev_skip rfl ?_
      refine ev_skip rfl ?_
      refine ev_q rfl (q_pickF rfl (by conv=>lhs;whnf) ?_)
      refine em rfl (by conv=>lhs;whnf) ?_
      refine ev_skip rfl ?_
      refine ev_skip rfl ?_
      refine ev_skip rfl ?_
      refine ev_q rfl (q_pickF rfl (by conv=>lhs;whnf) ?_)
      refine ea rfl (by conv=>lhs;whnf) ?_
      refine ev_nil (hK2 _ ?_); clear hK2
      refine good_ret ?_
      repeat first|refine thenQ_ret ?_|refine blockQ_ret ?_
      refine ret_tmp (st := _) rfl (by conv=>lhs;whnf) rfl ?_
      first | rfl | exact fT (by first | omega | grind) | exact fF (by first | omega | grind) | exact fT' (by first | omega | grind) | (exfalso; first | omega | grind)
    · first | replace hb4 := dT hb4 | skip
      refine ev_q rfl (q_pickT rfl (by conv=>lhs;whnf) ?_)
      refine em rfl (by conv=>lhs;whnf) ?_
      refine ev_q rfl (q_fieldAddrP fO73_2 rfl rfl ?_)
      refine ev_q rfl (q_load tA2 rfl ?_)
      refine ev_q rfl (q_callB rfl rfl (rfl) (D_impl_nodeOk ..) ?_)
      intro b5 hb5; cases b5
      · first | replace hb5 := dF hb5 | skip
        refine ev_q rfl (q_pickT rfl (by conv=>lhs;whnf) ?_)
        refine em rfl (by conv=>lhs;whnf) ?_
        refine ev_skip rfl ?_
        refine ev_skip rfl ?_
        refine ev_skip rfl ?_
        refine ev_skip rfl ?_
        refine ev_skip rfl ?_
        refine ev_q rfl (q_pickF rfl (by conv=>lhs;whnf) ?_)
        refine em rfl (by conv=>lhs;whnf) ?_
        refine ev_skip rfl ?_
        refine ev_skip rfl ?_
        refine ev_skip rfl ?_
        refine ev_q rfl (q_pickF rfl (by conv=>lhs;whnf) ?_)
        refine em rfl (by conv=>lhs;whnf) ?_
        refine ev_skip rfl ?_
        refine ev_skip rfl ?_
        refine ev_skip rfl ?_
        refine ev_q rfl (q_pickF rfl (by conv=>lhs;whnf) ?_)
        refine em rfl (by conv=>lhs;whnf) ?_
        refine ev_skip rfl ?_
        refine ev_skip rfl ?_
        refine ev_skip rfl ?_
        refine ev_q rfl (q_pickF rfl (by conv=>lhs;whnf) ?_)
        refine ea rfl (by conv=>lhs;whnf) ?_
        refine ev_nil (hK2 _ ?_); clear hK2
        refine good_ret ?_
        repeat first|refine thenQ_ret ?_|refine blockQ_ret ?_
        refine ret_tmp (st := _) rfl (by conv=>lhs;whnf) rfl ?_
        first | rfl | exact fT (by first | omega | grind) | exact fF (by first | omega | grind) | exact fT' (by first | omega | grind) | (exfalso; first | omega | grind)
      · first | replace hb5 := dT hb5 | skip
        refine ev_q rfl (q_pickT rfl (by conv=>lhs;whnf) ?_)
        refine em rfl (by conv=>lhs;whnf) ?_
        refine ev_q rfl (q_fieldAddrP fO73_1 rfl rfl ?_)
        refine ev_q rfl (q_load tA2 rfl ?_)
        refine ev_q rfl (q_fieldAddrP fO73_2 rfl rfl ?_)
        refine ev_q rfl (q_load tA2 rfl ?_)
        refine ei rfl rfl rfl ?_
        intro b6 hb6; cases b6
        · replace hb6 := neF hb6
          refine ev_q rfl (q_pickT rfl (by conv=>lhs;whnf) ?_)
          refine em rfl (by conv=>lhs;whnf) ?_
          refine ev_skip rfl ?_
          refine ev_skip rfl ?_
          refine ev_skip rfl ?_
          refine ev_q rfl (q_pickF rfl (by conv=>lhs;whnf) ?_)
          refine em rfl (by conv=>lhs;whnf) ?_
          refine ev_skip rfl ?_
          refine ev_skip rfl ?_
          refine ev_skip rfl ?_
          refine ev_q rfl (q_pickF rfl (by conv=>lhs;whnf) ?_)
          refine em rfl (by conv=>lhs;whnf) ?_
          refine ev_skip rfl ?_
          refine ev_skip rfl ?_
          refine ev_skip rfl ?_
          refine ev_q rfl (q_pickF rfl (by conv=>lhs;whnf) ?_)
          refine ea rfl (by conv=>lhs;whnf) ?_
          refine ev_nil (hK2 _ ?_); clear hK2
          refine good_ret ?_
          repeat first|refine thenQ_ret ?_|refine blockQ_ret ?_
          refine ret_tmp (st := _) rfl (by conv=>lhs;whnf) rfl ?_
          first | rfl | exact fT (by first | omega | grind) | exact fF (by first | omega | grind) | exact fT' (by first | omega | grind) | (exfalso; first | omega | grind)
        · replace hb6 := neT hb6
          refine ev_q rfl (q_pickT rfl (by conv=>lhs;whnf) ?_)
          refine em rfl (by conv=>lhs;whnf) ?_
          refine ev_q rfl (q_fieldAddrP fO73_3 rfl rfl ?_)
          refine ev_q rfl (q_load tA2 rfl ?_)
          refine ev_q rfl (q_callB rfl rfl (rfl) (D_impl_within ..) ?_)
          intro b7 hb7; cases b7
          · first | replace hb7 := dF hb7 | skip
            refine ev_q rfl (q_pickT rfl (by conv=>lhs;whnf) ?_)
            refine em rfl (by conv=>lhs;whnf) ?_
            refine ev_skip rfl ?_
            refine ev_skip rfl ?_
            refine ev_skip rfl ?_
            refine ev_q rfl (q_pickF rfl (by conv=>lhs;whnf) ?_)
            refine em rfl (by conv=>lhs;whnf) ?_
            refine ev_skip rfl ?_
            refine ev_skip rfl ?_
            refine ev_skip rfl ?_
            refine ev_q rfl (q_pickF rfl (by conv=>lhs;whnf) ?_)
            refine ea rfl (by conv=>lhs;whnf) ?_
            refine ev_nil (hK2 _ ?_); clear hK2
            refine good_ret ?_
            repeat first|refine thenQ_ret ?_|refine blockQ_ret ?_
            refine ret_tmp (st := _) rfl (by conv=>lhs;whnf) rfl ?_
            first | rfl | exact fT (by first | omega | grind) | exact fF (by first | omega | grind) | exact fT' (by first | omega | grind) | (exfalso; first | omega | grind)
          · first | replace hb7 := dT hb7 | skip
            refine ev_q rfl (q_pickT rfl (by conv=>lhs;whnf) ?_)
            refine em rfl (by conv=>lhs;whnf) ?_
            refine ev_q rfl (q_fieldAddrP fO73_4 rfl rfl ?_)
            refine ev_q rfl (q_load tA2 rfl ?_)
            refine ev_q rfl (q_callB rfl rfl (rfl) (D_impl_within ..) ?_)
            intro b8 hb8; cases b8
            · first | replace hb8 := dF hb8 | skip
              refine ev_q rfl (q_pickT rfl (by conv=>lhs;whnf) ?_)
              refine em rfl (by conv=>lhs;whnf) ?_
              refine ev_skip rfl ?_
              refine ev_skip rfl ?_
              refine ev_skip rfl ?_
              refine ev_q rfl (q_pickF rfl (by conv=>lhs;whnf) ?_)
              refine ea rfl (by conv=>lhs;whnf) ?_
              refine ev_nil (hK2 _ ?_); clear hK2
              refine good_ret ?_
              repeat first|refine thenQ_ret ?_|refine blockQ_ret ?_
              refine ret_tmp (st := _) rfl (by conv=>lhs;whnf) rfl ?_
              first | rfl | exact fT (by first | omega | grind) | exact fF (by first | omega | grind) | exact fT' (by first | omega | grind) | (exfalso; first | omega | grind)
            · first | replace hb8 := dT hb8 | skip
              refine ev_q rfl (q_pickT rfl (by conv=>lhs;whnf) ?_)
              refine em rfl (by conv=>lhs;whnf) ?_
              refine ev_q rfl (q_fieldAddrP fO73_5 rfl rfl ?_)
              refine ev_q rfl (q_load tA2 rfl ?_)
              refine ev_q rfl (q_callB rfl rfl (rfl) (D_impl_within ..) ?_)
              intro b9 hb9; cases b9
              · first | replace hb9 := dF hb9 | skip
                refine ev_q rfl (q_pickT rfl (by conv=>lhs;whnf) ?_)
                refine ea rfl (by conv=>lhs;whnf) ?_
                refine ev_nil (hK2 _ ?_); clear hK2
                refine good_ret ?_
                repeat first|refine thenQ_ret ?_|refine blockQ_ret ?_
                refine ret_tmp (st := _) rfl (by conv=>lhs;whnf) rfl ?_
                first | rfl | exact fT (by first | omega | grind) | exact fF (by first | omega | grind) | exact fT' (by first | omega | grind) | (exfalso; first | omega | grind)
              · first | replace hb9 := dT hb9 | skip
                refine ev_q rfl (q_pickT rfl (by conv=>lhs;whnf) ?_)
                refine ea rfl (by conv=>lhs;whnf) ?_
                refine ev_nil (hK2 _ ?_); clear hK2
                refine good_ret ?_
                repeat first|refine thenQ_ret ?_|refine blockQ_ret ?_
                refine ret_tmp (st := _) rfl (by conv=>lhs;whnf) rfl ?_
                first | rfl | exact fT (by first | omega | grind) | exact fF (by first | omega | grind) | exact fT' (by first | omega | grind) | (exfalso; first | omega | grind)

-- impl.allWithin$1
theorem D_impl_allWithin_1 (a lo hi : Int)  : Den Try.prog 84 [.s (.int .i64 a), .rp [.s (.int .i64 lo)], .rp [.s (.int .i64 hi)]] (.s (.bool (decide (¬ (lo ≤ a ∧ a ≤ hi))))) := by
  refine den_of_good Try.func84 (by decide) rfl (Nat.le_of_ble_eq_true rfl) (Nat.le_of_ble_eq_true rfl) ?_
  refine good_seq fun K1 hK1 => ?_
  refine gr rfl ?_
  refine ea rfl (by conv=>lhs;whnf) ?_
  refine ev_nil (hK1 _ ?_); clear hK1
  refine good_seq fun K2 hK2 => ?_
  refine gr rfl ?_
  refine em rfl (by conv=>lhs;whnf) ?_
  refine ev_q rfl (q_load tA2 rfl ?_)
  refine ev_q rfl (q_load tA2 rfl ?_)
  refine ev_q rfl (q_callB rfl rfl (rfl) (D_impl_within ..) ?_)
  intro b3 hb3; cases b3
  · first | replace hb3 := dF hb3 | skip
    refine ev_q rfl (q_not rfl rfl ?_)
    refine ea rfl (by conv=>lhs;whnf) ?_
    refine ev_nil (hK2 _ ?_); clear hK2
    refine good_ret ?_
    repeat first|refine thenQ_ret ?_|refine blockQ_ret ?_
    refine ret_tmp (st := _) rfl (by conv=>lhs;whnf) rfl ?_
    first | rfl | exact fT (by first | omega | grind) | exact fF (by first | omega | grind) | exact fT' (by first | omega | grind) | (exfalso; first | omega | grind)
  · first | replace hb3 := dT hb3 | skip
    refine ev_q rfl (q_not rfl rfl ?_)
    refine ea rfl (by conv=>lhs;whnf) ?_
    refine ev_nil (hK2 _ ?_); clear hK2
    refine good_ret ?_
    repeat first|refine thenQ_ret ?_|refine blockQ_ret ?_
    refine ret_tmp (st := _) rfl (by conv=>lhs;whnf) rfl ?_
    first | rfl | exact fT (by first | omega | grind) | exact fF (by first | omega | grind) | exact fT' (by first | omega | grind) | (exfalso; first | omega | grind)

-- slices.IndexFunc[[]int64,int64]
theorem D_slices_IndexFunc_int64_int64 (f : Nat) (caps : List AV) (p : Int → Prop) [DecidablePred p] (xs : List Int) (hx : xs.length ≤ 17592186044416) (hf : ∀ x ∈ xs, Den Try.prog f (.s (.int .i64 x) :: caps) (.s (.bool (decide (p x))))) : Den Try.prog 121 [.lst 1 (xs.map ci), .fn f caps] (.s (.int .i64 (fiM (fun x => decide (p x)) xs))) := by
  refine den_of_good Try.func121 (by decide) rfl (Nat.le_of_ble_eq_true rfl) (Nat.le_of_ble_eq_true rfl) ?_
  refine good_seq fun K1 hK1 => ?_
  refine gr rfl ?_
  refine ea rfl (by conv=>lhs;whnf) ?_
  refine ev_nil (hK1 _ ?_); clear hK1
  refine good_seq fun K2 hK2 => ?_
  refine good_seq fun K3 hK3 => ?_
  refine gr rfl ?_
  refine em rfl (by conv=>lhs;whnf) ?_
  refine ev_q rfl (q_len tEs24 rfl ?_)
  intro n4 hn4
  try simp only [List.length_map] at hn4
  refine em rfl (by conv=>lhs;whnf) ?_
  refine ev_nil (hK3 _ ?_); clear hK3
  refine good_block ?_
  refine good_loop (α := Nat) (fun i => { env := upd (upd (upd (upd ((fun _ => .junk)) 0 (.lst 1 (xs.map ci))) 1 (.fn f caps)) 7 (.s (.int .i64 ((xs.length : Int))))) 8 (.s (.int .i64 i)), H := fun _ => none }) (fun i => i ≤ xs.length ∧ ∀ j q, j < i → xs[j]? = some q → ¬ p q) (fun i => xs.length - i) 0 ?_ ?_ ?_
  · exact ⟨by omega, fun j u hj => by omega⟩
  · refine sub_weak ?_ ?_
    · exact weakH_none _
    · refine weakE_upd ?e8 ?r8 (weakE_upd ?e7 ?r7 (weakE_upd ?e1 ?r1 (weakE_upd ?e0 ?r0 (weakE_junk _ _))))
      case e0 => first | rfl | exact fI (by omega) | (simp_all)
      case r0 => intro h hh; cases hh
      case e1 => first | rfl | exact fI (by omega) | (simp_all)
      case r1 => intro h hh; cases hh
      case e7 => first | rfl | exact fI (by omega) | (simp_all)
      case r7 => intro h hh; cases hh
      case e8 => first | rfl | exact fI (by omega) | (simp_all)
      case r8 => intro h hh; cases hh
  · rintro i ⟨hI, hJ⟩
    refine good_seq fun K5 hK5 => ?_
    refine gr rfl ?_
    refine ei rfl rfl rfl ?_
    intro b6 hb6; cases b6
    · replace hb6 := dF hb6
      refine ev_nil (hK5 _ ?_); clear hK5
      refine good_seq fun K7 hK7 => ?_
      refine good_condF rfl ?_
      refine good_exit ?_
      repeat first|refine thenQ_exit ?_|refine blockQ_pass rfl ?_
      refine blockQ_exit (hK2 _ ?_); clear hK2
      refine good_seq fun K8 hK8 => ?_
      refine gr rfl ?_
      refine ea rfl (by conv=>lhs;whnf) ?_
      refine ev_nil (hK8 _ ?_); clear hK8
      refine good_ret ?_
      repeat first|refine thenQ_ret ?_|refine blockQ_ret ?_
      refine ret_tmp (st := _) rfl (by conv=>lhs;whnf) rfl ?_
      clear hK7
      first | exact fI (by have e := fi_some (i := i) hq hJ (by assumption); simp only [fiM, e]) | exact fI (by have e := fi_none (all_finI (Q := fun _ q => ¬ p q) hJ (by omega)); simp only [fiM, e])
    · replace hb6 := dT hb6
      obtain ⟨q, hq⟩ := getL (xs := xs) (n := (i : Int)) (by omega) (by omega)
      replace hq : xs[i]? = some q := hq
      refine ev_nil (hK5 _ ?_); clear hK5
      refine good_seq fun K9 hK9 => ?_
      refine good_condT rfl ?_
      refine good_skip (hK9 _ ?_); clear hK9
      refine good_seq fun K10 hK10 => ?_
      refine good_block ?_
      refine good_seq fun K11 hK11 => ?_
      refine gr rfl ?_
      refine em rfl (by conv=>lhs;whnf) ?_
      refine ea rfl (by conv=>lhs;whnf) ?_
      refine ev_nil (hK11 _ ?_); clear hK11
      refine good_seq fun K12 hK12 => ?_
      refine gr rfl ?_
      refine em rfl (by conv=>lhs;whnf) ?_
      refine em rfl (by conv=>lhs;whnf) ?_
      refine em rfl (by conv=>lhs;whnf) ?_
      refine ev_q rfl (q_idx tE24 rfl rfl (by exact Int.natCast_nonneg _) (by exact map_get hq) rfl ?_)
      refine ev_q rfl (q_load tA2 rfl ?_)
      refine ev_q rfl (q_callB rfl rfl (rfl) (hf _ (List.mem_of_getElem? hq)) ?_)
      intro b13 hb13; cases b13
      · first | replace hb13 := dF hb13 | skip
        refine ev_nil (hK12 _ ?_); clear hK12
        refine good_condF rfl ?_
        refine good_skip (hK10 _ ?_); clear hK10
        refine gr rfl ?_
        refine ei rfl rfl rfl ?_
        intro n14 hn14
        replace hn14 := in64 hn14 (by omega) (by omega)
        refine em rfl (by conv=>lhs;whnf) ?_
        refine ev_nil ?_
        clear hK2
        refine ⟨i + 1, ?_, ?_, ?_⟩
        · exact ⟨by omega, all_extI (Q := fun _ q => ¬ p q) hJ hq (by assumption)⟩
        · first | omega | (simp only []; omega) | (dsimp only; omega)
        · refine sub_weak ?_ ?_
          · exact weakH_none _
          · refine weakE_upd ?e8 ?r8 (weakE_upd ?e7 ?r7 (weakE_upd ?e1 ?r1 (weakE_upd ?e0 ?r0 (weakE_junk _ _))))
            case e0 => first | rfl | exact fI (by omega) | (simp_all)
            case r0 => intro h hh; cases hh
            case e1 => first | rfl | exact fI (by omega) | (simp_all)
            case r1 => intro h hh; cases hh
            case e7 => first | rfl | exact fI (by omega) | (simp_all)
            case r7 => intro h hh; cases hh
            case e8 => first | rfl | exact fI (by omega) | (simp_all)
            case r8 => intro h hh; cases hh
      · first | replace hb13 := dT hb13 | skip
        refine ev_nil (hK12 _ ?_); clear hK12
        refine good_condT rfl ?_
        refine good_seq fun K15 hK15 => ?_
        refine gr rfl ?_
        refine em rfl (by conv=>lhs;whnf) ?_
        refine ea rfl (by conv=>lhs;whnf) ?_
        refine ev_nil (hK15 _ ?_); clear hK15
        refine good_ret ?_
        repeat first|refine thenQ_ret ?_|refine blockQ_ret ?_
        refine ret_tmp (st := _) rfl (by conv=>lhs;whnf) rfl ?_
        clear hK2 hK10
        first | exact fI (by have e := fi_some (i := i) hq hJ (by assumption); simp only [fiM, e]) | exact fI (by have e := fi_none (all_finI (Q := fun _ q => ¬ p q) hJ (by omega)); simp only [fiM, e])

-- slices.ContainsFunc[[]int64,int64]
theorem D_slices_ContainsFunc_int64_int64 (f : Nat) (caps : List AV) (p : Int → Prop) [DecidablePred p] (xs : List Int) [Decidable (∃ x ∈ xs, p x)] (hx : xs.length ≤ 17592186044416) (hf : ∀ x ∈ xs, Den Try.prog f (.s (.int .i64 x) :: caps) (.s (.bool (decide (p x))))) : Den Try.prog 83 [.lst 1 (xs.map ci), .fn f caps] (.s (.bool (decide (∃ x ∈ xs, p x)))) := by
  refine den_of_good Try.func83 (by decide) rfl (Nat.le_of_ble_eq_true rfl) (Nat.le_of_ble_eq_true rfl) ?_
  refine good_seq fun K1 hK1 => ?_
  refine gr rfl ?_
  refine ea rfl (by conv=>lhs;whnf) ?_
  refine ev_nil (hK1 _ ?_); clear hK1
  refine good_seq fun K2 hK2 => ?_
  refine gr rfl ?_
  refine em rfl (by conv=>lhs;whnf) ?_
  refine em rfl (by conv=>lhs;whnf) ?_
  refine ev_q rfl (q_callI rfl rfl (rfl) (D_slices_IndexFunc_int64_int64 f caps p xs hx hf) ?_)
  intro n3 hn3
  refine ei rfl rfl rfl ?_
  intro b4 hb4; cases b4
  · replace hb4 := dF hb4
    refine ea rfl (by conv=>lhs;whnf) ?_
    refine ev_nil (hK2 _ ?_); clear hK2
    refine good_ret ?_
    repeat first|refine thenQ_ret ?_|refine blockQ_ret ?_
    refine ret_tmp (st := _) rfl (by conv=>lhs;whnf) rfl ?_
    first | exact fT (fi_any.1 (by omega)) | exact fF (fun h => absurd (fi_any.2 h) (by omega))
  · replace hb4 := dT hb4
    refine ea rfl (by conv=>lhs;whnf) ?_
    refine ev_nil (hK2 _ ?_); clear hK2
    refine good_ret ?_
    repeat first|refine thenQ_ret ?_|refine blockQ_ret ?_
    refine ret_tmp (st := _) rfl (by conv=>lhs;whnf) rfl ?_
    first | exact fT (fi_any.1 (by omega)) | exact fF (fun h => absurd (fi_any.2 h) (by omega))

-- impl.allWithin
theorem D_impl_allWithin (xs : List Int) (lo hi : Int) (hx : xs.length ≤ 17592186044416) : Den Try.prog 38 [.lst 1 (xs.map ci), .s (.int .i64 lo), .s (.int .i64 hi)] (.s (.bool (decide (within xs lo hi)))) := by
  classical
  refine den_of_good Try.func38 (by decide) rfl (Nat.le_of_ble_eq_true rfl) (Nat.le_of_ble_eq_true rfl) ?_
  refine good_seq fun K1 hK1 => ?_
  refine gr rfl ?_
  refine ev_k rfl (k_box (by conv=>lhs;whnf) rfl rfl rfl ?_)
  refine ev_k rfl (k_box (by conv=>lhs;whnf) rfl rfl rfl ?_)
  refine ea rfl (by conv=>lhs;whnf) ?_
  refine ev_nil (hK1 _ ?_); clear hK1
  refine good_seq fun K2 hK2 => ?_
  refine gr rfl ?_
  refine em rfl (by conv=>lhs;whnf) ?_
  refine ev_q rfl (q_clo rfl rfl ?_)
  refine ev_q rfl (q_callB rfl rfl (rfl) (D_slices_ContainsFunc_int64_int64 _ _ (fun x => ¬ (lo ≤ x ∧ x ≤ hi)) xs hx (fun x _ => D_impl_allWithin_1 x lo hi)) ?_)
  intro b3 hb3; cases b3
  · first | replace hb3 := dF hb3 | skip
    refine ev_q rfl (q_not rfl rfl ?_)
    refine ea rfl (by conv=>lhs;whnf) ?_
    refine ev_nil (hK2 _ ?_); clear hK2
    refine good_ret ?_
    repeat first|refine thenQ_ret ?_|refine blockQ_ret ?_
    refine ret_tmp (st := _) rfl (by conv=>lhs;whnf) rfl ?_
    first | exact fT (within_any.2 (by assumption)) | exact fF (fun h => absurd (within_any.1 h) (by simpa using ‹∃ x ∈ xs, ¬ (lo ≤ x ∧ x ≤ hi)›))
  · first | replace hb3 := dT hb3 | skip
    refine ev_q rfl (q_not rfl rfl ?_)
    refine ea rfl (by conv=>lhs;whnf) ?_
    refine ev_nil (hK2 _ ?_); clear hK2
    refine good_ret ?_
    repeat first|refine thenQ_ret ?_|refine blockQ_ret ?_
    refine ret_tmp (st := _) rfl (by conv=>lhs;whnf) rfl ?_
    first | exact fT (within_any.2 (by assumption)) | exact fF (fun h => absurd (within_any.1 h) (by simpa using ‹∃ x ∈ xs, ¬ (lo ≤ x ∧ x ≤ hi)›))

-- (impl.Network).hasNode
theorem D_impl_Network_hasNode (ns : List Int) (ps : List Pi) (k : Int) (hn : ns.length ≤ 17592186044416) : Den Try.prog 40 [.agg [.lst 1 (ns.map ci), .lst 6 (ps.map piA)], .s (.int .i64 k)] (.s (.bool (decide (0 ≤ k ∧ k < ns.length)))) := by
  refine den_of_good Try.func40 (by decide) rfl (Nat.le_of_ble_eq_true rfl) (Nat.le_of_ble_eq_true rfl) ?_
  refine good_seq fun K1 hK1 => ?_
  refine gr rfl ?_
  refine ev_k rfl (k_box (by conv=>lhs;whnf) rfl rfl rfl ?_)
  refine ea rfl (by conv=>lhs;whnf) ?_
  refine ev_nil (hK1 _ ?_); clear hK1
  refine good_seq fun K2 hK2 => ?_
  refine gr rfl ?_
  refine em rfl (by conv=>lhs;whnf) ?_
  refine ev_q rfl (q_fieldAddrP fO27_0 rfl rfl ?_)
  refine ev_q rfl (q_load tA24 rfl ?_)
  refine ev_q rfl (q_len tEs24 rfl ?_)
  intro n3 hn3
  try simp only [List.length_map] at hn3
  refine ei rfl rfl rfl ?_
  intro n4 hn4
  replace hn4 := in64 hn4 (by omega) (by omega)
  refine ev_q rfl (q_callB rfl rfl (rfl) (D_impl_within ..) ?_)
  intro b5 hb5; cases b5
  · first | replace hb5 := dF hb5 | skip
    refine ea rfl (by conv=>lhs;whnf) ?_
    refine ev_nil (hK2 _ ?_); clear hK2
    refine good_ret ?_
    repeat first|refine thenQ_ret ?_|refine blockQ_ret ?_
    refine ret_tmp (st := _) rfl (by conv=>lhs;whnf) rfl ?_
    first | exact fT (by omega) | exact fF (by omega)
  · first | replace hb5 := dT hb5 | skip
    refine ea rfl (by conv=>lhs;whnf) ?_
    refine ev_nil (hK2 _ ?_); clear hK2
    refine good_ret ?_
    repeat first|refine thenQ_ret ?_|refine blockQ_ret ?_
    refine ret_tmp (st := _) rfl (by conv=>lhs;whnf) rfl ?_
    first | exact fT (by omega) | exact fF (by omega)

-- (impl.Network).hasEnds
theorem D_impl_Network_hasEnds (ns : List Int) (ps : List Pi) (s : ByteArray) (fm tt le di lo : Int) (hn : ns.length ≤ 17592186044416) : Den Try.prog 87 [.agg [.lst 1 (ns.map ci), .lst 6 (ps.map piA)], .agg [.s (.string s), .s (.int .i64 fm), .s (.int .i64 tt), .s (.int .i64 le), .s (.int .i64 di), .s (.int .i64 lo)]] (.s (.bool (decide ((0 ≤ fm ∧ fm < ns.length) ∧ (0 ≤ tt ∧ tt < ns.length))))) := by
  refine den_of_good Try.func87 (by decide) rfl (Nat.le_of_ble_eq_true rfl) (Nat.le_of_ble_eq_true rfl) ?_
  refine good_seq fun K1 hK1 => ?_
  refine gr rfl ?_
  refine ev_k rfl (k_box (by conv=>lhs;whnf) rfl rfl rfl ?_)
  refine ev_k rfl (k_box (by conv=>lhs;whnf) rfl rfl rfl ?_)
  refine ea rfl (by conv=>lhs;whnf) ?_
  refine ev_nil (hK1 _ ?_); clear hK1
  refine good_seq fun K2 hK2 => ?_
  refine gr rfl ?_
  refine ev_q rfl (q_loadA tA27 rfl rfl rfl ?_)
  refine ev_q rfl (q_fieldAddrP fO73_1 rfl rfl ?_)
  refine ev_q rfl (q_load tA2 rfl ?_)
  refine ev_q rfl (q_callB rfl rfl (rfl) (D_impl_Network_hasNode _ _ _ hn) ?_)
  intro b3 hb3; cases b3
  · first | replace hb3 := dF hb3 | skip
    refine em rfl (by conv=>lhs;whnf) ?_
    refine ev_skip rfl ?_
    refine ev_skip rfl ?_
    refine ev_skip rfl ?_
    refine ev_skip rfl ?_
    refine ev_q rfl (q_pickF rfl (by conv=>lhs;whnf) ?_)
    refine ea rfl (by conv=>lhs;whnf) ?_
    refine ev_nil (hK2 _ ?_); clear hK2
    refine good_ret ?_
    repeat first|refine thenQ_ret ?_|refine blockQ_ret ?_
    refine ret_tmp (st := _) rfl (by conv=>lhs;whnf) rfl ?_
    first | rfl | exact fT (by first | omega | grind) | exact fF (by first | omega | grind) | exact fT' (by first | omega | grind) | (exfalso; first | omega | grind)
  · first | replace hb3 := dT hb3 | skip
    refine em rfl (by conv=>lhs;whnf) ?_
    refine ev_q rfl (q_loadA tA27 rfl rfl rfl ?_)
    refine ev_q rfl (q_fieldAddrP fO73_2 rfl rfl ?_)
    refine ev_q rfl (q_load tA2 rfl ?_)
    refine ev_q rfl (q_callB rfl rfl (rfl) (D_impl_Network_hasNode _ _ _ hn) ?_)
    intro b4 hb4; cases b4
    · first | replace hb4 := dF hb4 | skip
      refine ev_q rfl (q_pickT rfl (by conv=>lhs;whnf) ?_)
      refine ea rfl (by conv=>lhs;whnf) ?_
      refine ev_nil (hK2 _ ?_); clear hK2
      refine good_ret ?_
      repeat first|refine thenQ_ret ?_|refine blockQ_ret ?_
      refine ret_tmp (st := _) rfl (by conv=>lhs;whnf) rfl ?_
      first | rfl | exact fT (by first | omega | grind) | exact fF (by first | omega | grind) | exact fT' (by first | omega | grind) | (exfalso; first | omega | grind)
    · first | replace hb4 := dT hb4 | skip
      refine ev_q rfl (q_pickT rfl (by conv=>lhs;whnf) ?_)
      refine ea rfl (by conv=>lhs;whnf) ?_
      refine ev_nil (hK2 _ ?_); clear hK2
      refine good_ret ?_
      repeat first|refine thenQ_ret ?_|refine blockQ_ret ?_
      refine ret_tmp (st := _) rfl (by conv=>lhs;whnf) rfl ?_
      first | rfl | exact fT (by first | omega | grind) | exact fF (by first | omega | grind) | exact fT' (by first | omega | grind) | (exfalso; first | omega | grind)

-- impl.ValidNetwork
theorem D_impl_ValidNetwork (ns : List Int) (ps : List Pi) (hn : ns.length ≤ 17592186044416) (hp : ps.length ≤ 2513169434843) (hz : idSz ps) : Den Try.prog 39 [.agg [.lst 1 (ns.map ci), .lst 6 (ps.map piA)]] (.s (.bool (decide (netOk ns ps)))) := by
  refine den_of_good Try.func39 (by decide) rfl (Nat.le_of_ble_eq_true rfl) (Nat.le_of_ble_eq_true rfl) ?_
  refine good_seq fun K1 hK1 => ?_
  refine gr rfl ?_
  refine ev_k rfl (k_box (by conv=>lhs;whnf) rfl rfl rfl ?_)
  refine ea rfl (by conv=>lhs;whnf) ?_
  refine ev_nil (hK1 _ ?_); clear hK1
  refine good_seq fun K2 hK2 => ?_
  refine good_seq fun K3 hK3 => ?_
  refine gr rfl ?_
  refine ev_q rfl (q_fieldAddrP fO27_0 rfl rfl ?_)
  refine ev_q rfl (q_load tA24 rfl ?_)
  refine ev_q rfl (q_len tEs24 rfl ?_)
  intro n4 hn4
  try simp only [List.length_map] at hn4
  refine ei rfl rfl rfl ?_
  intro b5 hb5; cases b5
  · replace hb5 := dF hb5
    refine em rfl (by conv=>lhs;whnf) ?_
    refine ev_q rfl (q_fieldAddrP fO27_0 rfl rfl ?_)
    refine ev_q rfl (q_load tA24 rfl ?_)
    refine ev_q rfl (q_len tEs24 rfl ?_)
    intro n6 hn6
    try simp only [List.length_map] at hn6
    refine ei rfl rfl rfl ?_
    intro b7 hb7; cases b7
    · replace hb7 := dF hb7
      refine ev_q rfl (q_pickF rfl (by conv=>lhs;whnf) ?_)
      refine em rfl (by conv=>lhs;whnf) ?_
      refine ev_q rfl (q_fieldAddrP fO27_0 rfl rfl ?_)
      refine ev_q rfl (q_load tA24 rfl ?_)
      refine ev_q rfl (q_callB rfl rfl (rfl) (D_impl_allWithin ns _ _ hn) ?_)
      intro b8 hb8; cases b8
      · first | replace hb8 := dF hb8 | skip
        refine ev_q rfl (q_not rfl rfl ?_)
        refine ev_q rfl (q_pickF rfl (by conv=>lhs;whnf) ?_)
        refine em rfl (by conv=>lhs;whnf) ?_
        refine ev_skip rfl ?_
        refine ev_skip rfl ?_
        refine ev_skip rfl ?_
        refine ev_skip rfl ?_
        refine ev_q rfl (q_pickT rfl (by conv=>lhs;whnf) ?_)
        refine ev_nil (hK3 _ ?_); clear hK3
        refine good_condT rfl ?_
        refine good_seq fun K9 hK9 => ?_
        refine gr rfl ?_
        refine ea rfl (by conv=>lhs;whnf) ?_
        refine ev_nil (hK9 _ ?_); clear hK9
        refine good_ret ?_
        repeat first|refine thenQ_ret ?_|refine blockQ_ret ?_
        refine ret_tmp (st := _) rfl (by conv=>lhs;whnf) rfl ?_
        clear hK2
        first | exact fT ⟨⟨⟨by omega, by omega⟩, by assumption, by omega⟩, all_finS (Q := fun j p => piAt ns ps j p) hJ (by omega)⟩ | exact fF (fun h => by have h1 := h.1; first | omega | exact absurd h1.2.1 (by assumption)) | exact fF (net_no hpp (fun ⟨⟨h1, h3, h4⟩, h2⟩ => by first | contradiction | (exfalso; omega) | exact hE (h2 q (by omega) (by rw [← hq]; congr 1; omega)) | (have := h1.2.1; have := h1.2.2.1; omega)))
      · first | replace hb8 := dT hb8 | skip
        refine ev_q rfl (q_not rfl rfl ?_)
        refine ev_q rfl (q_pickF rfl (by conv=>lhs;whnf) ?_)
        refine em rfl (by conv=>lhs;whnf) ?_
        refine ev_q rfl (q_fieldAddrP fO27_1 rfl rfl ?_)
        refine ev_q rfl (q_load tA25 rfl ?_)
        refine ev_q rfl (q_len tEs25 rfl ?_)
        intro n10 hn10
        try simp only [List.length_map] at hn10
        refine ei rfl rfl rfl ?_
        intro b11 hb11; cases b11
        · replace hb11 := dF hb11
          refine ev_q rfl (q_pickF rfl (by conv=>lhs;whnf) ?_)
          refine ev_nil (hK3 _ ?_); clear hK3
          refine good_condF rfl ?_
          refine good_skip (hK2 _ ?_); clear hK2
          refine good_seq fun K12 hK12 => ?_
          refine good_seq fun K13 hK13 => ?_
          refine gr rfl ?_
          refine ev_q rfl (q_fieldAddrP fO27_1 rfl rfl ?_)
          refine ev_q rfl (q_load tA25 rfl ?_)
          refine ev_q rfl (q_len tEs25 rfl ?_)
          intro n14 hn14
          try simp only [List.length_map] at hn14
          refine em rfl (by conv=>lhs;whnf) ?_
          refine ev_nil (hK13 _ ?_); clear hK13
          refine good_block ?_
          refine good_loop (α := Nat) (fun i => { env := upd (upd (upd (upd ((fun _ => .junk)) 1 (.ptr 1 0)) 28 (.lst 6 (ps.map piA))) 29 (.s (.int .i64 ((ps.length : Int))))) 30 (.s (.int .i64 i)), H := upd ((fun _ => none)) 1 (some (.box 27 [.lst 1 (ns.map ci), .lst 6 (ps.map piA)])) }) (fun i => i ≤ ps.length ∧ ∀ j p, j < i → ps[j]? = some p → piAt ns ps j p) (fun i => ps.length - i) 0 ?_ ?_ ?_
          · exact ⟨by omega, fun j u hj => by omega⟩
          · refine sub_weak ?_ ?_
            · exact weakH_box (boxEq (rfl)) rfl (weakH_none _)
            · refine weakE_upd ?e30 ?r30 (weakE_upd ?e29 ?r29 (weakE_upd ?e28 ?r28 (weakE_upd ?e1 ?r1 (weakE_junk _ _))))
              case e1 => first | rfl | exact fI (by omega) | (simp_all)
              case r1 => intro h hh; simp [refs] at hh; subst hh; rfl
              case e28 => first | rfl | exact fI (by omega) | (simp_all)
              case r28 => intro h hh; cases hh
              case e29 => first | rfl | exact fI (by omega) | (simp_all)
              case r29 => intro h hh; cases hh
              case e30 => first | rfl | exact fI (by omega) | (simp_all)
              case r30 => intro h hh; cases hh
          · rintro i ⟨hI, hJ⟩
            refine good_seq fun K15 hK15 => ?_
            refine gr rfl ?_
            refine ei rfl rfl rfl ?_
            intro b16 hb16; cases b16
            · replace hb16 := dF hb16
              refine ev_nil (hK15 _ ?_); clear hK15
              refine good_seq fun K17 hK17 => ?_
              refine good_condF rfl ?_
              refine good_exit ?_
              repeat first|refine thenQ_exit ?_|refine blockQ_pass rfl ?_
              refine blockQ_exit (hK12 _ ?_); clear hK12
              refine good_seq fun K18 hK18 => ?_
              refine gr rfl ?_
              refine ea rfl (by conv=>lhs;whnf) ?_
              refine ev_nil (hK18 _ ?_); clear hK18
              refine good_ret ?_
              repeat first|refine thenQ_ret ?_|refine blockQ_ret ?_
              refine ret_tmp (st := _) rfl (by conv=>lhs;whnf) rfl ?_
              clear hK17
              first | exact fT ⟨⟨⟨by omega, by omega⟩, by assumption, by omega⟩, all_finS (Q := fun j p => piAt ns ps j p) hJ (by omega)⟩ | exact fF (fun h => by have h1 := h.1; first | omega | exact absurd h1.2.1 (by assumption)) | exact fF (net_no hpp (fun ⟨⟨h1, h3, h4⟩, h2⟩ => by first | contradiction | (exfalso; omega) | exact hE (h2 q (by omega) (by rw [← hq]; congr 1; omega)) | (have := h1.2.1; have := h1.2.2.1; omega)))
            · replace hb16 := dT hb16
              obtain ⟨p, hpp⟩ := getL (xs := ps) (n := (i : Int)) (by omega) (by omega)
              replace hpp : ps[i]? = some p := hpp
              have hzp := hz i p hpp
              refine ev_nil (hK15 _ ?_); clear hK15
              refine good_seq fun K19 hK19 => ?_
              refine good_condT rfl ?_
              refine good_skip (hK19 _ ?_); clear hK19
              refine good_seq fun K20 hK20 => ?_
              refine good_block ?_
              refine good_seq fun K21 hK21 => ?_
              refine gr rfl ?_
              refine em rfl (by conv=>lhs;whnf) ?_
              refine ev_q rfl (q_idx tE25 rfl rfl (by exact Int.natCast_nonneg _) (by exact map_get hpp) rfl ?_)
              refine ev_q rfl (q_loadA tA73 rfl rfl rfl ?_)
              refine ev_k rfl (k_alloc zA73 rfl ?_)
              refine ea rfl (by conv=>lhs;whnf) ?_
              refine ev_k rfl (k_store sz73 rfl (by conv=>lhs;whnf) rfl rfl rfl (Nat.le_of_ble_eq_true rfl) rfl ?_)
              refine ev_nil (hK21 _ ?_); clear hK21
              refine good_seq fun K22 hK22 => ?_
              refine good_draw 25 hmix (by kernel_rfl) rfl ?_
              refine qo_q rfl (q_loadA tA73 rfl rfl rfl ?_)
              refine qo_q rfl (q_callB rfl rfl (rfl) (D_impl_ValidPipe _ _ _ _ _ _ (by assumption)) ?_)
              intro b23 hb23; cases b23
              · first | replace hb23 := dF hb23 | skip
                refine qo_q rfl (q_not rfl rfl ?_)
                refine qm rfl (by conv=>lhs;whnf) ?_
                refine qo_skip rfl ?_
                refine qo_skip rfl ?_
                refine qo_skip rfl ?_
                refine qo_skip rfl ?_
                refine qo_q rfl (q_pickT rfl (by conv=>lhs;whnf) ?_)
                refine qm rfl (by conv=>lhs;whnf) ?_
                refine qo_skip rfl ?_
                refine qo_skip rfl ?_
                refine qo_skip rfl ?_
                refine qo_skip rfl ?_
                refine qo_skip rfl ?_
                refine qo_skip rfl ?_
                refine qo_skip rfl ?_
                refine qo_skip rfl ?_
                refine qo_skip rfl ?_
                refine qo_skip rfl ?_
                refine qo_skip rfl ?_
                refine qo_skip rfl ?_
                refine qo_skip rfl ?_
                refine qo_skip rfl ?_
                refine qo_q rfl (q_pickT rfl (by conv=>lhs;whnf) ?_)
                refine qo_nil ?_
                refine ev_nil (hK22 _ ?_); clear hK22
                refine good_condT rfl ?_
                refine good_seq fun K24 hK24 => ?_
                refine gr rfl ?_
                refine ea rfl (by conv=>lhs;whnf) ?_
                refine ev_nil (hK24 _ ?_); clear hK24
                refine good_ret ?_
                repeat first|refine thenQ_ret ?_|refine blockQ_ret ?_
                refine ret_tmp (st := _) rfl (by conv=>lhs;whnf) rfl ?_
                clear hK12 hK20
                first | exact fT ⟨⟨⟨by omega, by omega⟩, by assumption, by omega⟩, all_finS (Q := fun j p => piAt ns ps j p) hJ (by omega)⟩ | exact fF (fun h => by have h1 := h.1; first | omega | exact absurd h1.2.1 (by assumption)) | exact fF (net_no hpp (fun ⟨⟨h1, h3, h4⟩, h2⟩ => by first | contradiction | (exfalso; omega) | exact hE (h2 q (by omega) (by rw [← hq]; congr 1; omega)) | (have := h1.2.1; have := h1.2.2.1; omega)))
              · first | replace hb23 := dT hb23 | skip
                refine qo_q rfl (q_not rfl rfl ?_)
                refine qm rfl (by conv=>lhs;whnf) ?_
                refine qo_q rfl (q_loadA tA27 rfl rfl rfl ?_)
                refine qo_q rfl (q_loadA tA73 rfl rfl rfl ?_)
                refine qo_q rfl (q_callB rfl rfl (rfl) (D_impl_Network_hasEnds ns ps _ _ _ _ _ _ hn) ?_)
                intro b25 hb25; cases b25
                · first | replace hb25 := dF hb25 | skip
                  refine qo_q rfl (q_not rfl rfl ?_)
                  refine qo_q rfl (q_pickF rfl (by conv=>lhs;whnf) ?_)
                  refine qm rfl (by conv=>lhs;whnf) ?_
                  refine qo_skip rfl ?_
                  refine qo_skip rfl ?_
                  refine qo_skip rfl ?_
                  refine qo_skip rfl ?_
                  refine qo_skip rfl ?_
                  refine qo_skip rfl ?_
                  refine qo_skip rfl ?_
                  refine qo_skip rfl ?_
                  refine qo_skip rfl ?_
                  refine qo_skip rfl ?_
                  refine qo_skip rfl ?_
                  refine qo_skip rfl ?_
                  refine qo_skip rfl ?_
                  refine qo_skip rfl ?_
                  refine qo_q rfl (q_pickT rfl (by conv=>lhs;whnf) ?_)
                  refine qo_nil ?_
                  refine ev_nil (hK22 _ ?_); clear hK22
                  refine good_condT rfl ?_
                  refine good_seq fun K26 hK26 => ?_
                  refine gr rfl ?_
                  refine ea rfl (by conv=>lhs;whnf) ?_
                  refine ev_nil (hK26 _ ?_); clear hK26
                  refine good_ret ?_
                  repeat first|refine thenQ_ret ?_|refine blockQ_ret ?_
                  refine ret_tmp (st := _) rfl (by conv=>lhs;whnf) rfl ?_
                  clear hK12 hK20
                  first | exact fT ⟨⟨⟨by omega, by omega⟩, by assumption, by omega⟩, all_finS (Q := fun j p => piAt ns ps j p) hJ (by omega)⟩ | exact fF (fun h => by have h1 := h.1; first | omega | exact absurd h1.2.1 (by assumption)) | exact fF (net_no hpp (fun ⟨⟨h1, h3, h4⟩, h2⟩ => by first | contradiction | (exfalso; omega) | exact hE (h2 q (by omega) (by rw [← hq]; congr 1; omega)) | (have := h1.2.1; have := h1.2.2.1; omega)))
                · first | replace hb25 := dT hb25 | skip
                  refine qo_q rfl (q_not rfl rfl ?_)
                  refine qo_q rfl (q_pickF rfl (by conv=>lhs;whnf) ?_)
                  refine qm rfl (by conv=>lhs;whnf) ?_
                  refine qm rfl (by conv=>lhs;whnf) ?_
                  refine qo_q rfl (q_int rfl rfl ?_)
                  intro b27 hb27; cases b27
                  · replace hb27 := dF hb27
                    refine qm rfl (by conv=>lhs;whnf) ?_
                    refine qo_skip rfl ?_
                    refine qo_skip rfl ?_
                    refine qo_skip rfl ?_
                    refine qo_skip rfl ?_
                    refine qo_skip rfl ?_
                    refine qo_skip rfl ?_
                    refine qo_skip rfl ?_
                    refine qo_skip rfl ?_
                    refine qo_skip rfl ?_
                    refine qo_skip rfl ?_
                    refine qo_q rfl (q_pickF rfl (by conv=>lhs;whnf) ?_)
                    refine qo_q rfl (q_pickF rfl (by conv=>lhs;whnf) ?_)
                    refine qo_nil ?_
                    refine ev_nil (hK22 _ ?_); clear hK22
                    refine good_condF rfl ?_
                    refine good_skip (hK20 _ ?_); clear hK20
                    refine gr rfl ?_
                    refine ei rfl rfl rfl ?_
                    intro n28 hn28
                    replace hn28 := in64 hn28 (by omega) (by omega)
                    refine em rfl (by conv=>lhs;whnf) ?_
                    refine ev_nil ?_
                    clear hK12
                    refine ⟨i + 1, ?_, ?_, ?_⟩
                    · refine ⟨by omega, all_extS (Q := fun j p => piAt ns ps j p) hJ hpp ?_⟩
                      first | exact ⟨⟨by assumption, by omega, by omega⟩, fun y h0 hy => by first | omega | (have e : some y = some q := hy.symm.trans (by rw [← hq]; congr 1; omega); cases e; exact hE)⟩
                    · first | omega | (simp only []; omega) | (dsimp only; omega)
                    · refine sub_weak ?_ ?_
                      · exact weakH_box (boxEq (rfl)) rfl (weakH_none _)
                      · refine weakE_upd ?e30 ?r30 (weakE_upd ?e29 ?r29 (weakE_upd ?e28 ?r28 (weakE_upd ?e1 ?r1 (weakE_junk _ _))))
                        case e1 => first | rfl | exact fI (by omega) | (simp_all)
                        case r1 => intro h hh; simp [refs] at hh; subst hh; rfl
                        case e28 => first | rfl | exact fI (by omega) | (simp_all)
                        case r28 => intro h hh; cases hh
                        case e29 => first | rfl | exact fI (by omega) | (simp_all)
                        case r29 => intro h hh; cases hh
                        case e30 => first | rfl | exact fI (by omega) | (simp_all)
                        case r30 => intro h hh; cases hh
                  · replace hb27 := dT hb27
                    refine qm rfl (by conv=>lhs;whnf) ?_
                    refine qo_q rfl (q_fieldAddrP fO73_0 rfl rfl ?_)
                    refine qo_q rfl (q_load tA9 rfl ?_)
                    refine qo_q rfl (q_fieldAddrP fO27_1 rfl rfl ?_)
                    refine qo_q rfl (q_load tA25 rfl ?_)
                    refine qm rfl (by conv=>lhs;whnf) ?_
                    refine qo_q rfl (q_int rfl rfl ?_)
                    intro n29 hn29
                    replace hn29 := in64 hn29 (by omega) (by omega)
                    obtain ⟨q, hq⟩ := getL (xs := ps) (n := n29) (by omega) (by omega)
                    refine qo_q rfl (q_idx tE25 rfl rfl (by omega) (by exact map_get hq) rfl ?_)
                    refine qo_q rfl (q_fieldAddr fO73_0 rfl rfl ?_)
                    refine qo_q rfl (q_load tA9 rfl ?_)
                    refine qo_q rfl (q_str rfl rfl ?_)
                    intro b30 hb30; cases b30
                    · have hE := lt_le hb30
                      refine qo_q rfl (q_pickT rfl (by conv=>lhs;whnf) ?_)
                      refine qo_q rfl (q_pickF rfl (by conv=>lhs;whnf) ?_)
                      refine qo_nil ?_
                      refine ev_nil (hK22 _ ?_); clear hK22
                      refine good_condF rfl ?_
                      refine good_skip (hK20 _ ?_); clear hK20
                      refine gr rfl ?_
                      refine ei rfl rfl rfl ?_
                      intro n31 hn31
                      replace hn31 := in64 hn31 (by omega) (by omega)
                      refine em rfl (by conv=>lhs;whnf) ?_
                      refine ev_nil ?_
                      clear hK12
                      refine ⟨i + 1, ?_, ?_, ?_⟩
                      · refine ⟨by omega, all_extS (Q := fun j p => piAt ns ps j p) hJ hpp ?_⟩
                        first | exact ⟨⟨by assumption, by omega, by omega⟩, fun y h0 hy => by first | omega | (have e : some y = some q := hy.symm.trans (by rw [← hq]; congr 1; omega); cases e; exact hE)⟩
                      · first | omega | (simp only []; omega) | (dsimp only; omega)
                      · refine sub_weak ?_ ?_
                        · exact weakH_box (boxEq (rfl)) rfl (weakH_none _)
                        · refine weakE_upd ?e30 ?r30 (weakE_upd ?e29 ?r29 (weakE_upd ?e28 ?r28 (weakE_upd ?e1 ?r1 (weakE_junk _ _))))
                          case e1 => first | rfl | exact fI (by omega) | (simp_all)
                          case r1 => intro h hh; simp [refs] at hh; subst hh; rfl
                          case e28 => first | rfl | exact fI (by omega) | (simp_all)
                          case r28 => intro h hh; cases hh
                          case e29 => first | rfl | exact fI (by omega) | (simp_all)
                          case r29 => intro h hh; cases hh
                          case e30 => first | rfl | exact fI (by omega) | (simp_all)
                          case r30 => intro h hh; cases hh
                    · have hE := nlt_le hb30
                      refine qo_q rfl (q_pickT rfl (by conv=>lhs;whnf) ?_)
                      refine qo_q rfl (q_pickF rfl (by conv=>lhs;whnf) ?_)
                      refine qo_nil ?_
                      refine ev_nil (hK22 _ ?_); clear hK22
                      refine good_condT rfl ?_
                      refine good_seq fun K32 hK32 => ?_
                      refine gr rfl ?_
                      refine ea rfl (by conv=>lhs;whnf) ?_
                      refine ev_nil (hK32 _ ?_); clear hK32
                      refine good_ret ?_
                      repeat first|refine thenQ_ret ?_|refine blockQ_ret ?_
                      refine ret_tmp (st := _) rfl (by conv=>lhs;whnf) rfl ?_
                      clear hK12 hK20
                      first | exact fT ⟨⟨⟨by omega, by omega⟩, by assumption, by omega⟩, all_finS (Q := fun j p => piAt ns ps j p) hJ (by omega)⟩ | exact fF (fun h => by have h1 := h.1; first | omega | exact absurd h1.2.1 (by assumption)) | exact fF (net_no hpp (fun ⟨⟨h1, h3, h4⟩, h2⟩ => by first | contradiction | (exfalso; omega) | exact hE (h2 q (by omega) (by rw [← hq]; congr 1; omega)) | (have := h1.2.1; have := h1.2.2.1; omega)))
        · replace hb11 := dT hb11
          refine ev_q rfl (q_pickF rfl (by conv=>lhs;whnf) ?_)
          refine ev_nil (hK3 _ ?_); clear hK3
          refine good_condT rfl ?_
          refine good_seq fun K33 hK33 => ?_
          refine gr rfl ?_
          refine ea rfl (by conv=>lhs;whnf) ?_
          refine ev_nil (hK33 _ ?_); clear hK33
          refine good_ret ?_
          repeat first|refine thenQ_ret ?_|refine blockQ_ret ?_
          refine ret_tmp (st := _) rfl (by conv=>lhs;whnf) rfl ?_
          clear hK2
          first | exact fT ⟨⟨⟨by omega, by omega⟩, by assumption, by omega⟩, all_finS (Q := fun j p => piAt ns ps j p) hJ (by omega)⟩ | exact fF (fun h => by have h1 := h.1; first | omega | exact absurd h1.2.1 (by assumption)) | exact fF (net_no hpp (fun ⟨⟨h1, h3, h4⟩, h2⟩ => by first | contradiction | (exfalso; omega) | exact hE (h2 q (by omega) (by rw [← hq]; congr 1; omega)) | (have := h1.2.1; have := h1.2.2.1; omega)))
    · replace hb7 := dT hb7
      refine ev_q rfl (q_pickF rfl (by conv=>lhs;whnf) ?_)
      refine em rfl (by conv=>lhs;whnf) ?_
      refine ev_skip rfl ?_
      refine ev_skip rfl ?_
      refine ev_skip rfl ?_
      refine ev_skip rfl ?_
      refine ev_q rfl (q_pickT rfl (by conv=>lhs;whnf) ?_)
      refine em rfl (by conv=>lhs;whnf) ?_
      refine ev_skip rfl ?_
      refine ev_skip rfl ?_
      refine ev_skip rfl ?_
      refine ev_skip rfl ?_
      refine ev_q rfl (q_pickT rfl (by conv=>lhs;whnf) ?_)
      refine ev_nil (hK3 _ ?_); clear hK3
      refine good_condT rfl ?_
      refine good_seq fun K34 hK34 => ?_
      refine gr rfl ?_
      refine ea rfl (by conv=>lhs;whnf) ?_
      refine ev_nil (hK34 _ ?_); clear hK34
      refine good_ret ?_
      repeat first|refine thenQ_ret ?_|refine blockQ_ret ?_
      refine ret_tmp (st := _) rfl (by conv=>lhs;whnf) rfl ?_
      clear hK2
      first | exact fT ⟨⟨⟨by omega, by omega⟩, by assumption, by omega⟩, all_finS (Q := fun j p => piAt ns ps j p) hJ (by omega)⟩ | exact fF (fun h => by have h1 := h.1; first | omega | exact absurd h1.2.1 (by assumption)) | exact fF (net_no hpp (fun ⟨⟨h1, h3, h4⟩, h2⟩ => by first | contradiction | (exfalso; omega) | exact hE (h2 q (by omega) (by rw [← hq]; congr 1; omega)) | (have := h1.2.1; have := h1.2.2.1; omega)))
  · replace hb5 := dT hb5
    refine em rfl (by conv=>lhs;whnf) ?_
    refine ev_skip rfl ?_
    refine ev_skip rfl ?_
    refine ev_skip rfl ?_
    refine ev_skip rfl ?_
    refine ev_q rfl (q_pickT rfl (by conv=>lhs;whnf) ?_)
    refine em rfl (by conv=>lhs;whnf) ?_
    refine ev_skip rfl ?_
    refine ev_skip rfl ?_
    refine ev_skip rfl ?_
    refine ev_skip rfl ?_
    refine ev_q rfl (q_pickT rfl (by conv=>lhs;whnf) ?_)
    refine em rfl (by conv=>lhs;whnf) ?_
    refine ev_skip rfl ?_
    refine ev_skip rfl ?_
    refine ev_skip rfl ?_
    refine ev_skip rfl ?_
    refine ev_q rfl (q_pickT rfl (by conv=>lhs;whnf) ?_)
    refine ev_nil (hK3 _ ?_); clear hK3
    refine good_condT rfl ?_
    refine good_seq fun K35 hK35 => ?_
    refine gr rfl ?_
    refine ea rfl (by conv=>lhs;whnf) ?_
    refine ev_nil (hK35 _ ?_); clear hK35
    refine good_ret ?_
    repeat first|refine thenQ_ret ?_|refine blockQ_ret ?_
    refine ret_tmp (st := _) rfl (by conv=>lhs;whnf) rfl ?_
    clear hK2
    first | exact fT ⟨⟨⟨by omega, by omega⟩, by assumption, by omega⟩, all_finS (Q := fun j p => piAt ns ps j p) hJ (by omega)⟩ | exact fF (fun h => by have h1 := h.1; first | omega | exact absurd h1.2.1 (by assumption)) | exact fF (net_no hpp (fun ⟨⟨h1, h3, h4⟩, h2⟩ => by first | contradiction | (exfalso; omega) | exact hE (h2 q (by omega) (by rw [← hq]; congr 1; omega)) | (have := h1.2.1; have := h1.2.2.1; omega)))

theorem D_sort_X (xs : List Int) (hx : xs.length ≤ 1000000) : DenX Try.prog 54 [(1000000, .row 2 1 (xs.map ci))] [.own 1000000 xs.length] [(1000000, .row 2 1 ((srtI xs).map ci))] (.tup []) :=
  denX_sort ⟨_, Try.func54, rfl, rfl⟩ (fun blk cap zs w hH hb hs => AnyM.slices_Sort_int Try.sortI blk 0 cap zs w hH hb hs) (fun p cap w => AnyM.slices_Sort_int_none Try.sortI p cap w) (by omega)

-- slices.Index[[]int64,int64]
theorem D_slices_Index_int64_int64 (x : Int) (xs : List Int) (hx : xs.length ≤ 17592186044416) : Den Try.prog 138 [.lst 1 (xs.map ci), .s (.int .i64 x)] (.s (.int .i64 (fiM (fun y => decide (x = y)) xs))) := by
  refine den_of_good Try.func138 (by decide) rfl (Nat.le_of_ble_eq_true rfl) (Nat.le_of_ble_eq_true rfl) ?_
  refine good_seq fun K1 hK1 => ?_
  refine gr rfl ?_
  refine ea rfl (by conv=>lhs;whnf) ?_
  refine ev_nil (hK1 _ ?_); clear hK1
  refine good_seq fun K2 hK2 => ?_
  refine good_seq fun K3 hK3 => ?_
  refine gr rfl ?_
  refine em rfl (by conv=>lhs;whnf) ?_
  refine ev_q rfl (q_len tEs24 rfl ?_)
  intro n4 hn4
  try simp only [List.length_map] at hn4
  refine em rfl (by conv=>lhs;whnf) ?_
  refine ev_nil (hK3 _ ?_); clear hK3
  refine good_block ?_
  refine good_loop (α := Nat) (fun i => { env := upd (upd (upd (upd ((fun _ => .junk)) 0 (.lst 1 (xs.map ci))) 1 (.s (.int .i64 x))) 7 (.s (.int .i64 ((xs.length : Int))))) 8 (.s (.int .i64 i)), H := fun _ => none }) (fun i => i ≤ xs.length ∧ ∀ j q, j < i → xs[j]? = some q → ¬ x = q) (fun i => xs.length - i) 0 ?_ ?_ ?_
  · exact ⟨by omega, fun j u hj => by omega⟩
  · refine sub_weak ?_ ?_
    · exact weakH_none _
    · refine weakE_upd ?e8 ?r8 (weakE_upd ?e7 ?r7 (weakE_upd ?e1 ?r1 (weakE_upd ?e0 ?r0 (weakE_junk _ _))))
      case e0 => first | rfl | exact fI (by omega) | (simp_all)
      case r0 => intro h hh; cases hh
      case e1 => first | rfl | exact fI (by omega) | (simp_all)
      case r1 => intro h hh; cases hh
      case e7 => first | rfl | exact fI (by omega) | (simp_all)
      case r7 => intro h hh; cases hh
      case e8 => first | rfl | exact fI (by omega) | (simp_all)
      case r8 => intro h hh; cases hh
  · rintro i ⟨hI, hJ⟩
    refine good_seq fun K5 hK5 => ?_
    refine gr rfl ?_
    refine ei rfl rfl rfl ?_
    intro b6 hb6; cases b6
    · replace hb6 := dF hb6
      refine ev_nil (hK5 _ ?_); clear hK5
      refine good_seq fun K7 hK7 => ?_
      refine good_condF rfl ?_
      refine good_exit ?_
      repeat first|refine thenQ_exit ?_|refine blockQ_pass rfl ?_
      refine blockQ_exit (hK2 _ ?_); clear hK2
      refine good_seq fun K8 hK8 => ?_
      refine gr rfl ?_
      refine ea rfl (by conv=>lhs;whnf) ?_
      refine ev_nil (hK8 _ ?_); clear hK8
      refine good_ret ?_
      repeat first|refine thenQ_ret ?_|refine blockQ_ret ?_
      refine ret_tmp (st := _) rfl (by conv=>lhs;whnf) rfl ?_
      clear hK7
      first | exact fI (by have e := fi_some (p := fun y => x = y) (i := i) hq hJ (by omega); simp only [fiM, e]) | exact fI (by have e := fi_none (p := fun y => x = y) (all_finI (Q := fun _ q => ¬ x = q) hJ (by omega)); simp only [fiM, e])
    · replace hb6 := dT hb6
      obtain ⟨q, hq⟩ := getL (xs := xs) (n := (i : Int)) (by omega) (by omega)
      replace hq : xs[i]? = some q := hq
      refine ev_nil (hK5 _ ?_); clear hK5
      refine good_seq fun K9 hK9 => ?_
      refine good_condT rfl ?_
      refine good_skip (hK9 _ ?_); clear hK9
      refine good_seq fun K10 hK10 => ?_
      refine good_block ?_
      refine good_seq fun K11 hK11 => ?_
      refine gr rfl ?_
      refine em rfl (by conv=>lhs;whnf) ?_
      refine ea rfl (by conv=>lhs;whnf) ?_
      refine ev_nil (hK11 _ ?_); clear hK11
      refine good_seq fun K12 hK12 => ?_
      refine gr rfl ?_
      refine em rfl (by conv=>lhs;whnf) ?_
      refine em rfl (by conv=>lhs;whnf) ?_
      refine em rfl (by conv=>lhs;whnf) ?_
      refine ev_q rfl (q_idx tE24 rfl rfl (by exact Int.natCast_nonneg _) (by exact map_get hq) rfl ?_)
      refine ev_q rfl (q_load tA2 rfl ?_)
      refine ei rfl rfl rfl ?_
      intro b13 hb13; cases b13
      · replace hb13 := eqF hb13
        refine ev_nil (hK12 _ ?_); clear hK12
        refine good_condF rfl ?_
        refine good_skip (hK10 _ ?_); clear hK10
        refine gr rfl ?_
        refine ei rfl rfl rfl ?_
        intro n14 hn14
        replace hn14 := in64 hn14 (by omega) (by omega)
        refine em rfl (by conv=>lhs;whnf) ?_
        refine ev_nil ?_
        clear hK2
        refine ⟨i + 1, ?_, ?_, ?_⟩
        · exact ⟨by omega, all_extI (Q := fun _ q => ¬ x = q) hJ hq (by omega)⟩
        · first | omega | (simp only []; omega) | (dsimp only; omega)
        · refine sub_weak ?_ ?_
          · exact weakH_none _
          · refine weakE_upd ?e8 ?r8 (weakE_upd ?e7 ?r7 (weakE_upd ?e1 ?r1 (weakE_upd ?e0 ?r0 (weakE_junk _ _))))
            case e0 => first | rfl | exact fI (by omega) | (simp_all)
            case r0 => intro h hh; cases hh
            case e1 => first | rfl | exact fI (by omega) | (simp_all)
            case r1 => intro h hh; cases hh
            case e7 => first | rfl | exact fI (by omega) | (simp_all)
            case r7 => intro h hh; cases hh
            case e8 => first | rfl | exact fI (by omega) | (simp_all)
            case r8 => intro h hh; cases hh
      · replace hb13 := eqT hb13
        refine ev_nil (hK12 _ ?_); clear hK12
        refine good_condT rfl ?_
        refine good_seq fun K15 hK15 => ?_
        refine gr rfl ?_
        refine em rfl (by conv=>lhs;whnf) ?_
        refine ea rfl (by conv=>lhs;whnf) ?_
        refine ev_nil (hK15 _ ?_); clear hK15
        refine good_ret ?_
        repeat first|refine thenQ_ret ?_|refine blockQ_ret ?_
        refine ret_tmp (st := _) rfl (by conv=>lhs;whnf) rfl ?_
        clear hK2 hK10
        first | exact fI (by have e := fi_some (p := fun y => x = y) (i := i) hq hJ (by omega); simp only [fiM, e]) | exact fI (by have e := fi_none (p := fun y => x = y) (all_finI (Q := fun _ q => ¬ x = q) hJ (by omega)); simp only [fiM, e])

-- slices.Index[[]int64,int64]
theorem D_slices_Index_N (x : Int)  : Den Try.prog 138 [.nil, .s (.int .i64 x)] (.s (.int .i64 (-1))) := by
  refine den_of_good Try.func138 (by decide) rfl (Nat.le_of_ble_eq_true rfl) (Nat.le_of_ble_eq_true rfl) ?_
  refine good_seq fun K1 hK1 => ?_
  refine gr rfl ?_
  refine ea rfl (by conv=>lhs;whnf) ?_
  refine ev_nil (hK1 _ ?_); clear hK1
  refine good_seq fun K2 hK2 => ?_
  refine good_seq fun K3 hK3 => ?_
  refine gr rfl ?_
  refine em rfl (by conv=>lhs;whnf) ?_
  refine ev_q rfl (q_len tEs24 rfl ?_)
  intro n4 hn4
  try simp only [List.length_map] at hn4
  refine em rfl (by conv=>lhs;whnf) ?_
  refine ev_nil (hK3 _ ?_); clear hK3
  refine good_block ?_
  refine good_loop (α := Nat) (fun i => { env := upd (upd (upd (upd ((fun _ => .junk)) 0 (.nil)) 1 (.s (.int .i64 x))) 7 (.s (.int .i64 0))) 8 (.s (.int .i64 ((i : Int)))), H := fun _ => none }) (fun i => i = 0) (fun i => 0) 0 ?_ ?_ ?_
  · rfl
  · refine sub_weak ?_ ?_
    · exact weakH_none _
    · refine weakE_upd ?e8 ?r8 (weakE_upd ?e7 ?r7 (weakE_upd ?e1 ?r1 (weakE_upd ?e0 ?r0 (weakE_junk _ _))))
      case e0 => first | rfl | exact fI (by omega) | (simp_all)
      case r0 => intro h hh; cases hh
      case e1 => first | rfl | exact fI (by omega) | (simp_all)
      case r1 => intro h hh; cases hh
      case e7 => first | rfl | exact fI (by omega) | (simp_all)
      case r7 => intro h hh; cases hh
      case e8 => first | rfl | exact fI (by omega) | (simp_all)
      case r8 => intro h hh; cases hh
  · rintro i hI
    refine good_seq fun K5 hK5 => ?_
    refine gr rfl ?_
    refine ei rfl rfl rfl ?_
    intro b6 hb6; cases b6
    rotate_left
    · replace hb6 := dT hb6
      exfalso; omega
    replace hb6 := dF hb6
    refine ev_nil (hK5 _ ?_); clear hK5
    refine good_seq fun K7 hK7 => ?_
    refine good_condF rfl ?_
    refine good_exit ?_
    repeat first|refine thenQ_exit ?_|refine blockQ_pass rfl ?_
    refine blockQ_exit (hK2 _ ?_); clear hK2
    refine good_seq fun K8 hK8 => ?_
    refine gr rfl ?_
    refine ea rfl (by conv=>lhs;whnf) ?_
    refine ev_nil (hK8 _ ?_); clear hK8
    refine good_ret ?_
    repeat first|refine thenQ_ret ?_|refine blockQ_ret ?_
    refine ret_tmp (st := _) rfl (by conv=>lhs;whnf) rfl ?_
    clear hK7
    first | rfl | (exfalso; omega)

-- slices.Contains[[]int64,int64]
theorem D_slices_Contains_int64_int64 (x : Int) (xs : List Int) (hx : xs.length ≤ 17592186044416) : Den Try.prog 120 [.lst 1 (xs.map ci), .s (.int .i64 x)] (.s (.bool (decide (x ∈ xs)))) := by
  refine den_of_good Try.func120 (by decide) rfl (Nat.le_of_ble_eq_true rfl) (Nat.le_of_ble_eq_true rfl) ?_
  refine good_seq fun K1 hK1 => ?_
  refine gr rfl ?_
  refine ea rfl (by conv=>lhs;whnf) ?_
  refine ev_nil (hK1 _ ?_); clear hK1
  refine good_seq fun K2 hK2 => ?_
  refine gr rfl ?_
  refine em rfl (by conv=>lhs;whnf) ?_
  refine em rfl (by conv=>lhs;whnf) ?_
  refine ev_q rfl (q_callI rfl rfl (rfl) (D_slices_Index_int64_int64 x xs hx) ?_)
  intro n3 hn3
  refine ei rfl rfl rfl ?_
  intro b4 hb4; cases b4
  · replace hb4 := dF hb4
    refine ea rfl (by conv=>lhs;whnf) ?_
    refine ev_nil (hK2 _ ?_); clear hK2
    refine good_ret ?_
    repeat first|refine thenQ_ret ?_|refine blockQ_ret ?_
    refine ret_tmp (st := _) rfl (by conv=>lhs;whnf) rfl ?_
    first | exact fT (has_iff.1 (by omega)) | exact fF (fun h => absurd (has_iff.2 h) (by omega))
  · replace hb4 := dT hb4
    refine ea rfl (by conv=>lhs;whnf) ?_
    refine ev_nil (hK2 _ ?_); clear hK2
    refine good_ret ?_
    repeat first|refine thenQ_ret ?_|refine blockQ_ret ?_
    refine ret_tmp (st := _) rfl (by conv=>lhs;whnf) rfl ?_
    first | exact fT (has_iff.1 (by omega)) | exact fF (fun h => absurd (has_iff.2 h) (by omega))

-- slices.Contains[[]int64,int64]
theorem D_slices_Contains_N (x : Int)  : Den Try.prog 120 [.nil, .s (.int .i64 x)] (.s (.bool false)) := by
  refine den_of_good Try.func120 (by decide) rfl (Nat.le_of_ble_eq_true rfl) (Nat.le_of_ble_eq_true rfl) ?_
  refine good_seq fun K1 hK1 => ?_
  refine gr rfl ?_
  refine ea rfl (by conv=>lhs;whnf) ?_
  refine ev_nil (hK1 _ ?_); clear hK1
  refine good_seq fun K2 hK2 => ?_
  refine gr rfl ?_
  refine em rfl (by conv=>lhs;whnf) ?_
  refine em rfl (by conv=>lhs;whnf) ?_
  refine ev_q rfl (q_callI rfl rfl (rfl) (D_slices_Index_N x) ?_)
  intro n3 hn3
  refine ei rfl rfl rfl ?_
  intro b4 hb4; cases b4
  · replace hb4 := dF hb4
    refine ea rfl (by conv=>lhs;whnf) ?_
    refine ev_nil (hK2 _ ?_); clear hK2
    refine good_ret ?_
    repeat first|refine thenQ_ret ?_|refine blockQ_ret ?_
    refine ret_tmp (st := _) rfl (by conv=>lhs;whnf) rfl ?_
    first | rfl | (exfalso; omega)
  · replace hb4 := dT hb4
    refine ea rfl (by conv=>lhs;whnf) ?_
    refine ev_nil (hK2 _ ?_); clear hK2
    refine good_ret ?_
    repeat first|refine thenQ_ret ?_|refine blockQ_ret ?_
    refine ret_tmp (st := _) rfl (by conv=>lhs;whnf) rfl ?_
    first | rfl | (exfalso; omega)

-- (impl.Pipe).other
theorem D_impl_Pipe_other (s : ByteArray) (fm tt le di lo k : Int)  : Den Try.prog 119 [.agg [.s (.string s), .s (.int .i64 fm), .s (.int .i64 tt), .s (.int .i64 le), .s (.int .i64 di), .s (.int .i64 lo)], .s (.int .i64 k)] (.tup [.s (.int .i64 (oth fm tt k)), .s (.bool (decide (k = fm ∨ k = tt)))]) := by
  refine den_of_good Try.func119 (by decide) rfl (Nat.le_of_ble_eq_true rfl) (Nat.le_of_ble_eq_true rfl) ?_
  refine good_seq fun K1 hK1 => ?_
  refine gr rfl ?_
  refine ev_k rfl (k_box (by conv=>lhs;whnf) rfl rfl rfl ?_)
  refine ea rfl (by conv=>lhs;whnf) ?_
  refine ea rfl (by conv=>lhs;whnf) ?_
  refine ev_nil (hK1 _ ?_); clear hK1
  refine good_seq fun K2 hK2 => ?_
  refine good_seq fun K3 hK3 => ?_
  refine gr rfl ?_
  refine em rfl (by conv=>lhs;whnf) ?_
  refine ev_nil (hK3 _ ?_); clear hK3
  refine good_block ?_
  refine good_seq fun K4 hK4 => ?_
  refine gr rfl ?_
  refine ev_q rfl (q_fieldAddrP fO73_1 rfl rfl ?_)
  refine ev_q rfl (q_load tA2 rfl ?_)
  refine ei rfl rfl rfl ?_
  intro b5 hb5; cases b5
  · replace hb5 := eqF hb5
    refine ea rfl (by conv=>lhs;whnf) ?_
    refine ev_nil (hK4 _ ?_); clear hK4
    refine good_condF rfl ?_
    refine good_seq fun K6 hK6 => ?_
    refine gr rfl ?_
    refine ev_q rfl (q_fieldAddrP fO73_2 rfl rfl ?_)
    refine ev_q rfl (q_load tA2 rfl ?_)
    refine ei rfl rfl rfl ?_
    intro b7 hb7; cases b7
    · replace hb7 := eqF hb7
      refine ea rfl (by conv=>lhs;whnf) ?_
      refine ev_nil (hK6 _ ?_); clear hK6
      refine good_condF rfl ?_
      refine good_skip (hK2 _ ?_); clear hK2
      refine good_seq fun K8 hK8 => ?_
      refine gr rfl ?_
      refine ea rfl (by conv=>lhs;whnf) ?_
      refine ea rfl (by conv=>lhs;whnf) ?_
      refine ev_nil (hK8 _ ?_); clear hK8
      refine good_ret ?_
      repeat first|refine thenQ_ret ?_|refine blockQ_ret ?_
      refine ret_many rfl ?_
      refine res_tmp (by conv=>lhs;whnf) rfl ?_
      refine res_tmp (by conv=>lhs;whnf) rfl ?_
      refine res_nil ?_
      first | exact fTup1 (fI (by unfold oth; grind)) (fTup1 (fT (by omega)) rfl) | exact fTup1 (fI (by unfold oth; grind)) (fTup1 (fF (by omega)) rfl)
    · replace hb7 := eqT hb7
      refine ea rfl (by conv=>lhs;whnf) ?_
      refine ev_nil (hK6 _ ?_); clear hK6
      refine good_condT rfl ?_
      refine good_seq fun K9 hK9 => ?_
      refine gr rfl ?_
      refine ev_q rfl (q_fieldAddrP fO73_1 rfl rfl ?_)
      refine ev_q rfl (q_load tA2 rfl ?_)
      refine ea rfl (by conv=>lhs;whnf) ?_
      refine ea rfl (by conv=>lhs;whnf) ?_
      refine ev_nil (hK9 _ ?_); clear hK9
      refine good_ret ?_
      repeat first|refine thenQ_ret ?_|refine blockQ_ret ?_
      refine ret_many rfl ?_
      refine res_tmp (by conv=>lhs;whnf) rfl ?_
      refine res_tmp (by conv=>lhs;whnf) rfl ?_
      refine res_nil ?_
      clear hK2
      first | exact fTup1 (fI (by unfold oth; grind)) (fTup1 (fT (by omega)) rfl) | exact fTup1 (fI (by unfold oth; grind)) (fTup1 (fF (by omega)) rfl)
  · replace hb5 := eqT hb5
    refine ea rfl (by conv=>lhs;whnf) ?_
    refine ev_nil (hK4 _ ?_); clear hK4
    refine good_condT rfl ?_
    refine good_seq fun K10 hK10 => ?_
    refine gr rfl ?_
    refine ev_q rfl (q_fieldAddrP fO73_2 rfl rfl ?_)
    refine ev_q rfl (q_load tA2 rfl ?_)
    refine ea rfl (by conv=>lhs;whnf) ?_
    refine ea rfl (by conv=>lhs;whnf) ?_
    refine ev_nil (hK10 _ ?_); clear hK10
    refine good_ret ?_
    repeat first|refine thenQ_ret ?_|refine blockQ_ret ?_
    refine ret_many rfl ?_
    refine res_tmp (by conv=>lhs;whnf) rfl ?_
    refine res_tmp (by conv=>lhs;whnf) rfl ?_
    refine res_nil ?_
    clear hK2
    first | exact fTup1 (fI (by unfold oth; grind)) (fTup1 (fT (by omega)) rfl) | exact fTup1 (fI (by unfold oth; grind)) (fTup1 (fF (by omega)) rfl)

end Go.Proofs.Ytdnndlalflahhaa.DFnHydraulics
