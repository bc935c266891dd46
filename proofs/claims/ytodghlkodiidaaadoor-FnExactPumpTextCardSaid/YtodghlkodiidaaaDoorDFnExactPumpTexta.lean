/- Walks through the functions that FnExactPumpText reaches: what each answers. -/
import Derived.Test.YtodghlkodiidaaaDoorEvO
import Derived.Test.YtodghlkodiidaaaDoorProg
import Derived.Test.YtodghlkodiidaaaDoorEvV
import Derived.Test.YtodghlkodiidaaaDoorPlain
set_option linter.unusedVariables false
set_option linter.unusedSimpArgs false
namespace Go.Proofs.YtodghlkodiidaaaDoor.DFnExactPumpText
open Go Go.RowKit Go.Proofs Go.Proofs.YtodghlkodiidaaaDoor Go.Proofs.YtodghlkodiidaaaDoor.Ev
def small (u : UInt8) : Bool := decide (97 ≤ u.toNat ∧ u.toNat ≤ 122)
def digit (u : UInt8) : Bool := decide (48 ≤ u.toNat ∧ u.toNat ≤ 57)
def nbc (u : UInt8) : Bool := small u || digit u
def allNb (s : ByteArray) : Bool := s.data.all nbc
def head1 (s : ByteArray) : Bool := match s[0]? with
  | some u => small u
  | none => false
def isName (s : ByteArray) : Bool := decide (1 ≤ s.size) && decide (s.size ≤ 10) && head1 s && allNb s
theorem getB {s : ByteArray} {i : Nat} (h : i < s.size) : ∃ u, s[i]? = some u := ⟨s[i], by simp [h]⟩
theorem allNb_T {s : ByteArray} (h : ∀ j u, j < s.size → s[j]? = some u → nbc u = true) : allNb s = true := by
  unfold allNb
  rw [Array.all_eq_true]
  intro i hi
  exact h i _ hi (getElem?_pos s i hi)
theorem allNb_F {s : ByteArray} {j : Nat} {u : UInt8} (h : s[j]? = some u) (hn : nbc u = false) : allNb s = false := by
  have hj : j < s.size := by
    apply Classical.byContradiction; intro hc
    rw [getElem?_neg s j hc] at h; cases h
  unfold allNb
  rw [Array.all_eq_false]
  refine ⟨j, hj, ?_⟩
  rw [getElem?_pos s j hj] at h
  cases h
  intro hc
  have hc2 : nbc s[j] = true := hc
  rw [hn] at hc2; cases hc2
theorem isName_long {s : ByteArray} (h : ¬ s.size ≤ 10) : isName s = false := by simp [isName, h]
theorem isName_none {s : ByteArray} (h : s.size = 0) : isName s = false := by simp [isName, h]
theorem isName_head {s : ByteArray} {u : UInt8} (h : s[0]? = some u) (hn : small u = false) : isName s = false := by simp [isName, head1, h, hn]
theorem isName_eq {s : ByteArray} {u : UInt8} (h1 : 1 ≤ s.size) (h2 : s.size ≤ 10) (h : s[0]? = some u) (hn : small u = true) : isName s = allNb s := by simp [isName, head1, h, hn, h1, h2]
theorem fB {b c : Bool} (h : b = c) : AV.s (.bool b) = .s (.bool c) := by rw [h]
def stp (p : Int × Int) : AV := .agg [.s (.int .i64 p.1), .s (.int .i64 p.2)]
def zst : AV := .agg [.s (.int .i64 0), .s (.int .i64 0)]
def wv (xs : List (Int × Int)) : AV := .lst 2 (xs.map stp)
def okAt (xs : List (Int × Int)) (j : Nat) (p : Int × Int) : Prop := (0 ≤ p.1 ∧ p.1 ≤ 1000000) ∧ (-5000 ≤ p.2 ∧ p.2 ≤ 20000) ∧ (j = 0 → p.1 = 0) ∧ ∀ q, 0 < j → xs[j - 1]? = some q → q.1 < p.1
def waveOk (xs : List (Int × Int)) : Prop := (1 ≤ xs.length ∧ xs.length ≤ 24) ∧ ∀ j p, xs[j]? = some p → okAt xs j p
noncomputable instance (xs : List (Int × Int)) : Decidable (waveOk xs) := Classical.propDecidable _
theorem wave_no {xs : List (Int × Int)} {i : Nat} {p : Int × Int} (h : xs[i]? = some p) (hn : ¬ okAt xs i p) : ¬ waveOk xs := fun ⟨_, h2⟩ => hn (h2 i p h)
theorem wave_iff {xs : List (Int × Int)} (h : ∀ j p, xs[j]? = some p → okAt xs j p) : (1 ≤ (xs.length : Int) ∧ (xs.length : Int) ≤ 24) ↔ waveOk xs := ⟨fun h2 => ⟨by omega, h⟩, fun ⟨h2, _⟩ => by omega⟩
theorem all_ext {xs : List (Int × Int)} {i : Nat} {Q : Nat → Int × Int → Prop} {p : Int × Int} (hJ : ∀ j q, j < i → xs[j]? = some q → Q j q) (hp : xs[i]? = some p) (h : Q i p) : ∀ j q, j < i + 1 → xs[j]? = some q → Q j q := by
  intro j q hj hq
  by_cases e : j = i
  · subst e; rw [hp] at hq; cases hq; exact h
  · exact hJ j q (by omega) hq
theorem all_fin {xs : List (Int × Int)} {i : Nat} {Q : Nat → Int × Int → Prop} (hJ : ∀ j q, j < i → xs[j]? = some q → Q j q) (hi : xs.length ≤ i) : ∀ j q, xs[j]? = some q → Q j q := by
  intro j q hq
  exact hJ j q (by have := (List.getElem?_eq_some_iff.1 hq).1; omega) hq
def ci (n : Int) : AV := .s (.int .i64 n)
def within (xs : List Int) (lo hi : Int) : Prop := ∀ (j : Nat) (q : Int), xs[j]? = some q → lo ≤ q ∧ q ≤ hi
noncomputable instance (xs : List Int) (lo hi : Int) : Decidable (within xs lo hi) := Classical.propDecidable _
theorem all_extI {α : Type} {xs : List α} {i : Nat} {Q : Nat → α → Prop} {p : α} (hJ : ∀ j q, j < i → xs[j]? = some q → Q j q) (hp : xs[i]? = some p) (h : Q i p) : ∀ j q, j < i + 1 → xs[j]? = some q → Q j q := by
  intro j q hj hq
  by_cases e : j = i
  · subst e; rw [hp] at hq; cases hq; exact h
  · exact hJ j q (by omega) hq
theorem all_finI {α : Type} {xs : List α} {i : Nat} {Q : Nat → α → Prop} (hJ : ∀ j q, j < i → xs[j]? = some q → Q j q) (hi : xs.length ≤ i) : ∀ j q, xs[j]? = some q → Q j q := by
  intro j q hq
  exact hJ j q (by have := (List.getElem?_eq_some_iff.1 hq).1; omega) hq
def dAV (n : Int) : AV := .s (.string (dec n))
def u8A (n : Int) : AV := .s (.int .u8 n)
theorem fS {a b : ByteArray} (h : a = b) : AV.s (.string a) = .s (.string b) := by rw [h]
theorem dec_0 : (⟨#[48]⟩ : ByteArray) = dec 0 := by simp [dec, tx, Lib.itoa, Lib.decDigits]
theorem sz_app {a b c : ByteArray} (h : a = b ++ c) : a.size = b.size + c.size := by rw [h, ByteArray.size_append]
theorem takeS {α : Type} {xs : List α} {i : Nat} {q : α} (h : xs[i]? = some q) : xs.take (i + 1) = xs.take i ++ [q] := by rw [List.take_add_one, h]; rfl
theorem appG {α : Type} {f : α → AV} {l l2 : List α} {p : α} {v : AV} (h : l2 = l ++ [p]) (e : v = f p) : l.map f ++ [v] = l2.map f := by subst h e; simp
theorem ltx_s1 {xs : List Int} {i : Nat} {q : Int} {s : ByteArray} (hq : xs[i]? = some q) (h : ¬ (i : Int) > 0) (h2 : s = tx (ltx (xs.take i)) ++ dec q) : s = tx (ltx (xs.take (i + 1))) := by
  have h0 : i = 0 := by omega
  subst h0
  rw [h2, ltx_take hq, if_pos rfl]
  show tx [] ++ dec q = dec q
  unfold dec; rw [tx_app]; rfl
theorem ltx_s2 {xs : List Int} {i : Nat} {q : Int} {s u : ByteArray} (hq : xs[i]? = some q) (h : (i : Int) > 0) (h1 : u = tx (ltx (xs.take i)) ++ ⟨#[44]⟩) (h2 : s = u ++ dec q) : s = tx (ltx (xs.take (i + 1))) := by
  rw [h2, h1, ltx_take hq, if_neg (by omega)]
  show tx (ltx (xs.take i)) ++ tx [44] ++ dec q = _
  unfold dec; rw [tx_app, tx_app]
theorem u8w {n m : Int} (h : n = IntKind.u8.wrap m) (h0 : 0 ≤ m) (h1 : m ≤ 255) : n = m := by
  have e : IntKind.u8.wrap m = m % 256 := by simp [IntKind.wrap, IntKind.bits, IntKind.signed]
  rw [e] at h; omega
theorem absT {m a b : Int} (h : a = Int.tmod m 10) (hb : (0 ≤ a ∧ b = a) ∨ (a < 0 ∧ b = -a)) : b = ((m.natAbs % 10 : Nat) : Int) := by
  by_cases h0 : 0 ≤ m
  · rw [tmod_pos h0] at h; omega
  · rw [tmod_neg (by omega)] at h; omega
theorem tmodB {m a : Int} (h : a = Int.tmod m 10) : -9 ≤ a ∧ a ≤ 9 := by
  by_cases h0 : 0 ≤ m
  · rw [tmod_pos h0] at h; omega
  · rw [tmod_neg (by omega)] at h; omega
theorem tdivA {m a : Int} (h : a = Int.tdiv m 10) (hm : m ≠ 0) : a.natAbs < m.natAbs := by
  by_cases h0 : 0 ≤ m
  · rw [tdiv_pos h0] at h; omega
  · rw [tdiv_neg (by omega)] at h; omega
theorem quo10 {n m : Int} (h : n = IntKind.i64.wrap (Int.tdiv m 10)) (h0 : -9223372036854775808 ≤ m) (h1 : m ≤ 9223372036854775807) : n = Int.tdiv m 10 := by
  by_cases h2 : 0 ≤ m
  · rw [tdiv_pos h2] at h ⊢; exact in64 h (by omega) (by omega)
  · rw [tdiv_neg (by omega)] at h ⊢; exact in64 h (by omega) (by omega)
def decL (n : Int) (L : List Int) : List Int := if n < 0 then L ++ [45] else L
theorem dec_end {n : Int} {L : List Int} (h : decI n 0 L) : (decL n L).reverse = itD n := by
  have e := decI_end h
  unfold decL
  by_cases hn : n < 0
  · rw [if_pos hn, itD_neg hn, e]; simp
  · rw [if_neg hn, itD_pos (by omega), e]
def revT (L : List Int) (i : Nat) : List Int := (L.drop i).reverse
theorem revT_0 {L : List Int} : revT L L.length = [] := by simp [revT]
theorem revT_s {L : List Int} {i : Nat} {q : Int} (h : L[i]? = some q) : revT L i = revT L (i + 1) ++ [q] := by
  have hl := (List.getElem?_eq_some_iff.1 h).1
  unfold revT
  rw [List.drop_eq_getElem_cons hl, List.reverse_cons]
  rw [List.getElem?_eq_getElem hl] at h
  rw [Option.some.inj h]
theorem revT_e {L : List Int} : revT L 0 = L.reverse := by simp [revT]
theorem revT_len {L : List Int} {i : Nat} : (revT L i).length = L.length - i := by simp [revT]
theorem u8s_u8A : ∀ xs : List Int, u8s (xs.map u8A) = some xs
  | [] => rfl
  | x :: xs => by simp only [List.map_cons, u8s, u8A]; rw [show u8s (xs.map u8A) = some xs from u8s_u8A xs]
theorem u8s_take {xs : List Int} {n : Nat} (h : n = xs.length) : u8s ((xs.map u8A).take n) = some xs := by subst h; rw [takeMap]; exact u8s_u8A xs
theorem decL_len {n : Int} {L : List Int} : (decL n L).length ≤ L.length + 1 := by unfold decL; split <;> simp
theorem l1_size {c : UInt8} : (⟨#[c]⟩ : ByteArray).size = 1 := rfl
def tot {α : Type} (f : α → Nat) (xs : List α) (i : Nat) : Nat := ((xs.take i).map f).sum
theorem tot_zero {α : Type} (f : α → Nat) (xs : List α) : tot f xs 0 = 0 := by simp [tot]
theorem tot_step {α : Type} {f : α → Nat} {xs : List α} {i : Nat} {p : α} (h : xs[i]? = some p) : tot f xs (i + 1) = tot f xs i + f p := by
  unfold tot
  rw [List.take_add_one, h]; simp
theorem tot_le {α : Type} {f : α → Nat} {xs : List α} {i : Nat} : tot f xs i ≤ tot f xs xs.length := by
  unfold tot
  rw [List.take_length]
  have e : (xs.map f).sum = ((xs.take i).map f).sum + ((xs.drop i).map f).sum := by rw [← List.sum_append, ← List.map_append, List.take_append_drop]
  omega
theorem tot_end {α : Type} {f : α → Nat} {xs : List α} {i : Nat} (h : xs.length ≤ i) : tot f xs i = tot f xs xs.length := by
  unfold tot; rw [List.take_of_length_le h, List.take_of_length_le (Nat.le_refl _)]
theorem bytesLess_tri : ∀ (x y : List UInt8), Op.bytesLess x y = false ↔ (Op.bytesLess y x = true ∨ y = x)
  | [], [] => by simp [Op.bytesLess]
  | [], _ :: _ => by simp [Op.bytesLess]
  | _ :: _, [] => by simp [Op.bytesLess]
  | a :: x, b :: y => by
    have ih := bytesLess_tri x y
    have e1 : (a = b) ↔ a.toNat = b.toNat := ⟨fun h => by rw [h], fun h => UInt8.toNat_inj.1 h⟩
    have e2 : a < b ↔ a.toNat < b.toNat := UInt8.lt_iff_toNat_lt
    have e3 : b < a ↔ b.toNat < a.toNat := UInt8.lt_iff_toNat_lt
    by_cases h : a = b
    · subst h; simp [Op.bytesLess, ih]
    · have l : Op.bytesLess (a :: x) (b :: y) = decide (a < b) := by simp [Op.bytesLess, h]
      have r : Op.bytesLess (b :: y) (a :: x) = decide (b < a) := by simp [Op.bytesLess, Ne.symm h]
      have hn : ¬ a.toNat = b.toNat := fun e => h (e1.2 e)
      have hc : ¬ (b :: y = a :: x) := fun e => h (List.cons.inj e).1.symm
      rw [l, r]
      simp only [decide_eq_false_iff_not, decide_eq_true_eq, e2, e3, hc, or_false]
      omega
def idLt (x y : ByteArray) : Prop := Op.bytesLess x.toList y.toList = true
theorem jx_s1 {α : Type} {f : α → List UInt8} {sep : List UInt8} {xs : List α} {i : Nat} {q : α} {s u : ByteArray} (hq : xs[i]? = some q) (h : ¬ (i : Int) > 0) (h2 : s = tx (Lib.join ((xs.take i).map f) sep) ++ u) (hu : u = tx (f q)) : s = tx (Lib.join ((xs.take (i + 1)).map f) sep) := by
  have h0 : i = 0 := by omega
  subst h0
  rw [h2, hu, join_take f sep hq, if_pos rfl]
  show tx [] ++ tx (f q) = _
  rw [tx_app]; rfl
theorem jx_s2 {α : Type} {f : α → List UInt8} {sep : List UInt8} {xs : List α} {i : Nat} {q : α} {s t u : ByteArray} (hq : xs[i]? = some q) (h : (i : Int) > 0) (h1 : t = tx (Lib.join ((xs.take i).map f) sep) ++ tx sep) (h2 : s = t ++ u) (hu : u = tx (f q)) : s = tx (Lib.join ((xs.take (i + 1)).map f) sep) := by
  rw [h2, h1, hu, join_take f sep hq, if_neg (by omega), tx_app, tx_app]
def stT (p : Int × Int) : List UInt8 := Lib.itoa p.1 ++ [58] ++ Lib.itoa p.2
def wAV (p : Int × Int) : AV := .s (.string (tx (stT p)))
theorem stT_eq {p : Int × Int} {a b : ByteArray} (h1 : a = dec p.1 ++ ⟨#[58]⟩) (h2 : b = a ++ dec p.2) : b = tx (stT p) := by
  rw [h2, h1]
  show tx _ ++ tx [58] ++ tx _ = _
  rw [tx_app, tx_app]; rfl
def wtx (xs : List (Int × Int)) : List UInt8 := Lib.join (xs.map stT) [32]
theorem wv_in {xs : List (Int × Int)} (ok : waveOk xs) {i : Nat} {p : Int × Int} (h : xs[i]? = some p) : inI p.1 ∧ inI p.2 := by
  have hp := ok.2 i p h
  unfold okAt at hp
  exact ⟨⟨by omega, by omega⟩, ⟨by omega, by omega⟩⟩
theorem stT_len {p : Int × Int} (h : inI p.1 ∧ inI p.2) : (stT p).length ≤ 41 := by
  have h1 := itoa_len h.1.1 h.1.2
  have h2 := itoa_len h.2.1 h.2.2
  unfold stT; simp only [List.length_append, List.length_cons, List.length_nil]; omega
theorem wtx_len {xs : List (Int × Int)} (ok : waveOk xs) {i : Nat} (hi : i ≤ xs.length) : (Lib.join ((xs.take i).map stT) [32]).length ≤ 42 * i :=
  join_len stT [32] (fun x hx => by
    obtain ⟨j, hj⟩ := List.getElem?_of_mem hx
    have := stT_len (wv_in ok hj)
    simp only [List.length_cons, List.length_nil]; omega) i hi
noncomputable def wvT (xs : List (Int × Int)) : ByteArray := if waveOk xs then tx (wtx xs) else tx []
theorem wvT_no {xs : List (Int × Int)} (h : ¬ waveOk xs) : wvT xs = tx [] := if_neg h
theorem wvT_ok {xs : List (Int × Int)} (h : waveOk xs) : wvT xs = tx (wtx xs) := if_pos h
theorem nm_size {s : ByteArray} (h : isName s = true) : 1 ≤ s.size ∧ s.size ≤ 10 := by simp [isName] at h; omega
theorem ba_len {s : ByteArray} : s.data.toList.length = s.size := (Lib.size_eq s).symm
abbrev lsI (c : List Int) : AV := .lst 1 (c.map ci)
def cx (c : List Int) : Int := c.getD 0 0
def cy (c : List Int) : Int := c.getD 1 0
theorem cx_get {c : List Int} (h : (c.length : Int) = 2) : (c.map ci)[0]? = some (ci (cx c)) := by
  match c, h with
  | [a, b], _ => rfl
  | [], h => simp at h
  | [a], h => simp at h
  | a :: b :: d :: r, h => simp at h; omega
theorem cy_get {c : List Int} (h : (c.length : Int) = 2) : (c.map ci)[1]? = some (ci (cy c)) := by
  match c, h with
  | [a, b], _ => rfl
  | [], h => simp at h
  | [a], h => simp at h
  | a :: b :: d :: r, h => simp at h; omega
def okPc (cs : List (List Int)) (j : Nat) (c : List Int) : Prop := (c.length : Int) = 2 ∧ (0 ≤ cx c ∧ cx c ≤ 100000) ∧ (0 ≤ cy c ∧ cy c ≤ 2000000) ∧ (j = 0 → cx c = 0) ∧ ∀ p, 0 < j → cs[j - 1]? = some p → cx p < cx c ∧ cy c ≤ cy p
def pumpOk (id : ByteArray) (cs : List (List Int)) : Prop := isName id = true ∧ (2 ≤ cs.length ∧ cs.length ≤ 8) ∧ ∀ (j : Nat) (c : List Int), cs[j]? = some c → okPc cs j c
noncomputable instance (id : ByteArray) (cs : List (List Int)) : Decidable (pumpOk id cs) := Classical.propDecidable _
theorem pm_no {id : ByteArray} {cs : List (List Int)} {i : Nat} {c : List Int} (hc : cs[i]? = some c) (h : ¬ ((c.length : Int) = 2 ∧ (0 ≤ cx c ∧ cx c ≤ 100000) ∧ (0 ≤ cy c ∧ cy c ≤ 2000000) ∧ (i = 0 → cx c = 0))) : ¬ pumpOk id cs := fun hp => by
  have h2 := hp.2.2 i c hc
  exact h ⟨h2.1, h2.2.1, h2.2.2.1, h2.2.2.2.1⟩
theorem pm_no2 {id : ByteArray} {cs : List (List Int)} {i : Nat} {c p : List Int} (hc : cs[i]? = some c) (hi : 0 < i) (hp1 : cs[i - 1]? = some p) (h : ¬ (cx p < cx c ∧ cy c ≤ cy p)) : ¬ pumpOk id cs := fun hp => h ((hp.2.2 i c hc).2.2.2.2 p hi hp1)
theorem pm_ok0 {cs : List (List Int)} {c : List Int} {i : Nat} (hi : i = 0) (h1 : (c.length : Int) = 2) (h2 : 0 ≤ cx c ∧ cx c ≤ 100000) (h3 : 0 ≤ cy c ∧ cy c ≤ 2000000) (h4 : cx c = 0) : okPc cs i c := ⟨h1, h2, h3, fun _ => h4, fun p h => by omega⟩
theorem pm_oks {cs : List (List Int)} {i : Nat} {c p : List Int} (h1 : (c.length : Int) = 2) (h2 : 0 ≤ cx c ∧ cx c ≤ 100000) (h3 : 0 ≤ cy c ∧ cy c ≤ 2000000) (hi : 0 < i) (hp : cs[i - 1]? = some p) (h4 : cx p < cx c ∧ cy c ≤ cy p) : okPc cs i c := ⟨h1, h2, h3, fun h => by omega, fun q _ hq => by rw [hp] at hq; cases hq; exact h4⟩
theorem pm_all {id : ByteArray} {cs : List (List Int)} {i : Nat} (hn : isName id = true) (hl : 2 ≤ cs.length ∧ cs.length ≤ 8) (hJ : ∀ (j : Nat) (c : List Int), j < i → cs[j]? = some c → okPc cs j c) (hi : cs.length ≤ i) : pumpOk id cs := ⟨hn, hl, fun j c hc => hJ j c (by have := (List.getElem?_eq_some_iff.1 hc).1; omega) hc⟩
def pc (c : List Int) : List UInt8 := 32 :: stT (cx c, cy c)
def pmL (id : ByteArray) (cs : List (List Int)) : List UInt8 := id.data.toList ++ (cs.map pc).flatten
theorem pm_0 {id : ByteArray} : id = tx (pmL id []) := by simp [pmL, tx_self]
theorem pc_eq {a b : Int} {s1 s2 s3 : ByteArray} {c : List Int} (ha : a = cx c) (hb : b = cy c) (h1 : s1 = ⟨#[32]⟩ ++ dec a) (h2 : s2 = s1 ++ ⟨#[58]⟩) (h3 : s3 = s2 ++ dec b) : s3 = tx (pc c) := by
  subst ha hb
  rw [h3, h2, h1]
  show tx [32] ++ tx _ ++ tx [58] ++ tx _ = _
  rw [tx_app, tx_app, tx_app]; rfl
theorem pm_s {id : ByteArray} {cs : List (List Int)} {i : Nat} {c : List Int} {s t : ByteArray} (hc : cs[i]? = some c) (h1 : t = tx (pc c)) (h2 : s = tx (pmL id (cs.take i)) ++ t) : s = tx (pmL id (cs.take (i + 1))) := by
  rw [h2, h1, tx_app, takeS hc]
  unfold pmL
  simp
theorem pm_in {id : ByteArray} {cs : List (List Int)} (ok : pumpOk id cs) {i : Nat} {c : List Int} (hc : cs[i]? = some c) : (c.length : Int) = 2 ∧ inI (cx c) ∧ inI (cy c) := by
  have h := ok.2.2 i c hc
  exact ⟨h.1, ⟨by have := h.2.1; omega, by have := h.2.1; omega⟩, ⟨by have := h.2.2.1; omega, by have := h.2.2.1; omega⟩⟩
theorem pm_len {id : ByteArray} {cs : List (List Int)} (ok : pumpOk id cs) : ∀ i : Nat, i ≤ cs.length → (tx (pmL id (cs.take i))).size ≤ id.size + 42 * i
  | 0, _ => by simp [pmL, tx_size, ba_len]
  | i + 1, hi => by
    have ih := pm_len ok i (by omega)
    have hc : cs[i]? = some (cs[i]'(by omega)) := List.getElem?_eq_getElem (by omega)
    have hin := pm_in ok hc
    have hl := stT_len (p := (cx (cs[i]'(by omega)), cy (cs[i]'(by omega)))) ⟨hin.2.1, hin.2.2⟩
    rw [takeS hc, tx_size] at *
    unfold pmL at *
    simp only [List.map_append, List.map_cons, List.map_nil, List.flatten_append, List.flatten_cons, List.flatten_nil, List.length_append, List.append_nil] at *
    have : (pc (cs[i]'(by omega))).length ≤ 42 := by unfold pc; simp only [List.length_cons]; omega
    omega
noncomputable def pmT (id : ByteArray) (cs : List (List Int)) : ByteArray := if pumpOk id cs then tx (pmL id cs) else tx []
theorem pmT_y {id : ByteArray} {cs : List (List Int)} (h : pumpOk id cs) : pmT id cs = tx (pmL id cs) := if_pos h
theorem pmT_n {id : ByteArray} {cs : List (List Int)} (h : ¬ pumpOk id cs) : pmT id cs = tx [] := if_neg h
theorem fO39_0 : fOff Tryd.prog 39 0 = some 0 := by kernel_rfl
theorem fO39_1 : fOff Tryd.prog 39 1 = some 1 := by kernel_rfl
theorem fO39_2 : fOff Tryd.prog 39 2 = some 2 := by kernel_rfl
theorem fO39_3 : fOff Tryd.prog 39 3 = some 3 := by kernel_rfl
theorem fO39_4 : fOff Tryd.prog 39 4 = some 4 := by kernel_rfl
theorem fO44_0 : fOff Tryd.prog 44 0 = some 0 := by kernel_rfl
theorem fO44_1 : fOff Tryd.prog 44 1 = some 1 := by kernel_rfl
theorem fO47_0 : fOff Tryd.prog 47 0 = some 0 := by kernel_rfl
theorem fO47_1 : fOff Tryd.prog 47 1 = some 1 := by kernel_rfl
theorem hmix : Tryd.prog.follows .mixedOrders = true := by kernel_rfl
theorem sz2 : tSz Tryd.prog 2 = some 1 := by kernel_rfl
theorem sz42 : tSz Tryd.prog 42 = some 1 := by kernel_rfl
theorem sz47 : tSz Tryd.prog 47 = some 2 := by kernel_rfl
theorem sz69 : tSz Tryd.prog 69 = some 1 := by kernel_rfl
theorem sz9 : tSz Tryd.prog 9 = some 1 := by kernel_rfl
theorem tA2 : tAgg Tryd.prog 2 = some none := by kernel_rfl
theorem tA42 : tAgg Tryd.prog 42 = some none := by kernel_rfl
theorem tA44 : tAgg Tryd.prog 44 = some (some 2) := by kernel_rfl
theorem tA47 : tAgg Tryd.prog 47 = some (some 2) := by kernel_rfl
theorem tA5 : tAgg Tryd.prog 5 = some none := by kernel_rfl
theorem tA69 : tAgg Tryd.prog 69 = some none := by kernel_rfl
theorem tA9 : tAgg Tryd.prog 9 = some none := by kernel_rfl
theorem tApp61 : tApp Tryd.prog 61 = some (5, 1, 1) := by kernel_rfl
theorem tApp86 : tApp Tryd.prog 86 = some (9, 1, 16) := by kernel_rfl
theorem tBy2 : tBytes Tryd.prog 2 = some 8 := by kernel_rfl
theorem tBy69 : tBytes Tryd.prog 69 = some 24 := by kernel_rfl
theorem tBy9 : tBytes Tryd.prog 9 = some 16 := by kernel_rfl
theorem tByS61 : tIsBytes Tryd.prog 61 = true := by kernel_rfl
theorem tE42 : tElem Tryd.prog 42 = some (69, 1) := by kernel_rfl
theorem tE61 : tElem Tryd.prog 61 = some (5, 1) := by kernel_rfl
theorem tE69 : tElem Tryd.prog 69 = some (2, 1) := by kernel_rfl
theorem tE86 : tElem Tryd.prog 86 = some (9, 1) := by kernel_rfl
theorem tEs42 : (tElem Tryd.prog 42).isSome = true := by kernel_rfl
theorem tEs61 : (tElem Tryd.prog 61).isSome = true := by kernel_rfl
theorem tEs69 : (tElem Tryd.prog 69).isSome = true := by kernel_rfl
theorem tK2 : tKind Tryd.prog 2 = some .i64 := by kernel_rfl
theorem tK5 : tKind Tryd.prog 5 = some .u8 := by kernel_rfl
theorem tStr9 : tIsStr Tryd.prog 9 = true := by kernel_rfl
theorem zA2 : zeroA Tryd.prog 2 = some [.s (.int .i64 0)] := by kernel_rfl
theorem zA47 : zeroA Tryd.prog 47 = some [.s (.string ⟨#[]⟩), .nil] := by kernel_rfl
theorem zA5 : zeroA Tryd.prog 5 = some [.s (.int .u8 0)] := by kernel_rfl
theorem zA69 : zeroA Tryd.prog 69 = some [.nil] := by kernel_rfl
theorem zA9 : zeroA Tryd.prog 9 = some [.s (.string ⟨#[]⟩)] := by kernel_rfl

-- impl.within
set_option maxRecDepth 20000 in
set_option maxHeartbeats 2000000 in
theorem D_impl_within (a lo hi : Int)  : Den Tryd.prog 81 [.s (.int .i64 a), .s (.int .i64 lo), .s (.int .i64 hi)] (.s (.bool (decide (lo ≤ a ∧ a ≤ hi)))) := by
  refine den_of_good Tryd.func81 (by decide) rfl (Nat.le_of_ble_eq_true rfl) (Nat.le_of_ble_eq_true rfl) ?_
  refine good_seq fun K1 hK1 => ?_
  refine good_region rfl ?_
  refine ev_q rfl (q_assign (by conv => lhs; whnf) ?_)
  refine ev_nil (hK1 _ ?_); clear hK1
  refine good_seq fun K2 hK2 => ?_
  refine good_region rfl ?_
  refine ev_q rfl (q_move (by conv => lhs; whnf) ?_)
  refine ev_q rfl (q_move (by conv => lhs; whnf) ?_)
  refine ev_q rfl (q_int rfl rfl ?_)
  intro b3 hb3; cases b3
  · replace hb3 := dF hb3
    refine ev_q rfl (q_move (by conv => lhs; whnf) ?_)
    refine ev_skip rfl ?_
    refine ev_skip rfl ?_
    refine ev_skip rfl ?_
    refine ev_q rfl (q_pickF rfl (by conv => lhs; whnf) ?_)
    refine ev_q rfl (q_assign (by conv => lhs; whnf) ?_)
    refine ev_nil (hK2 _ ?_); clear hK2
    refine good_ret ?_
    repeat (first | refine thenQ_ret ?_ | refine blockQ_ret ?_)
    refine ret_tmp (st := _) rfl (by conv => lhs; whnf) rfl ?_
    first | rfl | exact fT (by first | omega | grind) | exact fF (by first | omega | grind) | exact fT' (by first | omega | grind) | (exfalso; first | omega | grind)
  · replace hb3 := dT hb3
    refine ev_q rfl (q_move (by conv => lhs; whnf) ?_)
    refine ev_q rfl (q_move (by conv => lhs; whnf) ?_)
    refine ev_q rfl (q_move (by conv => lhs; whnf) ?_)
    refine ev_q rfl (q_int rfl rfl ?_)
    intro b4 hb4; cases b4
    · replace hb4 := dF hb4
      refine ev_q rfl (q_pickT rfl (by conv => lhs; whnf) ?_)
      refine ev_q rfl (q_assign (by conv => lhs; whnf) ?_)
      refine ev_nil (hK2 _ ?_); clear hK2
      refine good_ret ?_
      repeat (first | refine thenQ_ret ?_ | refine blockQ_ret ?_)
      refine ret_tmp (st := _) rfl (by conv => lhs; whnf) rfl ?_
      first | rfl | exact fT (by first | omega | grind) | exact fF (by first | omega | grind) | exact fT' (by first | omega | grind) | (exfalso; first | omega | grind)
    · replace hb4 := dT hb4
      refine ev_q rfl (q_pickT rfl (by conv => lhs; whnf) ?_)
      refine ev_q rfl (q_assign (by conv => lhs; whnf) ?_)
      refine ev_nil (hK2 _ ?_); clear hK2
      refine good_ret ?_
      repeat (first | refine thenQ_ret ?_ | refine blockQ_ret ?_)
      refine ret_tmp (st := _) rfl (by conv => lhs; whnf) rfl ?_
      first | rfl | exact fT (by first | omega | grind) | exact fF (by first | omega | grind) | exact fT' (by first | omega | grind) | (exfalso; first | omega | grind)

-- spec.l00In
set_option maxRecDepth 20000 in
set_option maxHeartbeats 2000000 in
theorem D_spec_l00In (a lo hi : Int)  : Den Tryd.prog 88 [.s (.int .i64 a), .s (.int .i64 lo), .s (.int .i64 hi)] (.s (.bool (decide (lo ≤ a ∧ a ≤ hi)))) := by
  refine den_of_good Tryd.func88 (by decide) rfl (Nat.le_of_ble_eq_true rfl) (Nat.le_of_ble_eq_true rfl) ?_
  refine good_seq fun K1 hK1 => ?_
  refine good_region rfl ?_
  refine ev_q rfl (q_assign (by conv => lhs; whnf) ?_)
  refine ev_nil (hK1 _ ?_); clear hK1
  refine good_seq fun K2 hK2 => ?_
  refine good_region rfl ?_
  refine ev_q rfl (q_move (by conv => lhs; whnf) ?_)
  refine ev_q rfl (q_move (by conv => lhs; whnf) ?_)
  refine ev_q rfl (q_int rfl rfl ?_)
  intro b3 hb3; cases b3
  · replace hb3 := dF hb3
    refine ev_q rfl (q_move (by conv => lhs; whnf) ?_)
    refine ev_skip rfl ?_
    refine ev_skip rfl ?_
    refine ev_skip rfl ?_
    refine ev_q rfl (q_pickF rfl (by conv => lhs; whnf) ?_)
    refine ev_q rfl (q_assign (by conv => lhs; whnf) ?_)
    refine ev_nil (hK2 _ ?_); clear hK2
    refine good_ret ?_
    repeat (first | refine thenQ_ret ?_ | refine blockQ_ret ?_)
    refine ret_tmp (st := _) rfl (by conv => lhs; whnf) rfl ?_
    first | rfl | exact fT (by first | omega | grind) | exact fF (by first | omega | grind) | exact fT' (by first | omega | grind) | (exfalso; first | omega | grind)
  · replace hb3 := dT hb3
    refine ev_q rfl (q_move (by conv => lhs; whnf) ?_)
    refine ev_q rfl (q_move (by conv => lhs; whnf) ?_)
    refine ev_q rfl (q_move (by conv => lhs; whnf) ?_)
    refine ev_q rfl (q_int rfl rfl ?_)
    intro b4 hb4; cases b4
    · replace hb4 := dF hb4
      refine ev_q rfl (q_pickT rfl (by conv => lhs; whnf) ?_)
      refine ev_q rfl (q_assign (by conv => lhs; whnf) ?_)
      refine ev_nil (hK2 _ ?_); clear hK2
      refine good_ret ?_
      repeat (first | refine thenQ_ret ?_ | refine blockQ_ret ?_)
      refine ret_tmp (st := _) rfl (by conv => lhs; whnf) rfl ?_
      first | rfl | exact fT (by first | omega | grind) | exact fF (by first | omega | grind) | exact fT' (by first | omega | grind) | (exfalso; first | omega | grind)
    · replace hb4 := dT hb4
      refine ev_q rfl (q_pickT rfl (by conv => lhs; whnf) ?_)
      refine ev_q rfl (q_assign (by conv => lhs; whnf) ?_)
      refine ev_nil (hK2 _ ?_); clear hK2
      refine good_ret ?_
      repeat (first | refine thenQ_ret ?_ | refine blockQ_ret ?_)
      refine ret_tmp (st := _) rfl (by conv => lhs; whnf) rfl ?_
      first | rfl | exact fT (by first | omega | grind) | exact fF (by first | omega | grind) | exact fT' (by first | omega | grind) | (exfalso; first | omega | grind)

theorem D_fmt (n : Int) (h : inI n) : Den Tryd.prog 87 [.s (.int .i64 n), .s (.int .i64 10)] (.s (.string (dec n))) := by
  obtain ⟨g, hg⟩ := Option.isSome_iff_exists.1 (show (Tryd.prog.globalNamed "internal/strconv.uint64pow10").isSome = true by kernel_rfl)
  exact den_fmt ⟨_, Tryd.func87, rfl, rfl⟩ hg (fun n h0 h1 w ht => Tryd.strconv_FormatInt_10 n h0 h1 w ht) n h.1 h.2

theorem D_joinI (L : List Int) (hl : L.length ≤ 1000000) (hi : ∀ x ∈ L, inI x) : Den Tryd.prog 57 [.lst 1 (L.map dAV), .s (.string ⟨#[44]⟩)] (.s (.string (tx (ltx L)))) := by
  have e : (L.map dec).map stA = L.map dAV := by rw [List.map_map]; rfl
  have e2 : (L.map dec).map (fun b : ByteArray => b.data.toList) = L.map Lib.itoa := by rw [List.map_map]; exact List.map_congr_left fun n _ => by simp [dec, tx_data]
  have hlen := ltx_len hi (i := L.length) (Nat.le_refl _)
  rw [List.take_length] at hlen
  have h := den_join ⟨_, Tryd.func57, rfl, rfl⟩ Tryd.strings_Join_none Tryd.strings_Join (L.map dec) ⟨#[44]⟩ (by rw [List.length_map]; omega) (by rw [e2]; show (ltx L).length ≤ _; omega)
  rw [e, e2] at h
  exact h

-- impl.Decimal
set_option maxRecDepth 20000 in
set_option maxHeartbeats 2000000 in
theorem D_impl_Decimal (n : Int) (h : inI n) : Den Tryd.prog 48 [.s (.int .i64 n)] (.s (.string (dec n))) := by
  refine den_of_good Tryd.func48 (by decide) rfl (Nat.le_of_ble_eq_true rfl) (Nat.le_of_ble_eq_true rfl) ?_
  refine good_seq fun K1 hK1 => ?_
  refine good_region rfl ?_
  refine ev_q rfl (q_assign (by conv => lhs; whnf) ?_)
  refine ev_nil (hK1 _ ?_); clear hK1
  refine good_seq fun K2 hK2 => ?_
  refine good_region rfl ?_
  refine ev_q rfl (q_move (by conv => lhs; whnf) ?_)
  refine ev_q rfl (q_call rfl rfl (rfl) (D_fmt n h) rfl ?_)
  refine ev_q rfl (q_assign (by conv => lhs; whnf) ?_)
  refine ev_nil (hK2 _ ?_); clear hK2
  refine good_ret ?_
  repeat (first | refine thenQ_ret ?_ | refine blockQ_ret ?_)
  refine ret_tmp (st := _) rfl (by conv => lhs; whnf) rfl ?_
  rfl

-- impl.ListText
set_option maxRecDepth 20000 in
set_option maxHeartbeats 2000000 in
theorem D_impl_ListText (xs : List Int) (hx : xs.length ≤ 17592186044416) : Den Tryd.prog 46 [.lst 1 (xs.map ci)] (.s (.string (lt xs))) := by
  refine den_of_good Tryd.func46 (by decide) rfl (Nat.le_of_ble_eq_true rfl) (Nat.le_of_ble_eq_true rfl) ?_
  refine good_seq fun K1 hK1 => ?_
  refine good_region rfl ?_
  refine ev_q rfl (q_assign (by conv => lhs; whnf) ?_)
  refine ev_nil (hK1 _ ?_); clear hK1
  refine good_seq fun K2 hK2 => ?_
  refine good_seq fun K3 hK3 => ?_
  refine good_region rfl ?_
  refine ev_q rfl (q_move (by conv => lhs; whnf) ?_)
  refine ev_q rfl (q_len tEs69 rfl ?_)
  intro n4 hn4
  try simp only [List.length_map] at hn4
  refine ev_q rfl (q_int rfl rfl ?_)
  intro b5 hb5; cases b5
  · replace hb5 := dF hb5
    refine ev_nil (hK3 _ ?_); clear hK3
    refine good_condF rfl ?_
    refine good_skip (hK2 _ ?_); clear hK2
    refine good_seq fun K6 hK6 => ?_
    refine good_seq fun K7 hK7 => ?_
    refine good_region rfl ?_
    refine ev_q rfl (q_move (by conv => lhs; whnf) ?_)
    refine ev_q rfl (q_len tEs69 rfl ?_)
    intro n8 hn8
    try simp only [List.length_map] at hn8
    refine ev_q rfl (q_int rfl rfl ?_)
    intro b9 hb9; cases b9
    · replace hb9 := eqF hb9
      refine ev_nil (hK7 _ ?_); clear hK7
      refine good_condF rfl ?_
      refine good_skip (hK6 _ ?_); clear hK6
      refine good_seq fun K10 hK10 => ?_
      refine good_region rfl ?_
      refine ev_q rfl (q_move (by conv => lhs; whnf) ?_)
      refine ev_q rfl (q_len tEs69 rfl ?_)
      intro n11 hn11
      try simp only [List.length_map] at hn11
      refine ev_k rfl (k_make2 tE86 rfl rfl zA9 tBy9 rfl (by omega) (by omega) (by omega) (by omega) rfl (by rfl) ?_)
      refine ev_q rfl (q_assign (by conv => lhs; whnf) ?_)
      refine ev_nil (hK10 _ ?_); clear hK10
      refine good_seq fun K12 hK12 => ?_
      refine good_seq fun K13 hK13 => ?_
      refine good_region rfl ?_
      refine ev_q rfl (q_move (by conv => lhs; whnf) ?_)
      refine ev_q rfl (q_len tEs69 rfl ?_)
      intro n14 hn14
      try simp only [List.length_map] at hn14
      refine ev_q rfl (q_move (by conv => lhs; whnf) ?_)
      refine ev_nil (hK13 _ ?_); clear hK13
      refine good_block ?_
      refine good_loop (α := Nat) (fun i => { env := upd (upd (upd (upd ((fun _ => .junk)) 3 (.own 28 (xs.take i).length)) 15 (.lst 1 (xs.map ci))) 16 (.s (.int .i64 ((xs.length : Int))))) 17 (.s (.int .i64 i)), H := upd ((fun _ => none)) 28 (some (.row 9 1 ((xs.take i).map dAV))) }) (fun i => i ≤ xs.length ∧ ∀ j q, j < i → xs[j]? = some q → -1000000000000 ≤ q ∧ q ≤ 1000000000000) (fun i => xs.length - i) 0 ?_ ?_ ?_
      · exact ⟨Nat.zero_le _, fun j u hj => by omega⟩
      · refine Sub.trans (sub_move 3 14 28 rfl rfl rfl (by decide)) ?_
        refine sub_weak ?_ ?_
        · exact weakH_row (rowEq (rfl)) (weakH_none _)
        · refine weakE_upd ?e17 ?r17 (weakE_upd ?e16 ?r16 (weakE_upd ?e15 ?r15 (weakE_upd ?e3 ?r3 (weakE_junk _ _))))
          case e3 => first | rfl | exact fI (by omega) | (first | rfl | (rw [hst]; exact ownEq (by simp)))
          case r3 => intro h hh; simp [refs] at hh; subst hh; rfl
          case e15 => first | rfl | exact fI (by omega) | (simp_all)
          case r15 => intro h hh; cases hh
          case e16 => first | rfl | exact fI (by omega) | (simp_all)
          case r16 => intro h hh; cases hh
          case e17 => first | rfl | exact fI (by omega) | (simp_all)
          case r17 => intro h hh; cases hh
      · rintro i ⟨hI, hJ⟩
        refine good_seq fun K15 hK15 => ?_
        refine good_region rfl ?_
        refine ev_q rfl (q_int rfl rfl ?_)
        intro b16 hb16; cases b16
        · replace hb16 := dF hb16
          obtain rfl : i = xs.length := by omega
          have hall : ∀ x ∈ xs, -1000000000000 ≤ x ∧ x ≤ 1000000000000 := fun x hx => by obtain ⟨j, hj⟩ := List.getElem?_of_mem hx; exact hJ j x (List.getElem?_eq_some_iff.1 hj).1 hj
          have hfl : fitsL xs := ⟨by omega, hall⟩
          have hne : xs ≠ [] := fun e => by have e2 := congrArg List.length e; rw [List.length_nil] at e2; omega
          refine ev_nil (hK15 _ ?_); clear hK15
          refine good_seq fun K17 hK17 => ?_
          refine good_condF rfl ?_
          refine good_exit ?_
          repeat (first | refine thenQ_exit ?_ | refine blockQ_pass rfl ?_)
          refine blockQ_exit (hK12 _ ?_); clear hK12
          refine good_seq fun K18 hK18 => ?_
          refine good_region rfl ?_
          refine ev_q rfl (q_move (by conv => lhs; whnf) ?_)
          refine ev_q rfl (q_call rfl rfl (by change ([.lst 1 (List.take (List.take xs.length xs).length ((List.take xs.length xs).map dAV)), .s (.string ⟨#[44]⟩)] : List AV) = _; simp only [takeMap, List.take_length]) (D_joinI xs (by omega) (fun x hx => by have := hall x hx; exact ⟨by omega, by omega⟩)) rfl ?_)
          refine ev_q rfl (q_assign (by conv => lhs; whnf) ?_)
          refine ev_nil (hK18 _ ?_); clear hK18
          refine good_ret ?_
          repeat (first | refine thenQ_ret ?_ | refine blockQ_ret ?_)
          refine ret_tmp (st := _) rfl (by conv => lhs; whnf) rfl ?_
          clear hK17
          first | exact fS (lt_no hnf).symm | exact fS (by subst h0; exact lt_0.symm) | exact fS (lt_ok hfl hne).symm
        · replace hb16 := dT hb16
          obtain ⟨q, hq⟩ := getL (xs := xs) (n := (i : Int)) (by omega) (by omega)
          replace hq : xs[i]? = some q := hq
          have hst := takeS hq
          refine ev_nil (hK15 _ ?_); clear hK15
          refine good_seq fun K19 hK19 => ?_
          refine good_condT rfl ?_
          refine good_skip (hK19 _ ?_); clear hK19
          refine good_seq fun K20 hK20 => ?_
          refine good_block ?_
          refine good_seq fun K21 hK21 => ?_
          refine good_region rfl ?_
          refine ev_q rfl (q_idx tE69 rfl rfl (by exact Int.natCast_nonneg _) (by exact map_get hq) rfl ?_)
          refine ev_q rfl (q_load tA2 rfl ?_)
          refine ev_q rfl (q_assign (by conv => lhs; whnf) ?_)
          refine ev_nil (hK21 _ ?_); clear hK21
          refine good_seq fun K22 hK22 => ?_
          refine good_seq fun K23 hK23 => ?_
          refine good_region rfl ?_
          refine ev_q rfl (q_move (by conv => lhs; whnf) ?_)
          refine ev_q rfl (q_callB rfl rfl (rfl) (D_impl_within ..) ?_)
          intro b24 hb24; cases b24
          · first | replace hb24 := dF hb24 | skip
            have hnf : ¬ fitsL xs := fun h => by have := h.2 q (List.mem_of_getElem? hq); omega
            refine ev_q rfl (q_not rfl rfl ?_)
            refine ev_nil (hK23 _ ?_); clear hK23
            refine good_condT rfl ?_
            refine good_seq fun K25 hK25 => ?_
            refine good_region rfl ?_
            refine ev_q rfl (q_assign (by conv => lhs; whnf) ?_)
            refine ev_nil (hK25 _ ?_); clear hK25
            refine good_ret ?_
            repeat (first | refine thenQ_ret ?_ | refine blockQ_ret ?_)
            refine ret_tmp (st := _) rfl (by conv => lhs; whnf) rfl ?_
            clear hK12 hK20 hK22
            first | exact fS (lt_no hnf).symm | exact fS (by subst h0; exact lt_0.symm) | exact fS (lt_ok hfl hne).symm
          · first | replace hb24 := dT hb24 | skip
            have hqb := hb24
            refine ev_q rfl (q_not rfl rfl ?_)
            refine ev_nil (hK23 _ ?_); clear hK23
            refine good_condF rfl ?_
            refine good_skip (hK22 _ ?_); clear hK22
            refine good_region rfl ?_
            refine ev_q rfl (q_move (by conv => lhs; whnf) ?_)
            refine ev_q rfl (q_move (by conv => lhs; whnf) ?_)
            refine ev_q rfl (q_call rfl rfl (rfl) (D_impl_Decimal q ⟨by omega, by omega⟩) rfl ?_)
            refine ev_k rfl (k_lit tE86 zA9 rfl rfl (by decide) (by decide) rfl rfl rfl ?_)
            refine ev_k rfl (k_app tApp86 rfl rfl (by simp) rfl (.inr rfl) (by simp [maxLen]; omega) (by simp; omega) ?_)
            refine ev_q rfl (q_assign (by conv => lhs; whnf) ?_)
            refine ev_nil (hK20 _ ?_); clear hK20
            refine good_region rfl ?_
            refine ev_q rfl (q_int rfl rfl ?_)
            intro n26 hn26
            replace hn26 := in64 hn26 (by omega) (by omega)
            refine ev_q rfl (q_move (by conv => lhs; whnf) ?_)
            refine ev_nil ?_
            clear hK12
            refine ⟨i + 1, ?_, ?_, ?_⟩
            · exact ⟨by omega, all_extI (Q := fun _ (q : Int) => -1000000000000 ≤ q ∧ q ≤ 1000000000000) hJ hq hqb⟩
            · first | omega | (simp only []; omega) | (dsimp only; omega)
            · refine sub_weak ?_ ?_
              · exact weakH_row (rowEq (appG hst rfl)) (weakH_none _)
              · refine weakE_upd ?e17 ?r17 (weakE_upd ?e16 ?r16 (weakE_upd ?e15 ?r15 (weakE_upd ?e3 ?r3 (weakE_junk _ _))))
                case e3 => first | rfl | exact fI (by omega) | (first | rfl | (rw [hst]; exact ownEq (by simp)))
                case r3 => intro h hh; simp [refs] at hh; subst hh; rfl
                case e15 => first | rfl | exact fI (by omega) | (simp_all)
                case r15 => intro h hh; cases hh
                case e16 => first | rfl | exact fI (by omega) | (simp_all)
                case r16 => intro h hh; cases hh
                case e17 => first | rfl | exact fI (by omega) | (simp_all)
                case r17 => intro h hh; cases hh
    · replace hb9 := eqT hb9
      have h0 : xs = [] := List.eq_nil_of_length_eq_zero (by omega)
      refine ev_nil (hK7 _ ?_); clear hK7
      refine good_condT rfl ?_
      refine good_seq fun K27 hK27 => ?_
      refine good_region rfl ?_
      refine ev_q rfl (q_assign (by conv => lhs; whnf) ?_)
      refine ev_nil (hK27 _ ?_); clear hK27
      refine good_ret ?_
      repeat (first | refine thenQ_ret ?_ | refine blockQ_ret ?_)
      refine ret_tmp (st := _) rfl (by conv => lhs; whnf) rfl ?_
      clear hK6
      first | exact fS (lt_no hnf).symm | exact fS (by subst h0; exact lt_0.symm) | exact fS (lt_ok hfl hne).symm
  · replace hb5 := dT hb5
    have hnf : ¬ fitsL xs := fun h => by have := h.1; omega
    refine ev_nil (hK3 _ ?_); clear hK3
    refine good_condT rfl ?_
    refine good_seq fun K28 hK28 => ?_
    refine good_region rfl ?_
    refine ev_q rfl (q_assign (by conv => lhs; whnf) ?_)
    refine ev_nil (hK28 _ ?_); clear hK28
    refine good_ret ?_
    repeat (first | refine thenQ_ret ?_ | refine blockQ_ret ?_)
    refine ret_tmp (st := _) rfl (by conv => lhs; whnf) rfl ?_
    clear hK2
    first | exact fS (lt_no hnf).symm | exact fS (by subst h0; exact lt_0.symm) | exact fS (lt_ok hfl hne).symm

-- spec.l01Dec
set_option maxRecDepth 20000 in
set_option maxHeartbeats 2000000 in
theorem D_spec_l01Dec (n : Int) (h : inI n) : Den Tryd.prog 92 [.s (.int .i64 n)] (.s (.string (dec n))) := by
  have hr : -9223372036854775808 ≤ n ∧ n ≤ 9223372036854775807 := h
  refine den_of_good Tryd.func92 (by decide) rfl (Nat.le_of_ble_eq_true rfl) (Nat.le_of_ble_eq_true rfl) ?_
  refine good_seq fun K1 hK1 => ?_
  refine good_region rfl ?_
  refine ev_q rfl (q_assign (by conv => lhs; whnf) ?_)
  refine ev_nil (hK1 _ ?_); clear hK1
  refine good_seq fun K2 hK2 => ?_
  refine good_seq fun K3 hK3 => ?_
  refine good_region rfl ?_
  refine ev_q rfl (q_move (by conv => lhs; whnf) ?_)
  refine ev_q rfl (q_int rfl rfl ?_)
  intro b4 hb4; cases b4
  · replace hb4 := eqF hb4
    refine ev_nil (hK3 _ ?_); clear hK3
    refine good_condF rfl ?_
    refine good_skip (hK2 _ ?_); clear hK2
    refine good_seq fun K5 hK5 => ?_
    refine good_region rfl ?_
    refine ev_k rfl (k_lit tE61 zA5 rfl rfl (by decide) (by decide) rfl rfl rfl ?_)
    refine ev_q rfl (q_assign (by conv => lhs; whnf) ?_)
    refine ev_nil (hK5 _ ?_); clear hK5
    refine good_seq fun K6 hK6 => ?_
    refine good_seq fun K7 hK7 => ?_
    refine good_region rfl ?_
    refine ev_q rfl (q_move (by conv => lhs; whnf) ?_)
    refine ev_q rfl (q_assign (by conv => lhs; whnf) ?_)
    refine ev_nil (hK7 _ ?_); clear hK7
    refine good_block ?_
    refine good_loop (α := Int × List Int) (fun (m, L) => { env := upd (upd (upd ((fun _ => .junk)) 0 (.s (.int .i64 n))) 3 (.own 27 L.length)) 4 (.s (.int .i64 m)), H := upd ((fun _ => none)) 27 (some (.row 5 1 (L.map u8A))) }) (fun (m, L) => decI n m L) (fun (m, L) => m.natAbs) (n, []) ?_ ?_ ?_
    · exact decI_0 (by omega)
    · refine Sub.trans (sub_move 3 10 27 rfl rfl rfl (by decide)) ?_
      refine sub_weak ?_ ?_
      · exact weakH_row (rowEq (rfl)) (weakH_none _)
      · refine weakE_upd ?e4 ?r4 (weakE_upd ?e3 ?r3 (weakE_upd ?e0 ?r0 (weakE_junk _ _)))
        case e0 => first | rfl | exact fI (by omega) | (simp_all)
        case r0 => intro h hh; cases hh
        case e3 => first | rfl | exact fI (by omega) | (first | rfl | exact ownEq (by simp))
        case r3 => intro h hh; simp [refs] at hh; subst hh; rfl
        case e4 => first | rfl | exact fI (by omega) | (rfl)
        case r4 => intro h hh; cases hh
    · rintro ⟨m, L⟩ hI
      refine good_seq fun K8 hK8 => ?_
      refine good_seq fun K9 hK9 => ?_
      refine good_region rfl ?_
      refine ev_q rfl (q_move (by conv => lhs; whnf) ?_)
      refine ev_q rfl (q_int rfl rfl ?_)
      intro b10 hb10; cases b10
      · replace hb10 := neF hb10
        obtain rfl : m = 0 := by omega
        have hlen := decI_len hI hr
        refine ev_nil (hK9 _ ?_); clear hK9
        refine good_condF rfl ?_
        refine good_exit ?_
        repeat (first | refine thenQ_exit ?_ | refine blockQ_pass rfl ?_)
        refine blockQ_exit (hK6 _ ?_); clear hK6
        refine good_seq fun K11 hK11 => ?_
        refine good_seq fun K12 hK12 => ?_
        refine good_region rfl ?_
        refine ev_q rfl (q_move (by conv => lhs; whnf) ?_)
        refine ev_q rfl (q_int rfl rfl ?_)
        intro b13 hb13; cases b13
        · replace hb13 := dF hb13
          have eL : decL n L = L := if_neg (by omega)
          have hdl := decL_len (n := n) (L := L)
          refine ev_nil (hK12 _ ?_); clear hK12
          refine good_condF rfl ?_
          refine good_skip (hK11 _ ?_); clear hK11
          refine good_seq fun K14 hK14 => ?_
          first | refine good_weak (sub_move 3 27 900001 rfl rfl rfl (by decide)) ?_ | refine good_weak (sub_move 3 32 900001 rfl rfl rfl (by decide)) ?_
          refine good_region rfl ?_
          refine ev_k rfl (k_lit tE61 zA5 rfl rfl (by decide) (by decide) rfl rfl rfl ?_)
          refine ev_q rfl (q_assign (by conv => lhs; whnf) ?_)
          refine ev_nil (hK14 _ ?_); clear hK14
          refine good_seq fun K15 hK15 => ?_
          refine good_seq fun K16 hK16 => ?_
          refine good_region rfl ?_
          refine ev_q rfl (q_move (by conv => lhs; whnf) ?_)
          refine ev_q rfl (q_len tEs61 rfl ?_)
          intro n17 hn17
          try simp only [List.length_map] at hn17
          try simp at hn17
          refine ev_q rfl (q_int rfl rfl ?_)
          intro n18 hn18
          replace hn18 := in64 hn18 (by omega) (by omega)
          refine ev_q rfl (q_assign (by conv => lhs; whnf) ?_)
          refine ev_nil (hK16 _ ?_); clear hK16
          refine good_block ?_
          refine good_loop (α := Nat) (fun i => { env := upd (upd (upd ((fun _ => .junk)) 3 (.own 900001 (decL n L).length)) 6 (.own 47 (revT (decL n L) i).length)) 7 (.s (.int .i64 ((i : Int) - 1))), H := upd (upd ((fun _ => none)) 47 (some (.row 5 1 ((revT (decL n L) i).map u8A)))) 900001 (some (.row 5 1 ((decL n L).map u8A))) }) (fun i => i ≤ (decL n L).length) (fun i => i) (decL n L).length ?_ ?_ ?_
          · exact Nat.le_refl _
          · refine Sub.trans (sub_move 6 33 47 rfl rfl rfl (by decide)) ?_
            refine sub_weak ?_ ?_
            · exact weakH_row (rowEq (by rw [eL]; first | done | rfl | exact appG rfl rfl)) (weakH_row (rowEq (by rw [revT_0]; rfl)) (weakH_none _))
            · refine weakE_upd ?e7 ?r7 (weakE_upd ?e6 ?r6 (weakE_upd ?e3 ?r3 (weakE_junk _ _)))
              case e3 => first | rfl | exact fI (by omega) | (first | rfl | exact ownEq (by rw [eL]; first | done | rfl | simp))
              case r3 => intro h hh; simp [refs] at hh; subst hh; rfl
              case e6 => first | rfl | exact fI (by omega) | (first | exact ownEq (by rw [revT_0]; rfl) | (rw [hst]; exact ownEq (by simp)))
              case r6 => intro h hh; simp [refs] at hh; subst hh; rfl
              case e7 => first | rfl | exact fI (by omega) | (exact fI (by rw [eL]; first | omega | (simp; done) | (simp; omega)))
              case r7 => intro h hh; cases hh
          · rintro i hJ
            refine good_seq fun K19 hK19 => ?_
            refine good_seq fun K20 hK20 => ?_
            refine good_region rfl ?_
            refine ev_q rfl (q_move (by conv => lhs; whnf) ?_)
            refine ev_q rfl (q_int rfl rfl ?_)
            intro b21 hb21; cases b21
            · replace hb21 := dF hb21
              obtain rfl : i = 0 := by omega
              refine ev_nil (hK20 _ ?_); clear hK20
              refine good_condF rfl ?_
              refine good_exit ?_
              repeat (first | refine thenQ_exit ?_ | refine blockQ_pass rfl ?_)
              refine blockQ_exit (hK15 _ ?_); clear hK15
              refine good_seq fun K22 hK22 => ?_
              refine good_region rfl ?_
              refine ev_q rfl (q_move (by conv => lhs; whnf) ?_)
              refine ev_q rfl (q_txtO tByS61 tStr9 rfl rfl (by exact u8s_take rfl) ?_)
              intro s23 hs23
              have htx := hs23
              refine ev_q rfl (q_assign (by conv => lhs; whnf) ?_)
              refine ev_nil (hK22 _ ?_); clear hK22
              refine good_ret ?_
              repeat (first | refine thenQ_ret ?_ | refine blockQ_ret ?_)
              refine ret_tmp (st := _) rfl (by conv => lhs; whnf) rfl ?_
              clear hK8 hK19
              first | exact fS dec_0 | (have h0 : n = 0 := (by omega); subst h0; exact fS dec_0) | exact fS (by rw [htx, revT_e, dec_end hI]; exact dec_son rfl)
            · replace hb21 := dT hb21
              have hrl := revT_len (L := (decL n L)) (i := i)
              obtain ⟨q, hq⟩ := getL (xs := (decL n L)) (n := (i : Int) - 1) (by omega) (by omega)
              have hst : revT (decL n L) (i - 1) = revT (decL n L) i ++ [q] := by have e := revT_s (L := (decL n L)) (i := i - 1) (q := q) (by rw [← hq]; congr 1; omega); rw [e, show i - 1 + 1 = i by omega]
              refine ev_nil (hK20 _ ?_); clear hK20
              refine good_condT rfl ?_
              refine good_skip (hK19 _ ?_); clear hK19
              refine good_seq fun K24 hK24 => ?_
              refine good_block ?_
              refine good_region rfl ?_
              refine ev_q rfl (q_move (by conv => lhs; whnf) ?_)
              refine ev_q rfl (q_move (by conv => lhs; whnf) ?_)
              refine ev_q rfl (q_move (by conv => lhs; whnf) ?_)
              refine ev_q rfl (q_idxO tE61 rfl rfl rfl (by omega) (by omega) rfl ?_)
              refine ev_q rfl (q_loadE tA5 rfl rfl (by exact map_get hq) rfl ?_)
              refine ev_k rfl (k_lit tE61 zA5 rfl rfl (by decide) (by decide) rfl rfl rfl ?_)
              refine ev_k rfl (k_app tApp61 rfl rfl (by simp) rfl (.inr rfl) (by first | (simp [maxLen]; done) | (simp [maxLen]; omega)) (by first | (simp; done) | (simp; omega)) ?_)
              refine ev_q rfl (q_assign (by conv => lhs; whnf) ?_)
              refine ev_nil (hK24 _ ?_); clear hK24
              refine good_region rfl ?_
              refine ev_q rfl (q_move (by conv => lhs; whnf) ?_)
              refine ev_q rfl (q_int rfl rfl ?_)
              intro n25 hn25
              replace hn25 := in64 hn25 (by omega) (by omega)
              refine ev_q rfl (q_assign (by conv => lhs; whnf) ?_)
              refine ev_nil ?_
              clear hK8 hK15
              refine ⟨i - 1, ?_, ?_, ?_⟩
              · show _ - 1 ≤ _; omega
              · show i - 1 < i; omega
              · refine sub_weak ?_ ?_
                · exact weakH_row (rowEq (rfl)) (weakH_row (rowEq (appG hst rfl)) (weakH_none _))
                · refine weakE_upd ?e7 ?r7 (weakE_upd ?e6 ?r6 (weakE_upd ?e3 ?r3 (weakE_junk _ _)))
                  case e3 => first | rfl | exact fI (by omega) | (first | rfl | exact ownEq (by rw [eL]; first | done | rfl | simp))
                  case r3 => intro h hh; simp [refs] at hh; subst hh; rfl
                  case e6 => first | rfl | exact fI (by omega) | (first | exact ownEq (by rw [revT_0]; rfl) | (rw [hst]; exact ownEq (by simp)))
                  case r6 => intro h hh; simp [refs] at hh; subst hh; rfl
                  case e7 => first | rfl | exact fI (by omega) | (exact fI (by rw [eL]; first | omega | (simp; done) | (simp; omega)))
                  case r7 => intro h hh; cases hh
        · replace hb13 := dT hb13
          have eL : decL n L = L ++ [45] := if_pos (by omega)
          have hdl := decL_len (n := n) (L := L)
          refine ev_nil (hK12 _ ?_); clear hK12
          refine good_condT rfl ?_
          refine good_region rfl ?_
          refine ev_q rfl (q_move (by conv => lhs; whnf) ?_)
          refine ev_k rfl (k_lit tE61 zA5 rfl rfl (by decide) (by decide) rfl rfl rfl ?_)
          refine ev_k rfl (k_app tApp61 rfl rfl (by simp) rfl (.inl rfl) (by first | (simp [maxLen]; done) | (simp [maxLen]; omega)) (by first | (simp; done) | (simp; omega)) ?_)
          refine ev_q rfl (q_assign (by conv => lhs; whnf) ?_)
          refine ev_nil (hK11 _ ?_); clear hK11
          refine good_seq fun K26 hK26 => ?_
          first | refine good_weak (sub_move 3 27 900001 rfl rfl rfl (by decide)) ?_ | refine good_weak (sub_move 3 32 900001 rfl rfl rfl (by decide)) ?_
          refine good_region rfl ?_
          refine ev_k rfl (k_lit tE61 zA5 rfl rfl (by decide) (by decide) rfl rfl rfl ?_)
          refine ev_q rfl (q_assign (by conv => lhs; whnf) ?_)
          refine ev_nil (hK26 _ ?_); clear hK26
          refine good_seq fun K27 hK27 => ?_
          refine good_seq fun K28 hK28 => ?_
          refine good_region rfl ?_
          refine ev_q rfl (q_move (by conv => lhs; whnf) ?_)
          refine ev_q rfl (q_len tEs61 rfl ?_)
          intro n29 hn29
          try simp only [List.length_map] at hn29
          try simp at hn29
          refine ev_q rfl (q_int rfl rfl ?_)
          intro n30 hn30
          replace hn30 := in64 hn30 (by omega) (by omega)
          refine ev_q rfl (q_assign (by conv => lhs; whnf) ?_)
          refine ev_nil (hK28 _ ?_); clear hK28
          refine good_block ?_
          refine good_loop (α := Nat) (fun i => { env := upd (upd (upd ((fun _ => .junk)) 3 (.own 900001 (decL n L).length)) 6 (.own 47 (revT (decL n L) i).length)) 7 (.s (.int .i64 ((i : Int) - 1))), H := upd (upd ((fun _ => none)) 47 (some (.row 5 1 ((revT (decL n L) i).map u8A)))) 900001 (some (.row 5 1 ((decL n L).map u8A))) }) (fun i => i ≤ (decL n L).length) (fun i => i) (decL n L).length ?_ ?_ ?_
          · exact Nat.le_refl _
          · refine Sub.trans (sub_move 6 33 47 rfl rfl rfl (by decide)) ?_
            refine sub_weak ?_ ?_
            · exact weakH_row (rowEq (by rw [eL]; first | done | rfl | exact appG rfl rfl)) (weakH_row (rowEq (by rw [revT_0]; rfl)) (weakH_none _))
            · refine weakE_upd ?e7 ?r7 (weakE_upd ?e6 ?r6 (weakE_upd ?e3 ?r3 (weakE_junk _ _)))
              case e3 => first | rfl | exact fI (by omega) | (first | rfl | exact ownEq (by rw [eL]; first | done | rfl | simp))
              case r3 => intro h hh; simp [refs] at hh; subst hh; rfl
              case e6 => first | rfl | exact fI (by omega) | (first | exact ownEq (by rw [revT_0]; rfl) | (rw [hst]; exact ownEq (by simp)))
              case r6 => intro h hh; simp [refs] at hh; subst hh; rfl
              case e7 => first | rfl | exact fI (by omega) | (exact fI (by rw [eL]; first | omega | (simp; done) | (simp; omega)))
              case r7 => intro h hh; cases hh
          · rintro i hJ
            refine good_seq fun K31 hK31 => ?_
            refine good_seq fun K32 hK32 => ?_
            refine good_region rfl ?_
            refine ev_q rfl (q_move (by conv => lhs; whnf) ?_)
            refine ev_q rfl (q_int rfl rfl ?_)
            intro b33 hb33; cases b33
            · replace hb33 := dF hb33
              obtain rfl : i = 0 := by omega
              refine ev_nil (hK32 _ ?_); clear hK32
              refine good_condF rfl ?_
              refine good_exit ?_
              repeat (first | refine thenQ_exit ?_ | refine blockQ_pass rfl ?_)
              refine blockQ_exit (hK27 _ ?_); clear hK27
              refine good_seq fun K34 hK34 => ?_
              refine good_region rfl ?_
              refine ev_q rfl (q_move (by conv => lhs; whnf) ?_)
              refine ev_q rfl (q_txtO tByS61 tStr9 rfl rfl (by exact u8s_take rfl) ?_)
              intro s35 hs35
              have htx := hs35
              refine ev_q rfl (q_assign (by conv => lhs; whnf) ?_)
              refine ev_nil (hK34 _ ?_); clear hK34
              refine good_ret ?_
              repeat (first | refine thenQ_ret ?_ | refine blockQ_ret ?_)
              refine ret_tmp (st := _) rfl (by conv => lhs; whnf) rfl ?_
              clear hK8 hK31
              first | exact fS dec_0 | (have h0 : n = 0 := (by omega); subst h0; exact fS dec_0) | exact fS (by rw [htx, revT_e, dec_end hI]; exact dec_son rfl)
            · replace hb33 := dT hb33
              have hrl := revT_len (L := (decL n L)) (i := i)
              obtain ⟨q, hq⟩ := getL (xs := (decL n L)) (n := (i : Int) - 1) (by omega) (by omega)
              have hst : revT (decL n L) (i - 1) = revT (decL n L) i ++ [q] := by have e := revT_s (L := (decL n L)) (i := i - 1) (q := q) (by rw [← hq]; congr 1; omega); rw [e, show i - 1 + 1 = i by omega]
              refine ev_nil (hK32 _ ?_); clear hK32
              refine good_condT rfl ?_
              refine good_skip (hK31 _ ?_); clear hK31
              refine good_seq fun K36 hK36 => ?_
              refine good_block ?_
              refine good_region rfl ?_
              refine ev_q rfl (q_move (by conv => lhs; whnf) ?_)
              refine ev_q rfl (q_move (by conv => lhs; whnf) ?_)
              refine ev_q rfl (q_move (by conv => lhs; whnf) ?_)
              refine ev_q rfl (q_idxO tE61 rfl rfl rfl (by omega) (by omega) rfl ?_)
              refine ev_q rfl (q_loadE tA5 rfl rfl (by exact map_get hq) rfl ?_)
              refine ev_k rfl (k_lit tE61 zA5 rfl rfl (by decide) (by decide) rfl rfl rfl ?_)
              refine ev_k rfl (k_app tApp61 rfl rfl (by simp) rfl (.inr rfl) (by first | (simp [maxLen]; done) | (simp [maxLen]; omega)) (by first | (simp; done) | (simp; omega)) ?_)
              refine ev_q rfl (q_assign (by conv => lhs; whnf) ?_)
              refine ev_nil (hK36 _ ?_); clear hK36
              refine good_region rfl ?_
              refine ev_q rfl (q_move (by conv => lhs; whnf) ?_)
              refine ev_q rfl (q_int rfl rfl ?_)
              intro n37 hn37
              replace hn37 := in64 hn37 (by omega) (by omega)
              refine ev_q rfl (q_assign (by conv => lhs; whnf) ?_)
              refine ev_nil ?_
              clear hK8 hK27
              refine ⟨i - 1, ?_, ?_, ?_⟩
              · show _ - 1 ≤ _; omega
              · show i - 1 < i; omega
              · refine sub_weak ?_ ?_
                · exact weakH_row (rowEq (rfl)) (weakH_row (rowEq (appG hst rfl)) (weakH_none _))
                · refine weakE_upd ?e7 ?r7 (weakE_upd ?e6 ?r6 (weakE_upd ?e3 ?r3 (weakE_junk _ _)))
                  case e3 => first | rfl | exact fI (by omega) | (first | rfl | exact ownEq (by rw [eL]; first | done | rfl | simp))
                  case r3 => intro h hh; simp [refs] at hh; subst hh; rfl
                  case e6 => first | rfl | exact fI (by omega) | (first | exact ownEq (by rw [revT_0]; rfl) | (rw [hst]; exact ownEq (by simp)))
                  case r6 => intro h hh; simp [refs] at hh; subst hh; rfl
                  case e7 => first | rfl | exact fI (by omega) | (exact fI (by rw [eL]; first | omega | (simp; done) | (simp; omega)))
                  case r7 => intro h hh; cases hh
      · replace hb10 := neT hb10
        have hlen := decI_len hI hr
        have hmr : -9223372036854775808 ≤ m ∧ m ≤ 9223372036854775807 := by have h1 := hI.1; have h2 := hI.2.1; omega
        refine ev_nil (hK9 _ ?_); clear hK9
        refine good_condT rfl ?_
        refine good_skip (hK8 _ ?_); clear hK8
        refine good_seq fun K38 hK38 => ?_
        refine good_block ?_
        refine good_seq fun K39 hK39 => ?_
        refine good_region rfl ?_
        refine ev_q rfl (q_move (by conv => lhs; whnf) ?_)
        refine ev_q rfl (q_int rfl rfl ⟨by omega, ?_⟩)
        intro n40 hn40
        have hb17 := tmodB hn40
        have h17 := hn40
        refine ev_q rfl (q_assign (by conv => lhs; whnf) ?_)
        refine ev_nil (hK39 _ ?_); clear hK39
        refine good_seq fun K41 hK41 => ?_
        refine good_seq fun K42 hK42 => ?_
        refine good_region rfl ?_
        refine ev_q rfl (q_move (by conv => lhs; whnf) ?_)
        refine ev_q rfl (q_int rfl rfl ?_)
        intro b43 hb43; cases b43
        · replace hb43 := dF hb43
          refine ev_nil (hK42 _ ?_); clear hK42
          refine good_condF rfl ?_
          refine good_skip (hK41 _ ?_); clear hK41
          refine good_region rfl ?_
          refine ev_q rfl (q_move (by conv => lhs; whnf) ?_)
          refine ev_q rfl (q_move (by conv => lhs; whnf) ?_)
          refine ev_q rfl (q_int rfl rfl ?_)
          intro n44 hn44
          replace hn44 := in64 hn44 (by omega) (by omega)
          refine ev_q rfl (q_conv tK2 tK5 rfl ?_)
          intro n45 hn45
          replace hn45 := u8w hn45 (by omega) (by omega)
          have hd25 := absT h17 (b := n45 - 48) (by omega)
          refine ev_k rfl (k_lit tE61 zA5 rfl rfl (by decide) (by decide) rfl rfl rfl ?_)
          refine ev_k rfl (k_app tApp61 rfl rfl (by simp) rfl (.inr rfl) (by first | (simp [maxLen]; done) | (simp [maxLen]; omega)) (by first | (simp; done) | (simp; omega)) ?_)
          refine ev_q rfl (q_assign (by conv => lhs; whnf) ?_)
          refine ev_nil (hK38 _ ?_); clear hK38
          refine good_region rfl ?_
          refine ev_q rfl (q_move (by conv => lhs; whnf) ?_)
          refine ev_q rfl (q_int rfl rfl ⟨by omega, ?_⟩)
          intro n46 hn46
          replace hn46 := quo10 hn46 (by omega) (by omega)
          have hmu := tdivA hn46 (by omega)
          refine ev_q rfl (q_assign (by conv => lhs; whnf) ?_)
          refine ev_nil ?_
          clear hK6
          refine ⟨(n46, L ++ [n45]), ?_, ?_, ?_⟩
          · exact decI_s hI (by omega) hn46 (by omega)
          · exact hmu
          · refine sub_weak ?_ ?_
            · exact weakH_row (rowEq (appG rfl rfl)) (weakH_none _)
            · refine weakE_upd ?e4 ?r4 (weakE_upd ?e3 ?r3 (weakE_upd ?e0 ?r0 (weakE_junk _ _)))
              case e0 => first | rfl | exact fI (by omega) | (simp_all)
              case r0 => intro h hh; cases hh
              case e3 => first | rfl | exact fI (by omega) | (first | rfl | exact ownEq (by simp))
              case r3 => intro h hh; simp [refs] at hh; subst hh; rfl
              case e4 => first | rfl | exact fI (by omega) | (rfl)
              case r4 => intro h hh; cases hh
        · replace hb43 := dT hb43
          refine ev_nil (hK42 _ ?_); clear hK42
          refine good_condT rfl ?_
          refine good_region rfl ?_
          refine ev_q rfl (q_move (by conv => lhs; whnf) ?_)
          refine ev_q rfl (q_neg rfl ?_)
          intro n47 hn47
          replace hn47 := neg64 hn47 (by omega) (by omega)
          refine ev_q rfl (q_assign (by conv => lhs; whnf) ?_)
          refine ev_nil (hK41 _ ?_); clear hK41
          refine good_region rfl ?_
          refine ev_q rfl (q_move (by conv => lhs; whnf) ?_)
          refine ev_q rfl (q_move (by conv => lhs; whnf) ?_)
          refine ev_q rfl (q_int rfl rfl ?_)
          intro n48 hn48
          replace hn48 := in64 hn48 (by omega) (by omega)
          refine ev_q rfl (q_conv tK2 tK5 rfl ?_)
          intro n49 hn49
          replace hn49 := u8w hn49 (by omega) (by omega)
          have hd25 := absT h17 (b := n49 - 48) (by omega)
          refine ev_k rfl (k_lit tE61 zA5 rfl rfl (by decide) (by decide) rfl rfl rfl ?_)
          refine ev_k rfl (k_app tApp61 rfl rfl (by simp) rfl (.inr rfl) (by first | (simp [maxLen]; done) | (simp [maxLen]; omega)) (by first | (simp; done) | (simp; omega)) ?_)
          refine ev_q rfl (q_assign (by conv => lhs; whnf) ?_)
          refine ev_nil (hK38 _ ?_); clear hK38
          refine good_region rfl ?_
          refine ev_q rfl (q_move (by conv => lhs; whnf) ?_)
          refine ev_q rfl (q_int rfl rfl ⟨by omega, ?_⟩)
          intro n50 hn50
          replace hn50 := quo10 hn50 (by omega) (by omega)
          have hmu := tdivA hn50 (by omega)
          refine ev_q rfl (q_assign (by conv => lhs; whnf) ?_)
          refine ev_nil ?_
          clear hK6
          refine ⟨(n50, L ++ [n49]), ?_, ?_, ?_⟩
          · exact decI_s hI (by omega) hn50 (by omega)
          · exact hmu
          · refine sub_weak ?_ ?_
            · exact weakH_row (rowEq (appG rfl rfl)) (weakH_none _)
            · refine weakE_upd ?e4 ?r4 (weakE_upd ?e3 ?r3 (weakE_upd ?e0 ?r0 (weakE_junk _ _)))
              case e0 => first | rfl | exact fI (by omega) | (simp_all)
              case r0 => intro h hh; cases hh
              case e3 => first | rfl | exact fI (by omega) | (first | rfl | exact ownEq (by simp))
              case r3 => intro h hh; simp [refs] at hh; subst hh; rfl
              case e4 => first | rfl | exact fI (by omega) | (rfl)
              case r4 => intro h hh; cases hh
  · replace hb4 := eqT hb4
    refine ev_nil (hK3 _ ?_); clear hK3
    refine good_condT rfl ?_
    refine good_seq fun K51 hK51 => ?_
    refine good_region rfl ?_
    refine ev_q rfl (q_assign (by conv => lhs; whnf) ?_)
    refine ev_nil (hK51 _ ?_); clear hK51
    refine good_ret ?_
    repeat (first | refine thenQ_ret ?_ | refine blockQ_ret ?_)
    refine ret_tmp (st := _) rfl (by conv => lhs; whnf) rfl ?_
    clear hK2
    first | exact fS dec_0 | (have h0 : n = 0 := (by omega); subst h0; exact fS dec_0) | exact fS (by rw [htx, revT_e, dec_end hI]; exact dec_son rfl)

-- spec.l01List
set_option maxRecDepth 20000 in
set_option maxHeartbeats 2000000 in
theorem D_spec_l01List (xs : List Int) (hx : xs.length ≤ 1000000) (hi : ∀ x ∈ xs, inI x) : Den Tryd.prog 89 [.lst 1 (xs.map ci)] (.s (.string (if xs = [] then tx [45] else tx (ltx xs)))) := by
  refine den_of_good Tryd.func89 (by decide) rfl (Nat.le_of_ble_eq_true rfl) (Nat.le_of_ble_eq_true rfl) ?_
  refine good_seq fun K1 hK1 => ?_
  refine good_region rfl ?_
  refine ev_q rfl (q_assign (by conv => lhs; whnf) ?_)
  refine ev_nil (hK1 _ ?_); clear hK1
  refine good_seq fun K2 hK2 => ?_
  refine good_seq fun K3 hK3 => ?_
  refine good_region rfl ?_
  refine ev_q rfl (q_move (by conv => lhs; whnf) ?_)
  refine ev_q rfl (q_len tEs69 rfl ?_)
  intro n4 hn4
  try simp only [List.length_map] at hn4
  refine ev_q rfl (q_int rfl rfl ?_)
  intro b5 hb5; cases b5
  · replace hb5 := eqF hb5
    have hne : xs ≠ [] := fun e => by have e2 := congrArg List.length e; rw [List.length_nil] at e2; omega
    refine ev_nil (hK3 _ ?_); clear hK3
    refine good_condF rfl ?_
    refine good_skip (hK2 _ ?_); clear hK2
    refine good_seq fun K6 hK6 => ?_
    refine good_region rfl ?_
    refine ev_q rfl (q_assign (by conv => lhs; whnf) ?_)
    refine ev_nil (hK6 _ ?_); clear hK6
    refine good_seq fun K7 hK7 => ?_
    refine good_seq fun K8 hK8 => ?_
    refine good_region rfl ?_
    refine ev_q rfl (q_assign (by conv => lhs; whnf) ?_)
    refine ev_nil (hK8 _ ?_); clear hK8
    refine good_block ?_
    refine good_loop (α := Nat) (fun i => { env := upd (upd (upd ((fun _ => .junk)) 0 (.lst 1 (xs.map ci))) 3 (.s (.string (tx (ltx (xs.take i)))))) 4 (.s (.int .i64 i)), H := fun _ => none }) (fun i => i ≤ xs.length) (fun i => xs.length - i) 0 ?_ ?_ ?_
    · show 0 ≤ _; omega
    · refine sub_weak ?_ ?_
      · exact weakH_none _
      · refine weakE_upd ?e4 ?r4 (weakE_upd ?e3 ?r3 (weakE_upd ?e0 ?r0 (weakE_junk _ _)))
        case e0 => first | rfl | exact fI (by omega) | (simp_all)
        case r0 => intro h hh; cases hh
        case e3 => first | rfl | exact fI (by omega) | (first | rfl | exact fS hst | exact fS hst.symm)
        case r3 => intro h hh; cases hh
        case e4 => first | rfl | exact fI (by omega) | (simp_all)
        case r4 => intro h hh; cases hh
    · rintro i hI
      refine good_seq fun K9 hK9 => ?_
      refine good_seq fun K10 hK10 => ?_
      refine good_region rfl ?_
      refine ev_q rfl (q_move (by conv => lhs; whnf) ?_)
      refine ev_q rfl (q_move (by conv => lhs; whnf) ?_)
      refine ev_q rfl (q_len tEs69 rfl ?_)
      intro n11 hn11
      try simp only [List.length_map] at hn11
      refine ev_q rfl (q_int rfl rfl ?_)
      intro b12 hb12; cases b12
      · replace hb12 := dF hb12
        obtain rfl : i = xs.length := by omega
        refine ev_nil (hK10 _ ?_); clear hK10
        refine good_condF rfl ?_
        refine good_exit ?_
        repeat (first | refine thenQ_exit ?_ | refine blockQ_pass rfl ?_)
        refine blockQ_exit (hK7 _ ?_); clear hK7
        refine good_seq fun K13 hK13 => ?_
        refine good_region rfl ?_
        refine ev_q rfl (q_move (by conv => lhs; whnf) ?_)
        refine ev_q rfl (q_assign (by conv => lhs; whnf) ?_)
        refine ev_nil (hK13 _ ?_); clear hK13
        refine good_ret ?_
        repeat (first | refine thenQ_ret ?_ | refine blockQ_ret ?_)
        refine ret_tmp (st := _) rfl (by conv => lhs; whnf) rfl ?_
        clear hK9
        first | exact fS (by rw [if_pos h0]; rfl) | exact fS (by rw [if_neg hne, List.take_length])
      · replace hb12 := dT hb12
        obtain ⟨q, hq⟩ := getL (xs := xs) (n := (i : Int)) (by omega) (by omega)
        replace hq : xs[i]? = some q := hq
        have hl := ltx_len hi (i := i) (by omega)
        have hqI := hi q (List.mem_of_getElem? hq)
        have hds := dec_size hqI.1 hqI.2
        refine ev_nil (hK10 _ ?_); clear hK10
        refine good_condT rfl ?_
        refine good_skip (hK9 _ ?_); clear hK9
        refine good_seq fun K14 hK14 => ?_
        refine good_block ?_
        refine good_seq fun K15 hK15 => ?_
        refine good_seq fun K16 hK16 => ?_
        refine good_region rfl ?_
        refine ev_q rfl (q_move (by conv => lhs; whnf) ?_)
        refine ev_q rfl (q_int rfl rfl ?_)
        intro b17 hb17; cases b17
        · replace hb17 := dF hb17
          refine ev_nil (hK16 _ ?_); clear hK16
          refine good_condF rfl ?_
          refine good_skip (hK15 _ ?_); clear hK15
          refine good_region rfl ?_
          refine ev_q rfl (q_move (by conv => lhs; whnf) ?_)
          refine ev_q rfl (q_move (by conv => lhs; whnf) ?_)
          refine ev_q rfl (q_move (by conv => lhs; whnf) ?_)
          refine ev_q rfl (q_idx tE69 rfl rfl (by exact Int.natCast_nonneg _) (by exact map_get hq) rfl ?_)
          refine ev_q rfl (q_load tA2 rfl ?_)
          refine ev_q rfl (q_call rfl rfl (rfl) (D_spec_l01Dec q hqI) rfl ?_)
          refine ev_q rfl (q_str rfl rfl ⟨by first | omega | (rw [tx_size]; omega), ?_⟩)
          intro s18 hs18
          first | have hst := ltx_s2 hq (by omega) h17 hs18 | have hst := ltx_s1 hq (by omega) hs18
          refine ev_q rfl (q_assign (by conv => lhs; whnf) ?_)
          refine ev_nil (hK14 _ ?_); clear hK14
          refine good_region rfl ?_
          refine ev_q rfl (q_move (by conv => lhs; whnf) ?_)
          refine ev_q rfl (q_int rfl rfl ?_)
          intro n19 hn19
          replace hn19 := in64 hn19 (by omega) (by omega)
          refine ev_q rfl (q_assign (by conv => lhs; whnf) ?_)
          refine ev_nil ?_
          clear hK7
          refine ⟨i + 1, ?_, ?_, ?_⟩
          · show _ ≤ _; omega
          · first | omega | (simp only []; omega) | (dsimp only; omega)
          · refine sub_weak ?_ ?_
            · exact weakH_none _
            · refine weakE_upd ?e4 ?r4 (weakE_upd ?e3 ?r3 (weakE_upd ?e0 ?r0 (weakE_junk _ _)))
              case e0 => first | rfl | exact fI (by omega) | (simp_all)
              case r0 => intro h hh; cases hh
              case e3 => first | rfl | exact fI (by omega) | (first | rfl | exact fS hst | exact fS hst.symm)
              case r3 => intro h hh; cases hh
              case e4 => first | rfl | exact fI (by omega) | (simp_all)
              case r4 => intro h hh; cases hh
        · replace hb17 := dT hb17
          refine ev_nil (hK16 _ ?_); clear hK16
          refine good_condT rfl ?_
          refine good_region rfl ?_
          refine ev_q rfl (q_move (by conv => lhs; whnf) ?_)
          refine ev_q rfl (q_str rfl rfl ⟨by rw [tx_size, show (⟨#[44]⟩ : ByteArray).size = 1 from rfl]; omega, ?_⟩)
          intro s20 hs20
          have h17 := hs20
          have hz17 := sz_app hs20
          rw [tx_size, show (⟨#[44]⟩ : ByteArray).size = 1 from rfl] at hz17
          refine ev_q rfl (q_assign (by conv => lhs; whnf) ?_)
          refine ev_nil (hK15 _ ?_); clear hK15
          refine good_region rfl ?_
          refine ev_q rfl (q_move (by conv => lhs; whnf) ?_)
          refine ev_q rfl (q_move (by conv => lhs; whnf) ?_)
          refine ev_q rfl (q_move (by conv => lhs; whnf) ?_)
          refine ev_q rfl (q_idx tE69 rfl rfl (by exact Int.natCast_nonneg _) (by exact map_get hq) rfl ?_)
          refine ev_q rfl (q_load tA2 rfl ?_)
          refine ev_q rfl (q_call rfl rfl (rfl) (D_spec_l01Dec q hqI) rfl ?_)
          refine ev_q rfl (q_str rfl rfl ⟨by first | omega | (rw [tx_size]; omega), ?_⟩)
          intro s21 hs21
          first | have hst := ltx_s2 hq (by omega) h17 hs21 | have hst := ltx_s1 hq (by omega) hs21
          refine ev_q rfl (q_assign (by conv => lhs; whnf) ?_)
          refine ev_nil (hK14 _ ?_); clear hK14
          refine good_region rfl ?_
          refine ev_q rfl (q_move (by conv => lhs; whnf) ?_)
          refine ev_q rfl (q_int rfl rfl ?_)
          intro n22 hn22
          replace hn22 := in64 hn22 (by omega) (by omega)
          refine ev_q rfl (q_assign (by conv => lhs; whnf) ?_)
          refine ev_nil ?_
          clear hK7
          refine ⟨i + 1, ?_, ?_, ?_⟩
          · show _ ≤ _; omega
          · first | omega | (simp only []; omega) | (dsimp only; omega)
          · refine sub_weak ?_ ?_
            · exact weakH_none _
            · refine weakE_upd ?e4 ?r4 (weakE_upd ?e3 ?r3 (weakE_upd ?e0 ?r0 (weakE_junk _ _)))
              case e0 => first | rfl | exact fI (by omega) | (simp_all)
              case r0 => intro h hh; cases hh
              case e3 => first | rfl | exact fI (by omega) | (first | rfl | exact fS hst | exact fS hst.symm)
              case r3 => intro h hh; cases hh
              case e4 => first | rfl | exact fI (by omega) | (simp_all)
              case r4 => intro h hh; cases hh
  · replace hb5 := eqT hb5
    have h0 : xs = [] := List.eq_nil_of_length_eq_zero (by omega)
    refine ev_nil (hK3 _ ?_); clear hK3
    refine good_condT rfl ?_
    refine good_seq fun K23 hK23 => ?_
    refine good_region rfl ?_
    refine ev_q rfl (q_assign (by conv => lhs; whnf) ?_)
    refine ev_nil (hK23 _ ?_); clear hK23
    refine good_ret ?_
    repeat (first | refine thenQ_ret ?_ | refine blockQ_ret ?_)
    refine ret_tmp (st := _) rfl (by conv => lhs; whnf) rfl ?_
    clear hK2
    first | exact fS (by rw [if_pos h0]; rfl) | exact fS (by rw [if_neg hne, List.take_length])

-- spec.l01Small
set_option maxRecDepth 20000 in
set_option maxHeartbeats 2000000 in
theorem D_spec_l01Small (u : UInt8)  : Den Tryd.prog 119 [.s (.int .u8 u.toNat)] (.s (.bool (small u))) := by
  refine den_of_good Tryd.func119 (by decide) rfl (Nat.le_of_ble_eq_true rfl) (Nat.le_of_ble_eq_true rfl) ?_
  refine good_seq fun K1 hK1 => ?_
  refine good_region rfl ?_
  refine ev_q rfl (q_assign (by conv => lhs; whnf) ?_)
  refine ev_nil (hK1 _ ?_); clear hK1
  refine good_seq fun K2 hK2 => ?_
  refine good_region rfl ?_
  refine ev_q rfl (q_move (by conv => lhs; whnf) ?_)
  refine ev_q rfl (q_int rfl rfl ?_)
  intro b3 hb3; cases b3
  · replace hb3 := dF hb3
    refine ev_q rfl (q_move (by conv => lhs; whnf) ?_)
    refine ev_skip rfl ?_
    refine ev_skip rfl ?_
    refine ev_q rfl (q_pickF rfl (by conv => lhs; whnf) ?_)
    refine ev_q rfl (q_assign (by conv => lhs; whnf) ?_)
    refine ev_nil (hK2 _ ?_); clear hK2
    refine good_ret ?_
    repeat (first | refine thenQ_ret ?_ | refine blockQ_ret ?_)
    refine ret_tmp (st := _) rfl (by conv => lhs; whnf) rfl ?_
    exact fB (by simp only [small]; grind)
  · replace hb3 := dT hb3
    refine ev_q rfl (q_move (by conv => lhs; whnf) ?_)
    refine ev_q rfl (q_move (by conv => lhs; whnf) ?_)
    refine ev_q rfl (q_int rfl rfl ?_)
    intro b4 hb4; cases b4
    · replace hb4 := dF hb4
      refine ev_q rfl (q_pickT rfl (by conv => lhs; whnf) ?_)
      refine ev_q rfl (q_assign (by conv => lhs; whnf) ?_)
      refine ev_nil (hK2 _ ?_); clear hK2
      refine good_ret ?_
      repeat (first | refine thenQ_ret ?_ | refine blockQ_ret ?_)
      refine ret_tmp (st := _) rfl (by conv => lhs; whnf) rfl ?_
      exact fB (by simp only [small]; grind)
    · replace hb4 := dT hb4
      refine ev_q rfl (q_pickT rfl (by conv => lhs; whnf) ?_)
      refine ev_q rfl (q_assign (by conv => lhs; whnf) ?_)
      refine ev_nil (hK2 _ ?_); clear hK2
      refine good_ret ?_
      repeat (first | refine thenQ_ret ?_ | refine blockQ_ret ?_)
      refine ret_tmp (st := _) rfl (by conv => lhs; whnf) rfl ?_
      exact fB (by simp only [small]; grind)

-- spec.l01Digit
set_option maxRecDepth 20000 in
set_option maxHeartbeats 2000000 in
theorem D_spec_l01Digit (u : UInt8)  : Den Tryd.prog 120 [.s (.int .u8 u.toNat)] (.s (.bool (digit u))) := by
  refine den_of_good Tryd.func120 (by decide) rfl (Nat.le_of_ble_eq_true rfl) (Nat.le_of_ble_eq_true rfl) ?_
  refine good_seq fun K1 hK1 => ?_
  refine good_region rfl ?_
  refine ev_q rfl (q_assign (by conv => lhs; whnf) ?_)
  refine ev_nil (hK1 _ ?_); clear hK1
  refine good_seq fun K2 hK2 => ?_
  refine good_region rfl ?_
  refine ev_q rfl (q_move (by conv => lhs; whnf) ?_)
  refine ev_q rfl (q_int rfl rfl ?_)
  intro b3 hb3; cases b3
  · replace hb3 := dF hb3
    refine ev_q rfl (q_move (by conv => lhs; whnf) ?_)
    refine ev_skip rfl ?_
    refine ev_skip rfl ?_
    refine ev_q rfl (q_pickF rfl (by conv => lhs; whnf) ?_)
    refine ev_q rfl (q_assign (by conv => lhs; whnf) ?_)
    refine ev_nil (hK2 _ ?_); clear hK2
    refine good_ret ?_
    repeat (first | refine thenQ_ret ?_ | refine blockQ_ret ?_)
    refine ret_tmp (st := _) rfl (by conv => lhs; whnf) rfl ?_
    exact fB (by simp only [digit]; grind)
  · replace hb3 := dT hb3
    refine ev_q rfl (q_move (by conv => lhs; whnf) ?_)
    refine ev_q rfl (q_move (by conv => lhs; whnf) ?_)
    refine ev_q rfl (q_int rfl rfl ?_)
    intro b4 hb4; cases b4
    · replace hb4 := dF hb4
      refine ev_q rfl (q_pickT rfl (by conv => lhs; whnf) ?_)
      refine ev_q rfl (q_assign (by conv => lhs; whnf) ?_)
      refine ev_nil (hK2 _ ?_); clear hK2
      refine good_ret ?_
      repeat (first | refine thenQ_ret ?_ | refine blockQ_ret ?_)
      refine ret_tmp (st := _) rfl (by conv => lhs; whnf) rfl ?_
      exact fB (by simp only [digit]; grind)
    · replace hb4 := dT hb4
      refine ev_q rfl (q_pickT rfl (by conv => lhs; whnf) ?_)
      refine ev_q rfl (q_assign (by conv => lhs; whnf) ?_)
      refine ev_nil (hK2 _ ?_); clear hK2
      refine good_ret ?_
      repeat (first | refine thenQ_ret ?_ | refine blockQ_ret ?_)
      refine ret_tmp (st := _) rfl (by conv => lhs; whnf) rfl ?_
      exact fB (by simp only [digit]; grind)

-- impl.onlyNameBytes
set_option maxRecDepth 20000 in
set_option maxHeartbeats 2000000 in
theorem D_impl_onlyNameBytes (s : ByteArray) (hs : s.size ≤ 140737488351232) : Den Tryd.prog 121 [.s (.string s)] (.s (.bool (allNb s))) := by
  refine den_of_good Tryd.func121 (by decide) rfl (Nat.le_of_ble_eq_true rfl) (Nat.le_of_ble_eq_true rfl) ?_
  refine good_seq fun K1 hK1 => ?_
  refine good_region rfl ?_
  refine ev_q rfl (q_assign (by conv => lhs; whnf) ?_)
  refine ev_nil (hK1 _ ?_); clear hK1
  refine good_seq fun K2 hK2 => ?_
  refine good_seq fun K3 hK3 => ?_
  refine good_region rfl ?_
  refine ev_q rfl (q_move (by conv => lhs; whnf) ?_)
  refine ev_q rfl (q_lenS tStr9 rfl ?_)
  intro n4 hn4
  refine ev_q rfl (q_move (by conv => lhs; whnf) ?_)
  refine ev_nil (hK3 _ ?_); clear hK3
  refine good_block ?_
  refine good_loop (α := Nat) (fun i => { env := upd (upd (upd ((fun _ => .junk)) 0 (.s (.string s))) 6 (.s (.int .i64 (s.size)))) 7 (.s (.int .i64 i)), H := fun _ => none }) (fun i => i ≤ s.size ∧ ∀ j u, j < i → s[j]? = some u → nbc u = true) (fun i => s.size - i) 0 ?_ ?_ ?_
  · exact ⟨by omega, fun j u hj => by omega⟩
  · refine sub_weak ?_ ?_
    · exact weakH_none _
    · refine weakE_upd ?e7 ?r7 (weakE_upd ?e6 ?r6 (weakE_upd ?e0 ?r0 (weakE_junk _ _)))
      case e0 => first | rfl | exact fI (by omega) | (simp_all)
      case r0 => intro h hh; cases hh
      case e6 => first | rfl | exact fI (by omega) | (simp_all)
      case r6 => intro h hh; cases hh
      case e7 => first | rfl | exact fI (by omega) | (simp_all)
      case r7 => intro h hh; cases hh
  · rintro i ⟨hI, hJ⟩
    refine good_seq fun K5 hK5 => ?_
    refine good_region rfl ?_
    refine ev_q rfl (q_int rfl rfl ?_)
    intro b6 hb6; cases b6
    · replace hb6 := dF hb6
      refine ev_nil (hK5 _ ?_); clear hK5
      refine good_seq fun K7 hK7 => ?_
      refine good_condF rfl ?_
      refine good_exit ?_
      repeat (first | refine thenQ_exit ?_ | refine blockQ_pass rfl ?_)
      refine blockQ_exit (hK2 _ ?_); clear hK2
      refine good_seq fun K8 hK8 => ?_
      refine good_region rfl ?_
      refine ev_q rfl (q_assign (by conv => lhs; whnf) ?_)
      refine ev_nil (hK8 _ ?_); clear hK8
      refine good_ret ?_
      repeat (first | refine thenQ_ret ?_ | refine blockQ_ret ?_)
      refine ret_tmp (st := _) rfl (by conv => lhs; whnf) rfl ?_
      clear hK7
      first | exact fB (allNb_T (fun j u hj => hJ j u (by omega))).symm | exact fB (allNb_F hu (by simp only [nbc, small, digit]; grind)).symm
    · replace hb6 := dT hb6
      obtain ⟨u, hu⟩ := getB (s := s) (i := i) (by omega)
      refine ev_nil (hK5 _ ?_); clear hK5
      refine good_seq fun K9 hK9 => ?_
      refine good_condT rfl ?_
      refine good_skip (hK9 _ ?_); clear hK9
      refine good_seq fun K10 hK10 => ?_
      refine good_block ?_
      refine good_seq fun K11 hK11 => ?_
      refine good_region rfl ?_
      refine ev_q rfl (q_move (by conv => lhs; whnf) ?_)
      refine ev_q rfl (q_assign (by conv => lhs; whnf) ?_)
      refine ev_nil (hK11 _ ?_); clear hK11
      refine good_seq fun K12 hK12 => ?_
      refine good_region rfl ?_
      refine ev_q rfl (q_move (by conv => lhs; whnf) ?_)
      refine ev_q rfl (q_move (by conv => lhs; whnf) ?_)
      refine ev_q rfl (q_indexS tStr9 rfl rfl (by exact Int.natCast_nonneg _) (by exact hu) ?_)
      intro n13 hn13
      refine ev_q rfl (q_assign (by conv => lhs; whnf) ?_)
      refine ev_nil (hK12 _ ?_); clear hK12
      refine good_seq fun K14 hK14 => ?_
      refine good_region rfl ?_
      refine ev_q rfl (q_move (by conv => lhs; whnf) ?_)
      refine ev_q rfl (q_int rfl rfl ?_)
      intro b15 hb15; cases b15
      · replace hb15 := dF hb15
        refine ev_q rfl (q_move (by conv => lhs; whnf) ?_)
        refine ev_q rfl (q_move (by conv => lhs; whnf) ?_)
        refine ev_q rfl (q_int rfl rfl ?_)
        intro b16 hb16; cases b16
        · replace hb16 := dF hb16
          refine ev_q rfl (q_pickF rfl (by conv => lhs; whnf) ?_)
          refine ev_q rfl (q_move (by conv => lhs; whnf) ?_)
          refine ev_skip rfl ?_
          refine ev_skip rfl ?_
          refine ev_skip rfl ?_
          refine ev_skip rfl ?_
          refine ev_skip rfl ?_
          refine ev_skip rfl ?_
          refine ev_q rfl (q_pickF rfl (by conv => lhs; whnf) ?_)
          refine ev_nil (hK14 _ ?_); clear hK14
          refine good_condF rfl ?_
          refine good_skip (hK10 _ ?_); clear hK10
          refine good_region rfl ?_
          refine ev_q rfl (q_int rfl rfl ?_)
          intro n17 hn17
          replace hn17 := in64 hn17 (by omega) (by omega)
          refine ev_q rfl (q_move (by conv => lhs; whnf) ?_)
          refine ev_nil ?_
          clear hK2
          refine ⟨i + 1, ?_, ?_, ?_⟩
          · refine ⟨by omega, fun j v hj hv => ?_⟩
            by_cases hji : j = i
            · subst hji; rw [hu] at hv; cases hv; simp only [nbc, small, digit] at *; grind
            · exact hJ j v (by omega) hv
          · first | omega | (simp only []; omega) | (dsimp only; omega)
          · refine sub_weak ?_ ?_
            · exact weakH_none _
            · refine weakE_upd ?e7 ?r7 (weakE_upd ?e6 ?r6 (weakE_upd ?e0 ?r0 (weakE_junk _ _)))
              case e0 => first | rfl | exact fI (by omega) | (simp_all)
              case r0 => intro h hh; cases hh
              case e6 => first | rfl | exact fI (by omega) | (simp_all)
              case r6 => intro h hh; cases hh
              case e7 => first | rfl | exact fI (by omega) | (simp_all)
              case r7 => intro h hh; cases hh
        · replace hb16 := dT hb16
          refine ev_q rfl (q_pickF rfl (by conv => lhs; whnf) ?_)
          refine ev_q rfl (q_move (by conv => lhs; whnf) ?_)
          refine ev_q rfl (q_move (by conv => lhs; whnf) ?_)
          refine ev_q rfl (q_int rfl rfl ?_)
          intro b18 hb18; cases b18
          · replace hb18 := dF hb18
            refine ev_q rfl (q_move (by conv => lhs; whnf) ?_)
            refine ev_q rfl (q_move (by conv => lhs; whnf) ?_)
            refine ev_q rfl (q_int rfl rfl ?_)
            intro b19 hb19; cases b19
            · replace hb19 := dF hb19
              refine ev_q rfl (q_pickF rfl (by conv => lhs; whnf) ?_)
              refine ev_q rfl (q_pickT rfl (by conv => lhs; whnf) ?_)
              refine ev_nil (hK14 _ ?_); clear hK14
              refine good_condF rfl ?_
              refine good_skip (hK10 _ ?_); clear hK10
              refine good_region rfl ?_
              refine ev_q rfl (q_int rfl rfl ?_)
              intro n20 hn20
              replace hn20 := in64 hn20 (by omega) (by omega)
              refine ev_q rfl (q_move (by conv => lhs; whnf) ?_)
              refine ev_nil ?_
              clear hK2
              refine ⟨i + 1, ?_, ?_, ?_⟩
              · refine ⟨by omega, fun j v hj hv => ?_⟩
                by_cases hji : j = i
                · subst hji; rw [hu] at hv; cases hv; simp only [nbc, small, digit] at *; grind
                · exact hJ j v (by omega) hv
              · first | omega | (simp only []; omega) | (dsimp only; omega)
              · refine sub_weak ?_ ?_
                · exact weakH_none _
                · refine weakE_upd ?e7 ?r7 (weakE_upd ?e6 ?r6 (weakE_upd ?e0 ?r0 (weakE_junk _ _)))
                  case e0 => first | rfl | exact fI (by omega) | (simp_all)
                  case r0 => intro h hh; cases hh
                  case e6 => first | rfl | exact fI (by omega) | (simp_all)
                  case r6 => intro h hh; cases hh
                  case e7 => first | rfl | exact fI (by omega) | (simp_all)
                  case r7 => intro h hh; cases hh
            · replace hb19 := dT hb19
              refine ev_q rfl (q_pickF rfl (by conv => lhs; whnf) ?_)
              refine ev_q rfl (q_pickT rfl (by conv => lhs; whnf) ?_)
              refine ev_nil (hK14 _ ?_); clear hK14
              refine good_condT rfl ?_
              refine good_seq fun K21 hK21 => ?_
              refine good_region rfl ?_
              refine ev_q rfl (q_assign (by conv => lhs; whnf) ?_)
              refine ev_nil (hK21 _ ?_); clear hK21
              refine good_ret ?_
              repeat (first | refine thenQ_ret ?_ | refine blockQ_ret ?_)
              refine ret_tmp (st := _) rfl (by conv => lhs; whnf) rfl ?_
              clear hK2 hK10
              first | exact fB (allNb_T (fun j u hj => hJ j u (by omega))).symm | exact fB (allNb_F hu (by simp only [nbc, small, digit]; grind)).symm
          · replace hb18 := dT hb18
            refine ev_q rfl (q_move (by conv => lhs; whnf) ?_)
            refine ev_skip rfl ?_
            refine ev_skip rfl ?_
            refine ev_q rfl (q_pickT rfl (by conv => lhs; whnf) ?_)
            refine ev_q rfl (q_pickT rfl (by conv => lhs; whnf) ?_)
            refine ev_nil (hK14 _ ?_); clear hK14
            refine good_condT rfl ?_
            refine good_seq fun K22 hK22 => ?_
            refine good_region rfl ?_
            refine ev_q rfl (q_assign (by conv => lhs; whnf) ?_)
            refine ev_nil (hK22 _ ?_); clear hK22
            refine good_ret ?_
            repeat (first | refine thenQ_ret ?_ | refine blockQ_ret ?_)
            refine ret_tmp (st := _) rfl (by conv => lhs; whnf) rfl ?_
            clear hK2 hK10
            first | exact fB (allNb_T (fun j u hj => hJ j u (by omega))).symm | exact fB (allNb_F hu (by simp only [nbc, small, digit]; grind)).symm
      · replace hb15 := dT hb15
        refine ev_q rfl (q_move (by conv => lhs; whnf) ?_)
        refine ev_skip rfl ?_
        refine ev_skip rfl ?_
        refine ev_q rfl (q_pickT rfl (by conv => lhs; whnf) ?_)
        refine ev_q rfl (q_move (by conv => lhs; whnf) ?_)
        refine ev_q rfl (q_move (by conv => lhs; whnf) ?_)
        refine ev_q rfl (q_int rfl rfl ?_)
        intro b23 hb23; cases b23
        · replace hb23 := dF hb23
          refine ev_q rfl (q_move (by conv => lhs; whnf) ?_)
          refine ev_q rfl (q_move (by conv => lhs; whnf) ?_)
          refine ev_q rfl (q_int rfl rfl ?_)
          intro b24 hb24; cases b24
          · replace hb24 := dF hb24
            refine ev_q rfl (q_pickF rfl (by conv => lhs; whnf) ?_)
            refine ev_q rfl (q_pickT rfl (by conv => lhs; whnf) ?_)
            refine ev_nil (hK14 _ ?_); clear hK14
            refine good_condF rfl ?_
            refine good_skip (hK10 _ ?_); clear hK10
            refine good_region rfl ?_
            refine ev_q rfl (q_int rfl rfl ?_)
            intro n25 hn25
            replace hn25 := in64 hn25 (by omega) (by omega)
            refine ev_q rfl (q_move (by conv => lhs; whnf) ?_)
            refine ev_nil ?_
            clear hK2
            refine ⟨i + 1, ?_, ?_, ?_⟩
            · refine ⟨by omega, fun j v hj hv => ?_⟩
              by_cases hji : j = i
              · subst hji; rw [hu] at hv; cases hv; simp only [nbc, small, digit] at *; grind
              · exact hJ j v (by omega) hv
            · first | omega | (simp only []; omega) | (dsimp only; omega)
            · refine sub_weak ?_ ?_
              · exact weakH_none _
              · refine weakE_upd ?e7 ?r7 (weakE_upd ?e6 ?r6 (weakE_upd ?e0 ?r0 (weakE_junk _ _)))
                case e0 => first | rfl | exact fI (by omega) | (simp_all)
                case r0 => intro h hh; cases hh
                case e6 => first | rfl | exact fI (by omega) | (simp_all)
                case r6 => intro h hh; cases hh
                case e7 => first | rfl | exact fI (by omega) | (simp_all)
                case r7 => intro h hh; cases hh
          · replace hb24 := dT hb24
            refine ev_q rfl (q_pickF rfl (by conv => lhs; whnf) ?_)
            refine ev_q rfl (q_pickT rfl (by conv => lhs; whnf) ?_)
            refine ev_nil (hK14 _ ?_); clear hK14
            refine good_condT rfl ?_
            refine good_seq fun K26 hK26 => ?_
            refine good_region rfl ?_
            refine ev_q rfl (q_assign (by conv => lhs; whnf) ?_)
            refine ev_nil (hK26 _ ?_); clear hK26
            refine good_ret ?_
            repeat (first | refine thenQ_ret ?_ | refine blockQ_ret ?_)
            refine ret_tmp (st := _) rfl (by conv => lhs; whnf) rfl ?_
            clear hK2 hK10
            first | exact fB (allNb_T (fun j u hj => hJ j u (by omega))).symm | exact fB (allNb_F hu (by simp only [nbc, small, digit]; grind)).symm
        · replace hb23 := dT hb23
          refine ev_q rfl (q_move (by conv => lhs; whnf) ?_)
          refine ev_skip rfl ?_
          refine ev_skip rfl ?_
          refine ev_q rfl (q_pickT rfl (by conv => lhs; whnf) ?_)
          refine ev_q rfl (q_pickT rfl (by conv => lhs; whnf) ?_)
          refine ev_nil (hK14 _ ?_); clear hK14
          refine good_condT rfl ?_
          refine good_seq fun K27 hK27 => ?_
          refine good_region rfl ?_
          refine ev_q rfl (q_assign (by conv => lhs; whnf) ?_)
          refine ev_nil (hK27 _ ?_); clear hK27
          refine good_ret ?_
          repeat (first | refine thenQ_ret ?_ | refine blockQ_ret ?_)
          refine ret_tmp (st := _) rfl (by conv => lhs; whnf) rfl ?_
          clear hK2 hK10
          first | exact fB (allNb_T (fun j u hj => hJ j u (by omega))).symm | exact fB (allNb_F hu (by simp only [nbc, small, digit]; grind)).symm

-- impl.IsName
set_option maxRecDepth 20000 in
set_option maxHeartbeats 2000000 in
theorem D_impl_IsName (s : ByteArray) (hs : s.size ≤ 140737488351232) : Den Tryd.prog 100 [.s (.string s)] (.s (.bool (isName s))) := by
  refine den_of_good Tryd.func100 (by decide) rfl (Nat.le_of_ble_eq_true rfl) (Nat.le_of_ble_eq_true rfl) ?_
  refine good_seq fun K1 hK1 => ?_
  refine good_region rfl ?_
  refine ev_q rfl (q_assign (by conv => lhs; whnf) ?_)
  refine ev_nil (hK1 _ ?_); clear hK1
  refine good_seq fun K2 hK2 => ?_
  refine good_seq fun K3 hK3 => ?_
  refine good_region rfl ?_
  refine ev_q rfl (q_move (by conv => lhs; whnf) ?_)
  refine ev_q rfl (q_lenS tStr9 rfl ?_)
  intro n4 hn4
  refine ev_q rfl (q_int rfl rfl ?_)
  intro b5 hb5; cases b5
  · replace hb5 := dF hb5
    refine ev_q rfl (q_move (by conv => lhs; whnf) ?_)
    refine ev_q rfl (q_move (by conv => lhs; whnf) ?_)
    refine ev_q rfl (q_lenS tStr9 rfl ?_)
    intro n6 hn6
    refine ev_q rfl (q_int rfl rfl ?_)
    intro b7 hb7; cases b7
    · replace hb7 := dF hb7
      obtain ⟨u, hu⟩ := getB (s := s) (i := 0) (by omega)
      refine ev_q rfl (q_pickF rfl (by conv => lhs; whnf) ?_)
      refine ev_q rfl (q_move (by conv => lhs; whnf) ?_)
      refine ev_q rfl (q_move (by conv => lhs; whnf) ?_)
      refine ev_q rfl (q_indexS tStr9 rfl rfl (by decide) (by exact hu) ?_)
      intro n8 hn8
      refine ev_q rfl (q_int rfl rfl ?_)
      intro b9 hb9; cases b9
      · replace hb9 := dF hb9
        refine ev_q rfl (q_pickF rfl (by conv => lhs; whnf) ?_)
        refine ev_q rfl (q_move (by conv => lhs; whnf) ?_)
        refine ev_q rfl (q_move (by conv => lhs; whnf) ?_)
        refine ev_q rfl (q_indexS tStr9 rfl rfl (by decide) (by exact hu) ?_)
        intro n10 hn10
        refine ev_q rfl (q_int rfl rfl ?_)
        intro b11 hb11; cases b11
        · replace hb11 := dF hb11
          refine ev_q rfl (q_pickF rfl (by conv => lhs; whnf) ?_)
          refine ev_nil (hK3 _ ?_); clear hK3
          refine good_condF rfl ?_
          refine good_skip (hK2 _ ?_); clear hK2
          refine good_seq fun K12 hK12 => ?_
          refine good_region rfl ?_
          refine ev_q rfl (q_move (by conv => lhs; whnf) ?_)
          refine ev_q rfl (q_callB rfl rfl (rfl) (D_impl_onlyNameBytes _ hs) ?_)
          intro b13 hb13; cases b13
          · first | replace hb13 := dF hb13 | skip
            refine ev_q rfl (q_assign (by conv => lhs; whnf) ?_)
            refine ev_nil (hK12 _ ?_); clear hK12
            refine good_ret ?_
            repeat (first | refine thenQ_ret ?_ | refine blockQ_ret ?_)
            refine ret_tmp (st := _) rfl (by conv => lhs; whnf) rfl ?_
            first | exact fB (isName_none (by omega)).symm | exact fB (isName_long (by omega)).symm | exact fB (isName_head hu (by simp only [small]; grind)).symm | (exact fB (by rw [isName_eq (by omega) (by omega) hu (by simp only [small]; grind)]; grind))
          · first | replace hb13 := dT hb13 | skip
            refine ev_q rfl (q_assign (by conv => lhs; whnf) ?_)
            refine ev_nil (hK12 _ ?_); clear hK12
            refine good_ret ?_
            repeat (first | refine thenQ_ret ?_ | refine blockQ_ret ?_)
            refine ret_tmp (st := _) rfl (by conv => lhs; whnf) rfl ?_
            first | exact fB (isName_none (by omega)).symm | exact fB (isName_long (by omega)).symm | exact fB (isName_head hu (by simp only [small]; grind)).symm | (exact fB (by rw [isName_eq (by omega) (by omega) hu (by simp only [small]; grind)]; grind))
        · replace hb11 := dT hb11
          refine ev_q rfl (q_pickF rfl (by conv => lhs; whnf) ?_)
          refine ev_nil (hK3 _ ?_); clear hK3
          refine good_condT rfl ?_
          refine good_seq fun K14 hK14 => ?_
          refine good_region rfl ?_
          refine ev_q rfl (q_assign (by conv => lhs; whnf) ?_)
          refine ev_nil (hK14 _ ?_); clear hK14
          refine good_ret ?_
          repeat (first | refine thenQ_ret ?_ | refine blockQ_ret ?_)
          refine ret_tmp (st := _) rfl (by conv => lhs; whnf) rfl ?_
          clear hK2
          first | exact fB (isName_none (by omega)).symm | exact fB (isName_long (by omega)).symm | exact fB (isName_head hu (by simp only [small]; grind)).symm | (exact fB (by rw [isName_eq (by omega) (by omega) hu (by simp only [small]; grind)]; grind))
      · replace hb9 := dT hb9
        refine ev_q rfl (q_pickF rfl (by conv => lhs; whnf) ?_)
        refine ev_q rfl (q_move (by conv => lhs; whnf) ?_)
        refine ev_skip rfl ?_
        refine ev_skip rfl ?_
        refine ev_skip rfl ?_
        refine ev_q rfl (q_pickT rfl (by conv => lhs; whnf) ?_)
        refine ev_nil (hK3 _ ?_); clear hK3
        refine good_condT rfl ?_
        refine good_seq fun K15 hK15 => ?_
        refine good_region rfl ?_
        refine ev_q rfl (q_assign (by conv => lhs; whnf) ?_)
        refine ev_nil (hK15 _ ?_); clear hK15
        refine good_ret ?_
        repeat (first | refine thenQ_ret ?_ | refine blockQ_ret ?_)
        refine ret_tmp (st := _) rfl (by conv => lhs; whnf) rfl ?_
        clear hK2
        first | exact fB (isName_none (by omega)).symm | exact fB (isName_long (by omega)).symm | exact fB (isName_head hu (by simp only [small]; grind)).symm | (exact fB (by rw [isName_eq (by omega) (by omega) hu (by simp only [small]; grind)]; grind))
    · replace hb7 := dT hb7
      refine ev_q rfl (q_pickF rfl (by conv => lhs; whnf) ?_)
      refine ev_q rfl (q_move (by conv => lhs; whnf) ?_)
      refine ev_skip rfl ?_
      refine ev_skip rfl ?_
      refine ev_skip rfl ?_
      refine ev_q rfl (q_pickT rfl (by conv => lhs; whnf) ?_)
      refine ev_q rfl (q_move (by conv => lhs; whnf) ?_)
      refine ev_skip rfl ?_
      refine ev_skip rfl ?_
      refine ev_skip rfl ?_
      refine ev_q rfl (q_pickT rfl (by conv => lhs; whnf) ?_)
      refine ev_nil (hK3 _ ?_); clear hK3
      refine good_condT rfl ?_
      refine good_seq fun K16 hK16 => ?_
      refine good_region rfl ?_
      refine ev_q rfl (q_assign (by conv => lhs; whnf) ?_)
      refine ev_nil (hK16 _ ?_); clear hK16
      refine good_ret ?_
      repeat (first | refine thenQ_ret ?_ | refine blockQ_ret ?_)
      refine ret_tmp (st := _) rfl (by conv => lhs; whnf) rfl ?_
      clear hK2
      first | exact fB (isName_none (by omega)).symm | exact fB (isName_long (by omega)).symm | exact fB (isName_head hu (by simp only [small]; grind)).symm | (exact fB (by rw [isName_eq (by omega) (by omega) hu (by simp only [small]; grind)]; grind))
  · replace hb5 := dT hb5
    refine ev_q rfl (q_move (by conv => lhs; whnf) ?_)
    refine ev_skip rfl ?_
    refine ev_skip rfl ?_
    refine ev_skip rfl ?_
    refine ev_q rfl (q_pickT rfl (by conv => lhs; whnf) ?_)
    refine ev_q rfl (q_move (by conv => lhs; whnf) ?_)
    refine ev_skip rfl ?_
    refine ev_skip rfl ?_
    refine ev_skip rfl ?_
    refine ev_q rfl (q_pickT rfl (by conv => lhs; whnf) ?_)
    refine ev_q rfl (q_move (by conv => lhs; whnf) ?_)
    refine ev_skip rfl ?_
    refine ev_skip rfl ?_
    refine ev_skip rfl ?_
    refine ev_q rfl (q_pickT rfl (by conv => lhs; whnf) ?_)
    refine ev_nil (hK3 _ ?_); clear hK3
    refine good_condT rfl ?_
    refine good_seq fun K17 hK17 => ?_
    refine good_region rfl ?_
    refine ev_q rfl (q_assign (by conv => lhs; whnf) ?_)
    refine ev_nil (hK17 _ ?_); clear hK17
    refine good_ret ?_
    repeat (first | refine thenQ_ret ?_ | refine blockQ_ret ?_)
    refine ret_tmp (st := _) rfl (by conv => lhs; whnf) rfl ?_
    clear hK2
    first | exact fB (isName_none (by omega)).symm | exact fB (isName_long (by omega)).symm | exact fB (isName_head hu (by simp only [small]; grind)).symm | (exact fB (by rw [isName_eq (by omega) (by omega) hu (by simp only [small]; grind)]; grind))

-- spec.l01Name
set_option maxRecDepth 20000 in
set_option maxHeartbeats 2000000 in
theorem D_spec_l01Name (s : ByteArray) (hs : s.size ≤ 140737488351232) : Den Tryd.prog 98 [.s (.string s)] (.s (.bool (isName s))) := by
  refine den_of_good Tryd.func98 (by decide) rfl (Nat.le_of_ble_eq_true rfl) (Nat.le_of_ble_eq_true rfl) ?_
  refine good_seq fun K1 hK1 => ?_
  refine good_region rfl ?_
  refine ev_q rfl (q_assign (by conv => lhs; whnf) ?_)
  refine ev_nil (hK1 _ ?_); clear hK1
  refine good_seq fun K2 hK2 => ?_
  refine good_seq fun K3 hK3 => ?_
  refine good_region rfl ?_
  refine ev_q rfl (q_move (by conv => lhs; whnf) ?_)
  refine ev_q rfl (q_str rfl rfl ?_)
  intro b4 hb4; cases b4
  · replace hb4 := seF hb4
    have hz : 1 ≤ s.size := by
      apply Classical.byContradiction; intro hc; exact hb4 (size0 (by omega))
    refine ev_q rfl (q_move (by conv => lhs; whnf) ?_)
    refine ev_q rfl (q_move (by conv => lhs; whnf) ?_)
    refine ev_q rfl (q_lenS tStr9 rfl ?_)
    intro n5 hn5
    refine ev_q rfl (q_int rfl rfl ?_)
    intro b6 hb6; cases b6
    · replace hb6 := dF hb6
      obtain ⟨u0, hu0⟩ := getB (s := s) (i := 0) (by omega)
      refine ev_q rfl (q_pickF rfl (by conv => lhs; whnf) ?_)
      refine ev_q rfl (q_move (by conv => lhs; whnf) ?_)
      refine ev_q rfl (q_move (by conv => lhs; whnf) ?_)
      refine ev_q rfl (q_indexS tStr9 rfl rfl (by first | exact Int.natCast_nonneg _ | decide) (by first | exact hu0 | exact hu) ?_)
      intro n7 hn7
      subst hn7
      refine ev_q rfl (q_callB rfl rfl (rfl) (D_spec_l01Small ..) ?_)
      intro b8 hb8; cases b8
      · first | replace hb8 := dF hb8 | skip
        refine ev_q rfl (q_not rfl rfl ?_)
        refine ev_q rfl (q_pickF rfl (by conv => lhs; whnf) ?_)
        refine ev_nil (hK3 _ ?_); clear hK3
        refine good_condT rfl ?_
        refine good_seq fun K9 hK9 => ?_
        refine good_region rfl ?_
        refine ev_q rfl (q_assign (by conv => lhs; whnf) ?_)
        refine ev_nil (hK9 _ ?_); clear hK9
        refine good_ret ?_
        repeat (first | refine thenQ_ret ?_ | refine blockQ_ret ?_)
        refine ret_tmp (st := _) rfl (by conv => lhs; whnf) rfl ?_
        clear hK2
        first | exact fB (by rw [hb4]; rfl) | exact fB (isName_long (by omega)).symm | exact fB (isName_head hu0 (by simp only [small]; grind)).symm | exact fB (by rw [isName_eq (by omega) (by omega) hu0 (by simp only [small]; grind)]; exact (allNb_T (fun j u hj => hJ j u (by omega))).symm) | exact fB (by rw [isName_eq (by omega) (by omega) hu0 (by simp only [small]; grind)]; exact (allNb_F hu (by simp only [nbc, small, digit]; grind)).symm)
      · first | replace hb8 := dT hb8 | skip
        refine ev_q rfl (q_not rfl rfl ?_)
        refine ev_q rfl (q_pickF rfl (by conv => lhs; whnf) ?_)
        refine ev_nil (hK3 _ ?_); clear hK3
        refine good_condF rfl ?_
        refine good_skip (hK2 _ ?_); clear hK2
        refine good_seq fun K10 hK10 => ?_
        refine good_seq fun K11 hK11 => ?_
        refine good_region rfl ?_
        refine ev_q rfl (q_assign (by conv => lhs; whnf) ?_)
        refine ev_nil (hK11 _ ?_); clear hK11
        refine good_block ?_
        refine good_loop (α := Nat) (fun i => { env := upd (upd ((fun _ => .junk)) 0 (.s (.string s))) 3 (.s (.int .i64 i)), H := fun _ => none }) (fun i => i ≤ s.size ∧ ∀ j u, j < i → s[j]? = some u → nbc u = true) (fun i => s.size - i) 0 ?_ ?_ ?_
        · exact ⟨by omega, fun j u hj => by omega⟩
        · refine sub_weak ?_ ?_
          · exact weakH_none _
          · refine weakE_upd ?e3 ?r3 (weakE_upd ?e0 ?r0 (weakE_junk _ _))
            case e0 => first | rfl | exact fI (by omega) | (simp_all)
            case r0 => intro h hh; cases hh
            case e3 => first | rfl | exact fI (by omega) | (simp_all)
            case r3 => intro h hh; cases hh
        · rintro i ⟨hI, hJ⟩
          refine good_seq fun K12 hK12 => ?_
          refine good_seq fun K13 hK13 => ?_
          refine good_region rfl ?_
          refine ev_q rfl (q_move (by conv => lhs; whnf) ?_)
          refine ev_q rfl (q_move (by conv => lhs; whnf) ?_)
          refine ev_q rfl (q_lenS tStr9 rfl ?_)
          intro n14 hn14
          refine ev_q rfl (q_int rfl rfl ?_)
          intro b15 hb15; cases b15
          · replace hb15 := dF hb15
            refine ev_nil (hK13 _ ?_); clear hK13
            refine good_condF rfl ?_
            refine good_exit ?_
            repeat (first | refine thenQ_exit ?_ | refine blockQ_pass rfl ?_)
            refine blockQ_exit (hK10 _ ?_); clear hK10
            refine good_seq fun K16 hK16 => ?_
            refine good_region rfl ?_
            refine ev_q rfl (q_assign (by conv => lhs; whnf) ?_)
            refine ev_nil (hK16 _ ?_); clear hK16
            refine good_ret ?_
            repeat (first | refine thenQ_ret ?_ | refine blockQ_ret ?_)
            refine ret_tmp (st := _) rfl (by conv => lhs; whnf) rfl ?_
            clear hK12
            first | exact fB (by rw [hb4]; rfl) | exact fB (isName_long (by omega)).symm | exact fB (isName_head hu0 (by simp only [small]; grind)).symm | exact fB (by rw [isName_eq (by omega) (by omega) hu0 (by simp only [small]; grind)]; exact (allNb_T (fun j u hj => hJ j u (by omega))).symm) | exact fB (by rw [isName_eq (by omega) (by omega) hu0 (by simp only [small]; grind)]; exact (allNb_F hu (by simp only [nbc, small, digit]; grind)).symm)
          · replace hb15 := dT hb15
            obtain ⟨u, hu⟩ := getB (s := s) (i := i) (by omega)
            refine ev_nil (hK13 _ ?_); clear hK13
            refine good_condT rfl ?_
            refine good_skip (hK12 _ ?_); clear hK12
            refine good_seq fun K17 hK17 => ?_
            refine good_block ?_
            refine good_seq fun K18 hK18 => ?_
            refine good_region rfl ?_
            refine ev_q rfl (q_move (by conv => lhs; whnf) ?_)
            refine ev_q rfl (q_move (by conv => lhs; whnf) ?_)
            refine ev_q rfl (q_indexS tStr9 rfl rfl (by first | exact Int.natCast_nonneg _ | decide) (by first | exact hu0 | exact hu) ?_)
            intro n19 hn19
            subst hn19
            refine ev_q rfl (q_callB rfl rfl (rfl) (D_spec_l01Small ..) ?_)
            intro b20 hb20; cases b20
            · first | replace hb20 := dF hb20 | skip
              refine ev_q rfl (q_not rfl rfl ?_)
              refine ev_q rfl (q_move (by conv => lhs; whnf) ?_)
              refine ev_q rfl (q_move (by conv => lhs; whnf) ?_)
              refine ev_q rfl (q_move (by conv => lhs; whnf) ?_)
              refine ev_q rfl (q_indexS tStr9 rfl rfl (by first | exact Int.natCast_nonneg _ | decide) (by first | exact hu0 | exact hu) ?_)
              intro n21 hn21
              subst hn21
              refine ev_q rfl (q_callB rfl rfl (rfl) (D_spec_l01Digit ..) ?_)
              intro b22 hb22; cases b22
              · first | replace hb22 := dF hb22 | skip
                refine ev_q rfl (q_not rfl rfl ?_)
                refine ev_q rfl (q_pickT rfl (by conv => lhs; whnf) ?_)
                refine ev_nil (hK18 _ ?_); clear hK18
                refine good_condT rfl ?_
                refine good_seq fun K23 hK23 => ?_
                refine good_region rfl ?_
                refine ev_q rfl (q_assign (by conv => lhs; whnf) ?_)
                refine ev_nil (hK23 _ ?_); clear hK23
                refine good_ret ?_
                repeat (first | refine thenQ_ret ?_ | refine blockQ_ret ?_)
                refine ret_tmp (st := _) rfl (by conv => lhs; whnf) rfl ?_
                clear hK10 hK17
                first | exact fB (by rw [hb4]; rfl) | exact fB (isName_long (by omega)).symm | exact fB (isName_head hu0 (by simp only [small]; grind)).symm | exact fB (by rw [isName_eq (by omega) (by omega) hu0 (by simp only [small]; grind)]; exact (allNb_T (fun j u hj => hJ j u (by omega))).symm) | exact fB (by rw [isName_eq (by omega) (by omega) hu0 (by simp only [small]; grind)]; exact (allNb_F hu (by simp only [nbc, small, digit]; grind)).symm)
              · first | replace hb22 := dT hb22 | skip
                refine ev_q rfl (q_not rfl rfl ?_)
                refine ev_q rfl (q_pickT rfl (by conv => lhs; whnf) ?_)
                refine ev_nil (hK18 _ ?_); clear hK18
                refine good_condF rfl ?_
                refine good_skip (hK17 _ ?_); clear hK17
                refine good_region rfl ?_
                refine ev_q rfl (q_move (by conv => lhs; whnf) ?_)
                refine ev_q rfl (q_int rfl rfl ?_)
                intro n24 hn24
                replace hn24 := in64 hn24 (by omega) (by omega)
                refine ev_q rfl (q_assign (by conv => lhs; whnf) ?_)
                refine ev_nil ?_
                clear hK10
                refine ⟨i + 1, ?_, ?_, ?_⟩
                · refine ⟨by omega, fun j v hj hv => ?_⟩
                  by_cases hji : j = i
                  · subst hji; rw [hu] at hv; cases hv; simp only [nbc, small, digit] at *; grind
                  · exact hJ j v (by omega) hv
                · first | omega | (simp only []; omega) | (dsimp only; omega)
                · refine sub_weak ?_ ?_
                  · exact weakH_none _
                  · refine weakE_upd ?e3 ?r3 (weakE_upd ?e0 ?r0 (weakE_junk _ _))
                    case e0 => first | rfl | exact fI (by omega) | (simp_all)
                    case r0 => intro h hh; cases hh
                    case e3 => first | rfl | exact fI (by omega) | (simp_all)
                    case r3 => intro h hh; cases hh
            · first | replace hb20 := dT hb20 | skip
              refine ev_q rfl (q_not rfl rfl ?_)
              refine ev_q rfl (q_move (by conv => lhs; whnf) ?_)
              refine ev_skip rfl ?_
              refine ev_skip rfl ?_
              refine ev_skip rfl ?_
              refine ev_skip rfl ?_
              refine ev_skip rfl ?_
              refine ev_q rfl (q_pickF rfl (by conv => lhs; whnf) ?_)
              refine ev_nil (hK18 _ ?_); clear hK18
              refine good_condF rfl ?_
              refine good_skip (hK17 _ ?_); clear hK17
              refine good_region rfl ?_
              refine ev_q rfl (q_move (by conv => lhs; whnf) ?_)
              refine ev_q rfl (q_int rfl rfl ?_)
              intro n25 hn25
              replace hn25 := in64 hn25 (by omega) (by omega)
              refine ev_q rfl (q_assign (by conv => lhs; whnf) ?_)
              refine ev_nil ?_
              clear hK10
              refine ⟨i + 1, ?_, ?_, ?_⟩
              · refine ⟨by omega, fun j v hj hv => ?_⟩
                by_cases hji : j = i
                · subst hji; rw [hu] at hv; cases hv; simp only [nbc, small, digit] at *; grind
                · exact hJ j v (by omega) hv
              · first | omega | (simp only []; omega) | (dsimp only; omega)
              · refine sub_weak ?_ ?_
                · exact weakH_none _
                · refine weakE_upd ?e3 ?r3 (weakE_upd ?e0 ?r0 (weakE_junk _ _))
                  case e0 => first | rfl | exact fI (by omega) | (simp_all)
                  case r0 => intro h hh; cases hh
                  case e3 => first | rfl | exact fI (by omega) | (simp_all)
                  case r3 => intro h hh; cases hh
    · replace hb6 := dT hb6
      refine ev_q rfl (q_pickF rfl (by conv => lhs; whnf) ?_)
      refine ev_q rfl (q_move (by conv => lhs; whnf) ?_)
      refine ev_skip rfl ?_
      refine ev_skip rfl ?_
      refine ev_skip rfl ?_
      refine ev_skip rfl ?_
      refine ev_q rfl (q_pickT rfl (by conv => lhs; whnf) ?_)
      refine ev_nil (hK3 _ ?_); clear hK3
      refine good_condT rfl ?_
      refine good_seq fun K26 hK26 => ?_
      refine good_region rfl ?_
      refine ev_q rfl (q_assign (by conv => lhs; whnf) ?_)
      refine ev_nil (hK26 _ ?_); clear hK26
      refine good_ret ?_
      repeat (first | refine thenQ_ret ?_ | refine blockQ_ret ?_)
      refine ret_tmp (st := _) rfl (by conv => lhs; whnf) rfl ?_
      clear hK2
      first | exact fB (by rw [hb4]; rfl) | exact fB (isName_long (by omega)).symm | exact fB (isName_head hu0 (by simp only [small]; grind)).symm | exact fB (by rw [isName_eq (by omega) (by omega) hu0 (by simp only [small]; grind)]; exact (allNb_T (fun j u hj => hJ j u (by omega))).symm) | exact fB (by rw [isName_eq (by omega) (by omega) hu0 (by simp only [small]; grind)]; exact (allNb_F hu (by simp only [nbc, small, digit]; grind)).symm)
  · replace hb4 := seT hb4
    refine ev_q rfl (q_move (by conv => lhs; whnf) ?_)
    refine ev_skip rfl ?_
    refine ev_skip rfl ?_
    refine ev_skip rfl ?_
    refine ev_q rfl (q_pickT rfl (by conv => lhs; whnf) ?_)
    refine ev_q rfl (q_move (by conv => lhs; whnf) ?_)
    refine ev_skip rfl ?_
    refine ev_skip rfl ?_
    refine ev_skip rfl ?_
    refine ev_skip rfl ?_
    refine ev_q rfl (q_pickT rfl (by conv => lhs; whnf) ?_)
    refine ev_nil (hK3 _ ?_); clear hK3
    refine good_condT rfl ?_
    refine good_seq fun K27 hK27 => ?_
    refine good_region rfl ?_
    refine ev_q rfl (q_assign (by conv => lhs; whnf) ?_)
    refine ev_nil (hK27 _ ?_); clear hK27
    refine good_ret ?_
    repeat (first | refine thenQ_ret ?_ | refine blockQ_ret ?_)
    refine ret_tmp (st := _) rfl (by conv => lhs; whnf) rfl ?_
    clear hK2
    first | exact fB (by rw [hb4]; rfl) | exact fB (isName_long (by omega)).symm | exact fB (isName_head hu0 (by simp only [small]; grind)).symm | exact fB (by rw [isName_eq (by omega) (by omega) hu0 (by simp only [small]; grind)]; exact (allNb_T (fun j u hj => hJ j u (by omega))).symm) | exact fB (by rw [isName_eq (by omega) (by omega) hu0 (by simp only [small]; grind)]; exact (allNb_F hu (by simp only [nbc, small, digit]; grind)).symm)

-- laws.eqSubstation
set_option maxRecDepth 20000 in
set_option maxHeartbeats 2000000 in
theorem D_laws_eqSubstation (s : ByteArray) (nd tr su re : Int) (s2 : ByteArray) (nd2 tr2 su2 re2 : Int)  : Den Tryd.prog 37 [.agg [.s (.string s), .s (.int .i64 nd), .s (.int .i64 tr), .s (.int .i64 su), .s (.int .i64 re)], .agg [.s (.string s2), .s (.int .i64 nd2), .s (.int .i64 tr2), .s (.int .i64 su2), .s (.int .i64 re2)]] (.s (.bool (decide (s = s2 ∧ nd = nd2 ∧ tr = tr2 ∧ su = su2 ∧ re = re2)))) := by
  refine den_of_good Tryd.func37 (by decide) rfl (Nat.le_of_ble_eq_true rfl) (Nat.le_of_ble_eq_true rfl) ?_
  refine good_seq fun K1 hK1 => ?_
  refine good_region rfl ?_
  refine ev_k rfl (k_box (by conv => lhs; whnf) rfl rfl rfl ?_)
  refine ev_k rfl (k_box (by conv => lhs; whnf) rfl rfl rfl ?_)
  refine ev_q rfl (q_assign (by conv => lhs; whnf) ?_)
  refine ev_nil (hK1 _ ?_); clear hK1
  refine good_seq fun K2 hK2 => ?_
  refine good_seq fun K3 hK3 => ?_
  refine good_region rfl ?_
  refine ev_q rfl (q_fieldAddrP fO39_0 rfl rfl ?_)
  refine ev_q rfl (q_load tA9 rfl ?_)
  refine ev_q rfl (q_fieldAddrP fO39_0 rfl rfl ?_)
  refine ev_q rfl (q_load tA9 rfl ?_)
  refine ev_q rfl (q_str rfl rfl ?_)
  intro b4 hb4; cases b4
  · replace hb4 := snF hb4
    refine ev_nil (hK3 _ ?_); clear hK3
    refine good_condF rfl ?_
    refine good_skip (hK2 _ ?_); clear hK2
    refine good_seq fun K5 hK5 => ?_
    refine good_seq fun K6 hK6 => ?_
    refine good_region rfl ?_
    refine ev_q rfl (q_fieldAddrP fO39_1 rfl rfl ?_)
    refine ev_q rfl (q_load tA2 rfl ?_)
    refine ev_q rfl (q_fieldAddrP fO39_1 rfl rfl ?_)
    refine ev_q rfl (q_load tA2 rfl ?_)
    refine ev_q rfl (q_int rfl rfl ?_)
    intro b7 hb7; cases b7
    · replace hb7 := neF hb7
      refine ev_nil (hK6 _ ?_); clear hK6
      refine good_condF rfl ?_
      refine good_skip (hK5 _ ?_); clear hK5
      refine good_seq fun K8 hK8 => ?_
      refine good_seq fun K9 hK9 => ?_
      refine good_region rfl ?_
      refine ev_q rfl (q_fieldAddrP fO39_2 rfl rfl ?_)
      refine ev_q rfl (q_load tA2 rfl ?_)
      refine ev_q rfl (q_fieldAddrP fO39_2 rfl rfl ?_)
      refine ev_q rfl (q_load tA2 rfl ?_)
      refine ev_q rfl (q_int rfl rfl ?_)
      intro b10 hb10; cases b10
      · replace hb10 := neF hb10
        refine ev_nil (hK9 _ ?_); clear hK9
        refine good_condF rfl ?_
        refine good_skip (hK8 _ ?_); clear hK8
        refine good_seq fun K11 hK11 => ?_
        refine good_seq fun K12 hK12 => ?_
        refine good_region rfl ?_
        refine ev_q rfl (q_fieldAddrP fO39_3 rfl rfl ?_)
        refine ev_q rfl (q_load tA2 rfl ?_)
        refine ev_q rfl (q_fieldAddrP fO39_3 rfl rfl ?_)
        refine ev_q rfl (q_load tA2 rfl ?_)
        refine ev_q rfl (q_int rfl rfl ?_)
        intro b13 hb13; cases b13
        · replace hb13 := neF hb13
          refine ev_nil (hK12 _ ?_); clear hK12
          refine good_condF rfl ?_
          refine good_skip (hK11 _ ?_); clear hK11
          refine good_seq fun K14 hK14 => ?_
          refine good_seq fun K15 hK15 => ?_
          refine good_region rfl ?_
          refine ev_q rfl (q_fieldAddrP fO39_4 rfl rfl ?_)
          refine ev_q rfl (q_load tA2 rfl ?_)
          refine ev_q rfl (q_fieldAddrP fO39_4 rfl rfl ?_)
          refine ev_q rfl (q_load tA2 rfl ?_)
          refine ev_q rfl (q_int rfl rfl ?_)
          intro b16 hb16; cases b16
          · replace hb16 := neF hb16
            refine ev_nil (hK15 _ ?_); clear hK15
            refine good_condF rfl ?_
            refine good_skip (hK14 _ ?_); clear hK14
            refine good_seq fun K17 hK17 => ?_
            refine good_region rfl ?_
            refine ev_q rfl (q_assign (by conv => lhs; whnf) ?_)
            refine ev_nil (hK17 _ ?_); clear hK17
            refine good_ret ?_
            repeat (first | refine thenQ_ret ?_ | refine blockQ_ret ?_)
            refine ret_tmp (st := _) rfl (by conv => lhs; whnf) rfl ?_
            first | exact fT ⟨by assumption, by assumption, by assumption, by assumption, by assumption⟩ | exact fF (fun ⟨_, _, _, _, _⟩ => by contradiction)
          · replace hb16 := neT hb16
            refine ev_nil (hK15 _ ?_); clear hK15
            refine good_condT rfl ?_
            refine good_seq fun K18 hK18 => ?_
            refine good_region rfl ?_
            refine ev_q rfl (q_assign (by conv => lhs; whnf) ?_)
            refine ev_nil (hK18 _ ?_); clear hK18
            refine good_ret ?_
            repeat (first | refine thenQ_ret ?_ | refine blockQ_ret ?_)
            refine ret_tmp (st := _) rfl (by conv => lhs; whnf) rfl ?_
            clear hK14
            first | exact fT ⟨by assumption, by assumption, by assumption, by assumption, by assumption⟩ | exact fF (fun ⟨_, _, _, _, _⟩ => by contradiction)
        · replace hb13 := neT hb13
          refine ev_nil (hK12 _ ?_); clear hK12
          refine good_condT rfl ?_
          refine good_seq fun K19 hK19 => ?_
          refine good_region rfl ?_
          refine ev_q rfl (q_assign (by conv => lhs; whnf) ?_)
          refine ev_nil (hK19 _ ?_); clear hK19
          refine good_ret ?_
          repeat (first | refine thenQ_ret ?_ | refine blockQ_ret ?_)
          refine ret_tmp (st := _) rfl (by conv => lhs; whnf) rfl ?_
          clear hK11
          first | exact fT ⟨by assumption, by assumption, by assumption, by assumption, by assumption⟩ | exact fF (fun ⟨_, _, _, _, _⟩ => by contradiction)
      · replace hb10 := neT hb10
        refine ev_nil (hK9 _ ?_); clear hK9
        refine good_condT rfl ?_
        refine good_seq fun K20 hK20 => ?_
        refine good_region rfl ?_
        refine ev_q rfl (q_assign (by conv => lhs; whnf) ?_)
        refine ev_nil (hK20 _ ?_); clear hK20
        refine good_ret ?_
        repeat (first | refine thenQ_ret ?_ | refine blockQ_ret ?_)
        refine ret_tmp (st := _) rfl (by conv => lhs; whnf) rfl ?_
        clear hK8
        first | exact fT ⟨by assumption, by assumption, by assumption, by assumption, by assumption⟩ | exact fF (fun ⟨_, _, _, _, _⟩ => by contradiction)
    · replace hb7 := neT hb7
      refine ev_nil (hK6 _ ?_); clear hK6
      refine good_condT rfl ?_
      refine good_seq fun K21 hK21 => ?_
      refine good_region rfl ?_
      refine ev_q rfl (q_assign (by conv => lhs; whnf) ?_)
      refine ev_nil (hK21 _ ?_); clear hK21
      refine good_ret ?_
      repeat (first | refine thenQ_ret ?_ | refine blockQ_ret ?_)
      refine ret_tmp (st := _) rfl (by conv => lhs; whnf) rfl ?_
      clear hK5
      first | exact fT ⟨by assumption, by assumption, by assumption, by assumption, by assumption⟩ | exact fF (fun ⟨_, _, _, _, _⟩ => by contradiction)
  · replace hb4 := snT hb4
    refine ev_nil (hK3 _ ?_); clear hK3
    refine good_condT rfl ?_
    refine good_seq fun K22 hK22 => ?_
    refine good_region rfl ?_
    refine ev_q rfl (q_assign (by conv => lhs; whnf) ?_)
    refine ev_nil (hK22 _ ?_); clear hK22
    refine good_ret ?_
    repeat (first | refine thenQ_ret ?_ | refine blockQ_ret ?_)
    refine ret_tmp (st := _) rfl (by conv => lhs; whnf) rfl ?_
    clear hK2
    first | exact fT ⟨by assumption, by assumption, by assumption, by assumption, by assumption⟩ | exact fF (fun ⟨_, _, _, _, _⟩ => by contradiction)

-- impl.headOk
set_option maxRecDepth 20000 in
set_option maxHeartbeats 2000000 in
theorem D_impl_headOk (a : Int)  : Den Tryd.prog 106 [.s (.int .i64 a)] (.s (.bool (decide (0 ≤ a ∧ a ≤ 2000000)))) := by
  refine den_of_good Tryd.func106 (by decide) rfl (Nat.le_of_ble_eq_true rfl) (Nat.le_of_ble_eq_true rfl) ?_
  refine good_seq fun K1 hK1 => ?_
  refine good_region rfl ?_
  refine ev_q rfl (q_assign (by conv => lhs; whnf) ?_)
  refine ev_nil (hK1 _ ?_); clear hK1
  refine good_seq fun K2 hK2 => ?_
  refine good_region rfl ?_
  refine ev_q rfl (q_move (by conv => lhs; whnf) ?_)
  refine ev_q rfl (q_callB rfl rfl (rfl) (D_impl_within ..) ?_)
  intro b3 hb3; cases b3
  · first | replace hb3 := dF hb3 | skip
    refine ev_q rfl (q_assign (by conv => lhs; whnf) ?_)
    refine ev_nil (hK2 _ ?_); clear hK2
    refine good_ret ?_
    repeat (first | refine thenQ_ret ?_ | refine blockQ_ret ?_)
    refine ret_tmp (st := _) rfl (by conv => lhs; whnf) rfl ?_
    first | rfl | exact fT (by first | omega | grind) | exact fF (by first | omega | grind) | exact fT' (by first | omega | grind) | (exfalso; first | omega | grind)
  · first | replace hb3 := dT hb3 | skip
    refine ev_q rfl (q_assign (by conv => lhs; whnf) ?_)
    refine ev_nil (hK2 _ ?_); clear hK2
    refine good_ret ?_
    repeat (first | refine thenQ_ret ?_ | refine blockQ_ret ?_)
    refine ret_tmp (st := _) rfl (by conv => lhs; whnf) rfl ?_
    first | rfl | exact fT (by first | omega | grind) | exact fF (by first | omega | grind) | exact fT' (by first | omega | grind) | (exfalso; first | omega | grind)

-- spec.l02Flow
set_option maxRecDepth 20000 in
set_option maxHeartbeats 2000000 in
theorem D_spec_l02Flow (a : Int)  : Den Tryd.prog 104 [.s (.int .i64 a)] (.s (.bool (decide (0 ≤ a ∧ a ≤ 100000)))) := by
  refine den_of_good Tryd.func104 (by decide) rfl (Nat.le_of_ble_eq_true rfl) (Nat.le_of_ble_eq_true rfl) ?_
  refine good_seq fun K1 hK1 => ?_
  refine good_region rfl ?_
  refine ev_q rfl (q_assign (by conv => lhs; whnf) ?_)
  refine ev_nil (hK1 _ ?_); clear hK1
  refine good_seq fun K2 hK2 => ?_
  refine good_region rfl ?_
  refine ev_q rfl (q_move (by conv => lhs; whnf) ?_)
  refine ev_q rfl (q_callB rfl rfl (rfl) (D_spec_l00In ..) ?_)
  intro b3 hb3; cases b3
  · first | replace hb3 := dF hb3 | skip
    refine ev_q rfl (q_assign (by conv => lhs; whnf) ?_)
    refine ev_nil (hK2 _ ?_); clear hK2
    refine good_ret ?_
    repeat (first | refine thenQ_ret ?_ | refine blockQ_ret ?_)
    refine ret_tmp (st := _) rfl (by conv => lhs; whnf) rfl ?_
    first | rfl | exact fT (by first | omega | grind) | exact fF (by first | omega | grind) | exact fT' (by first | omega | grind) | (exfalso; first | omega | grind)
  · first | replace hb3 := dT hb3 | skip
    refine ev_q rfl (q_assign (by conv => lhs; whnf) ?_)
    refine ev_nil (hK2 _ ?_); clear hK2
    refine good_ret ?_
    repeat (first | refine thenQ_ret ?_ | refine blockQ_ret ?_)
    refine ret_tmp (st := _) rfl (by conv => lhs; whnf) rfl ?_
    first | rfl | exact fT (by first | omega | grind) | exact fF (by first | omega | grind) | exact fT' (by first | omega | grind) | (exfalso; first | omega | grind)

-- impl.ValidPump
set_option maxRecDepth 20000 in
set_option maxHeartbeats 2000000 in
theorem D_impl_ValidPump (s : ByteArray) (cs : List (List Int)) (hs : s.size ≤ 140737488351232) (hc : cs.length ≤ 5864062014805) : Den Tryd.prog 67 [.agg [.s (.string s), .lst 1 (cs.map lsI)]] (.s (.bool (decide (pumpOk s cs)))) := by
  refine den_of_good Tryd.func67 (by decide) rfl (Nat.le_of_ble_eq_true rfl) (Nat.le_of_ble_eq_true rfl) ?_
  refine good_seq fun K1 hK1 => ?_
  refine good_region rfl ?_
  refine ev_k rfl (k_box (by conv => lhs; whnf) rfl rfl rfl ?_)
  refine ev_q rfl (q_assign (by conv => lhs; whnf) ?_)
  refine ev_nil (hK1 _ ?_); clear hK1
  refine good_seq fun K2 hK2 => ?_
  refine good_seq fun K3 hK3 => ?_
  refine good_region rfl ?_
  refine ev_q rfl (q_fieldAddrP fO47_0 rfl rfl ?_)
  refine ev_q rfl (q_load tA9 rfl ?_)
  refine ev_q rfl (q_callB rfl rfl (rfl) (D_impl_IsName _ hs) ?_)
  intro b4 hb4; cases b4
  · first | replace hb4 := dF hb4 | skip
    have hno : ¬ pumpOk s cs := fun h => by have h2 := h.1; first | (rw [← hb4] at h2; cases h2) | exact hb4 h2
    refine ev_q rfl (q_not rfl rfl ?_)
    refine ev_q rfl (q_move (by conv => lhs; whnf) ?_)
    refine ev_skip rfl ?_
    refine ev_skip rfl ?_
    refine ev_skip rfl ?_
    refine ev_skip rfl ?_
    refine ev_q rfl (q_pickT rfl (by conv => lhs; whnf) ?_)
    refine ev_q rfl (q_move (by conv => lhs; whnf) ?_)
    refine ev_skip rfl ?_
    refine ev_skip rfl ?_
    refine ev_skip rfl ?_
    refine ev_skip rfl ?_
    refine ev_q rfl (q_pickT rfl (by conv => lhs; whnf) ?_)
    refine ev_nil (hK3 _ ?_); clear hK3
    refine good_condT rfl ?_
    refine good_seq fun K5 hK5 => ?_
    refine good_region rfl ?_
    refine ev_q rfl (q_assign (by conv => lhs; whnf) ?_)
    refine ev_nil (hK5 _ ?_); clear hK5
    refine good_ret ?_
    repeat (first | refine thenQ_ret ?_ | refine blockQ_ret ?_)
    refine ret_tmp (st := _) rfl (by conv => lhs; whnf) rfl ?_
    clear hK2
    first | exact fT hyo | exact fF hno
  · first | replace hb4 := dT hb4 | skip
    have hnm : isName s = true := by first | exact hb4 | exact hb4.symm
    refine ev_q rfl (q_not rfl rfl ?_)
    refine ev_q rfl (q_move (by conv => lhs; whnf) ?_)
    refine ev_q rfl (q_fieldAddrP fO47_1 rfl rfl ?_)
    refine ev_q rfl (q_load tA42 rfl ?_)
    refine ev_q rfl (q_len tEs42 rfl ?_)
    intro n6 hn6
    try simp only [List.length_map] at hn6
    refine ev_q rfl (q_int rfl rfl ?_)
    intro b7 hb7; cases b7
    · replace hb7 := dF hb7
      refine ev_q rfl (q_pickF rfl (by conv => lhs; whnf) ?_)
      refine ev_q rfl (q_move (by conv => lhs; whnf) ?_)
      refine ev_q rfl (q_fieldAddrP fO47_1 rfl rfl ?_)
      refine ev_q rfl (q_load tA42 rfl ?_)
      refine ev_q rfl (q_len tEs42 rfl ?_)
      intro n8 hn8
      try simp only [List.length_map] at hn8
      refine ev_q rfl (q_int rfl rfl ?_)
      intro b9 hb9; cases b9
      · replace hb9 := dF hb9
        have hl28 : 2 ≤ cs.length ∧ cs.length ≤ 8 := by omega
        refine ev_q rfl (q_pickF rfl (by conv => lhs; whnf) ?_)
        refine ev_nil (hK3 _ ?_); clear hK3
        refine good_condF rfl ?_
        refine good_skip (hK2 _ ?_); clear hK2
        refine good_seq fun K10 hK10 => ?_
        refine good_seq fun K11 hK11 => ?_
        refine good_region rfl ?_
        refine ev_q rfl (q_fieldAddrP fO47_1 rfl rfl ?_)
        refine ev_q rfl (q_load tA42 rfl ?_)
        refine ev_q rfl (q_len tEs42 rfl ?_)
        intro n12 hn12
        try simp only [List.length_map] at hn12
        refine ev_q rfl (q_move (by conv => lhs; whnf) ?_)
        refine ev_nil (hK11 _ ?_); clear hK11
        refine good_block ?_
        refine good_loop (α := Nat) (fun i => { env := upd (upd (upd (upd ((fun _ => .junk)) 1 (.ptr 1 0)) 22 (.lst 1 (cs.map lsI))) 23 (.s (.int .i64 ((cs.length : Int))))) 24 (.s (.int .i64 ((i : Int)))), H := upd ((fun _ => none)) 1 (some (.box 47 [.s (.string s), .lst 1 (cs.map lsI)])) }) (fun i => i ≤ cs.length ∧ ∀ (j : Nat) (c : List Int), j < i → cs[j]? = some c → okPc cs j c) (fun i => cs.length - i) 0 ?_ ?_ ?_
        · exact ⟨Nat.zero_le _, fun j u hj => by omega⟩
        · refine sub_weak ?_ ?_
          · exact weakH_box (boxEq (rfl)) rfl (weakH_none _)
          · refine weakE_upd ?e24 ?r24 (weakE_upd ?e23 ?r23 (weakE_upd ?e22 ?r22 (weakE_upd ?e1 ?r1 (weakE_junk _ _))))
            case e1 => first | rfl | exact fI (by omega) | (simp_all)
            case r1 => intro h hh; simp [refs] at hh; subst hh; rfl
            case e22 => first | rfl | exact fI (by omega) | (simp_all)
            case r22 => intro h hh; cases hh
            case e23 => first | rfl | exact fI (by omega) | (simp_all)
            case r23 => intro h hh; cases hh
            case e24 => first | rfl | exact fI (by omega) | (simp_all)
            case r24 => intro h hh; cases hh
        · rintro i ⟨hI, hJ⟩
          refine good_seq fun K13 hK13 => ?_
          refine good_region rfl ?_
          refine ev_q rfl (q_int rfl rfl ?_)
          intro b14 hb14; cases b14
          · replace hb14 := dF hb14
            have hyo : pumpOk s cs := pm_all hnm hl28 hJ (by omega)
            refine ev_nil (hK13 _ ?_); clear hK13
            refine good_seq fun K15 hK15 => ?_
            refine good_condF rfl ?_
            refine good_exit ?_
            repeat (first | refine thenQ_exit ?_ | refine blockQ_pass rfl ?_)
            refine blockQ_exit (hK10 _ ?_); clear hK10
            refine good_seq fun K16 hK16 => ?_
            refine good_region rfl ?_
            refine ev_q rfl (q_assign (by conv => lhs; whnf) ?_)
            refine ev_nil (hK16 _ ?_); clear hK16
            refine good_ret ?_
            repeat (first | refine thenQ_ret ?_ | refine blockQ_ret ?_)
            refine ret_tmp (st := _) rfl (by conv => lhs; whnf) rfl ?_
            clear hK15
            first | exact fT hyo | exact fF hno
          · replace hb14 := dT hb14
            obtain ⟨c, hcc⟩ := getL (xs := cs) (n := (i : Int)) (by omega) (by omega)
            replace hcc : cs[i]? = some c := hcc
            refine ev_nil (hK13 _ ?_); clear hK13
            refine good_seq fun K17 hK17 => ?_
            refine good_condT rfl ?_
            refine good_skip (hK17 _ ?_); clear hK17
            refine good_seq fun K18 hK18 => ?_
            refine good_block ?_
            refine good_seq fun K19 hK19 => ?_
            refine good_region rfl ?_
            refine ev_q rfl (q_move (by conv => lhs; whnf) ?_)
            refine ev_q rfl (q_idx tE42 rfl rfl (by first | decide | exact Int.natCast_nonneg _ | omega) (by exact map_get hcc) rfl ?_)
            refine ev_q rfl (q_load tA69 rfl ?_)
            refine ev_q rfl (q_assign (by conv => lhs; whnf) ?_)
            refine ev_q rfl (q_assign (by conv => lhs; whnf) ?_)
            refine ev_nil (hK19 _ ?_); clear hK19
            refine good_seq fun K20 hK20 => ?_
            refine good_draw 59 hmix (by kernel_rfl) rfl ?_
            refine qo_q rfl (q_move (by conv => lhs; whnf) ?_)
            refine qo_q rfl (q_len tEs69 rfl ?_)
            intro n21 hn21
            try simp only [List.length_map] at hn21
            refine qo_q rfl (q_int rfl rfl ?_)
            intro b22 hb22; cases b22
            · replace hb22 := neF hb22
              refine qo_q rfl (q_move (by conv => lhs; whnf) ?_)
              refine qo_q rfl (q_move (by conv => lhs; whnf) ?_)
              refine qo_q rfl (q_idx tE69 rfl rfl (by first | decide | exact Int.natCast_nonneg _ | omega) (by exact cx_get (by omega)) rfl ?_)
              refine qo_q rfl (q_load tA2 rfl ?_)
              refine qo_q rfl (q_callB rfl rfl (rfl) (D_impl_within ..) ?_)
              intro b23 hb23; cases b23
              · first | replace hb23 := dF hb23 | skip
                have hno : ¬ pumpOk s cs := pm_no hcc (fun h => by omega)
                refine qo_q rfl (q_not rfl rfl ?_)
                refine qo_q rfl (q_pickF rfl (by conv => lhs; whnf) ?_)
                refine qo_q rfl (q_move (by conv => lhs; whnf) ?_)
                refine qo_skip rfl ?_
                refine qo_skip rfl ?_
                refine qo_skip rfl ?_
                refine qo_skip rfl ?_
                refine qo_skip rfl ?_
                refine qo_q rfl (q_pickT rfl (by conv => lhs; whnf) ?_)
                refine qo_q rfl (q_move (by conv => lhs; whnf) ?_)
                refine qo_skip rfl ?_
                refine qo_skip rfl ?_
                refine qo_skip rfl ?_
                refine qo_skip rfl ?_
                refine qo_skip rfl ?_
                refine qo_skip rfl ?_
                refine qo_skip rfl ?_
                refine qo_skip rfl ?_
                refine qo_q rfl (q_pickT rfl (by conv => lhs; whnf) ?_)
                refine qo_q rfl (q_move (by conv => lhs; whnf) ?_)
                refine qo_skip rfl ?_
                refine qo_skip rfl ?_
                refine qo_skip rfl ?_
                refine qo_skip rfl ?_
                refine qo_skip rfl ?_
                refine qo_skip rfl ?_
                refine qo_skip rfl ?_
                refine qo_skip rfl ?_
                refine qo_skip rfl ?_
                refine qo_skip rfl ?_
                refine qo_skip rfl ?_
                refine qo_skip rfl ?_
                refine qo_skip rfl ?_
                refine qo_skip rfl ?_
                refine qo_skip rfl ?_
                refine qo_skip rfl ?_
                refine qo_skip rfl ?_
                refine qo_skip rfl ?_
                refine qo_skip rfl ?_
                refine qo_skip rfl ?_
                refine qo_skip rfl ?_
                refine qo_skip rfl ?_
                refine qo_skip rfl ?_
                refine qo_skip rfl ?_
                refine qo_skip rfl ?_
                refine qo_skip rfl ?_
                refine qo_skip rfl ?_
                refine qo_skip rfl ?_
                refine qo_skip rfl ?_
                refine qo_skip rfl ?_
                refine qo_q rfl (q_pickT rfl (by conv => lhs; whnf) ?_)
                refine qo_nil ?_
                refine ev_nil (hK20 _ ?_); clear hK20
                refine good_condT rfl ?_
                refine good_seq fun K24 hK24 => ?_
                refine good_region rfl ?_
                refine ev_q rfl (q_assign (by conv => lhs; whnf) ?_)
                refine ev_nil (hK24 _ ?_); clear hK24
                refine good_ret ?_
                repeat (first | refine thenQ_ret ?_ | refine blockQ_ret ?_)
                refine ret_tmp (st := _) rfl (by conv => lhs; whnf) rfl ?_
                clear hK10 hK18
                first | exact fT hyo | exact fF hno
              · first | replace hb23 := dT hb23 | skip
                refine qo_q rfl (q_not rfl rfl ?_)
                refine qo_q rfl (q_pickF rfl (by conv => lhs; whnf) ?_)
                refine qo_q rfl (q_move (by conv => lhs; whnf) ?_)
                refine qo_q rfl (q_move (by conv => lhs; whnf) ?_)
                refine qo_q rfl (q_idx tE69 rfl rfl (by first | decide | exact Int.natCast_nonneg _ | omega) (by exact cy_get (by omega)) rfl ?_)
                refine qo_q rfl (q_load tA2 rfl ?_)
                refine qo_q rfl (q_callB rfl rfl (rfl) (D_impl_headOk ..) ?_)
                intro b25 hb25; cases b25
                · first | replace hb25 := dF hb25 | skip
                  have hno : ¬ pumpOk s cs := pm_no hcc (fun h => by omega)
                  refine qo_q rfl (q_not rfl rfl ?_)
                  refine qo_q rfl (q_pickF rfl (by conv => lhs; whnf) ?_)
                  refine qo_q rfl (q_move (by conv => lhs; whnf) ?_)
                  refine qo_skip rfl ?_
                  refine qo_skip rfl ?_
                  refine qo_skip rfl ?_
                  refine qo_skip rfl ?_
                  refine qo_skip rfl ?_
                  refine qo_skip rfl ?_
                  refine qo_skip rfl ?_
                  refine qo_skip rfl ?_
                  refine qo_q rfl (q_pickT rfl (by conv => lhs; whnf) ?_)
                  refine qo_q rfl (q_move (by conv => lhs; whnf) ?_)
                  refine qo_skip rfl ?_
                  refine qo_skip rfl ?_
                  refine qo_skip rfl ?_
                  refine qo_skip rfl ?_
                  refine qo_skip rfl ?_
                  refine qo_skip rfl ?_
                  refine qo_skip rfl ?_
                  refine qo_skip rfl ?_
                  refine qo_skip rfl ?_
                  refine qo_skip rfl ?_
                  refine qo_skip rfl ?_
                  refine qo_skip rfl ?_
                  refine qo_skip rfl ?_
                  refine qo_skip rfl ?_
                  refine qo_skip rfl ?_
                  refine qo_skip rfl ?_
                  refine qo_skip rfl ?_
                  refine qo_skip rfl ?_
                  refine qo_skip rfl ?_
                  refine qo_skip rfl ?_
                  refine qo_skip rfl ?_
                  refine qo_skip rfl ?_
                  refine qo_skip rfl ?_
                  refine qo_skip rfl ?_
                  refine qo_skip rfl ?_
                  refine qo_skip rfl ?_
                  refine qo_skip rfl ?_
                  refine qo_skip rfl ?_
                  refine qo_skip rfl ?_
                  refine qo_skip rfl ?_
                  refine qo_q rfl (q_pickT rfl (by conv => lhs; whnf) ?_)
                  refine qo_nil ?_
                  refine ev_nil (hK20 _ ?_); clear hK20
                  refine good_condT rfl ?_
                  refine good_seq fun K26 hK26 => ?_
                  refine good_region rfl ?_
                  refine ev_q rfl (q_assign (by conv => lhs; whnf) ?_)
                  refine ev_nil (hK26 _ ?_); clear hK26
                  refine good_ret ?_
                  repeat (first | refine thenQ_ret ?_ | refine blockQ_ret ?_)
                  refine ret_tmp (st := _) rfl (by conv => lhs; whnf) rfl ?_
                  clear hK10 hK18
                  first | exact fT hyo | exact fF hno
                · first | replace hb25 := dT hb25 | skip
                  refine qo_q rfl (q_not rfl rfl ?_)
                  refine qo_q rfl (q_pickF rfl (by conv => lhs; whnf) ?_)
                  refine qo_q rfl (q_move (by conv => lhs; whnf) ?_)
                  refine qo_q rfl (q_move (by conv => lhs; whnf) ?_)
                  refine qo_q rfl (q_int rfl rfl ?_)
                  intro b27 hb27; cases b27
                  · replace hb27 := eqF hb27
                    refine qo_q rfl (q_move (by conv => lhs; whnf) ?_)
                    refine qo_skip rfl ?_
                    refine qo_skip rfl ?_
                    refine qo_skip rfl ?_
                    refine qo_skip rfl ?_
                    refine qo_q rfl (q_pickF rfl (by conv => lhs; whnf) ?_)
                    refine qo_q rfl (q_pickF rfl (by conv => lhs; whnf) ?_)
                    refine qo_q rfl (q_move (by conv => lhs; whnf) ?_)
                    refine qo_q rfl (q_move (by conv => lhs; whnf) ?_)
                    refine qo_q rfl (q_int rfl rfl ?_)
                    intro b28 hb28; cases b28
                    · replace hb28 := dF hb28
                      have hok : okPc cs i c := by first | exact hok0 | (exfalso; omega)
                      refine qo_q rfl (q_move (by conv => lhs; whnf) ?_)
                      refine qo_skip rfl ?_
                      refine qo_skip rfl ?_
                      refine qo_skip rfl ?_
                      refine qo_skip rfl ?_
                      refine qo_skip rfl ?_
                      refine qo_skip rfl ?_
                      refine qo_skip rfl ?_
                      refine qo_skip rfl ?_
                      refine qo_skip rfl ?_
                      refine qo_skip rfl ?_
                      refine qo_skip rfl ?_
                      refine qo_skip rfl ?_
                      refine qo_skip rfl ?_
                      refine qo_skip rfl ?_
                      refine qo_skip rfl ?_
                      refine qo_skip rfl ?_
                      refine qo_skip rfl ?_
                      refine qo_skip rfl ?_
                      refine qo_skip rfl ?_
                      refine qo_skip rfl ?_
                      refine qo_skip rfl ?_
                      refine qo_skip rfl ?_
                      refine qo_skip rfl ?_
                      refine qo_skip rfl ?_
                      refine qo_skip rfl ?_
                      refine qo_skip rfl ?_
                      refine qo_q rfl (q_pickF rfl (by conv => lhs; whnf) ?_)
                      refine qo_q rfl (q_pickF rfl (by conv => lhs; whnf) ?_)
                      refine qo_nil ?_
                      refine ev_nil (hK20 _ ?_); clear hK20
                      refine good_condF rfl ?_
                      refine good_skip (hK18 _ ?_); clear hK18
                      refine good_region rfl ?_
                      refine ev_q rfl (q_int rfl rfl ?_)
                      intro n29 hn29
                      replace hn29 := in64 hn29 (by omega) (by omega)
                      refine ev_q rfl (q_move (by conv => lhs; whnf) ?_)
                      refine ev_nil ?_
                      clear hK10
                      refine ⟨i + 1, ?_, ?_, ?_⟩
                      · exact ⟨by omega, all_extI (Q := fun j (c : List Int) => okPc cs j c) hJ hcc hok⟩
                      · first | omega | (simp only []; omega) | (dsimp only; omega)
                      · refine sub_weak ?_ ?_
                        · exact weakH_box (boxEq (rfl)) rfl (weakH_none _)
                        · refine weakE_upd ?e24 ?r24 (weakE_upd ?e23 ?r23 (weakE_upd ?e22 ?r22 (weakE_upd ?e1 ?r1 (weakE_junk _ _))))
                          case e1 => first | rfl | exact fI (by omega) | (simp_all)
                          case r1 => intro h hh; simp [refs] at hh; subst hh; rfl
                          case e22 => first | rfl | exact fI (by omega) | (simp_all)
                          case r22 => intro h hh; cases hh
                          case e23 => first | rfl | exact fI (by omega) | (simp_all)
                          case r23 => intro h hh; cases hh
                          case e24 => first | rfl | exact fI (by omega) | (simp_all)
                          case r24 => intro h hh; cases hh
                    · replace hb28 := dT hb28
                      refine qo_q rfl (q_move (by conv => lhs; whnf) ?_)
                      refine qo_q rfl (q_move (by conv => lhs; whnf) ?_)
                      refine qo_q rfl (q_idx tE69 rfl rfl (by first | decide | exact Int.natCast_nonneg _ | omega) (by exact cx_get (by omega)) rfl ?_)
                      refine qo_q rfl (q_load tA2 rfl ?_)
                      refine qo_q rfl (q_fieldAddrP fO47_1 rfl rfl ?_)
                      refine qo_q rfl (q_load tA42 rfl ?_)
                      refine qo_q rfl (q_move (by conv => lhs; whnf) ?_)
                      refine qo_q rfl (q_int rfl rfl ?_)
                      intro n30 hn30
                      replace hn30 := in64 hn30 (by omega) (by omega)
                      obtain ⟨p, hp⟩ := getL (xs := cs) (n := n30) (by omega) (by omega)
                      have hp1 : cs[i - 1]? = some p := by rw [← hp]; congr 1; omega
                      have hpo := hJ (i - 1) p (by omega) hp1
                      have hpl := hpo.1
                      refine qo_q rfl (q_idx tE42 rfl rfl (by first | decide | exact Int.natCast_nonneg _ | omega) (by exact map_get hp) rfl ?_)
                      refine qo_q rfl (q_load tA69 rfl ?_)
                      refine qo_q rfl (q_idx tE69 rfl rfl (by first | decide | exact Int.natCast_nonneg _ | omega) (by exact cx_get (by omega)) rfl ?_)
                      refine qo_q rfl (q_load tA2 rfl ?_)
                      refine qo_q rfl (q_int rfl rfl ?_)
                      intro b31 hb31; cases b31
                      · replace hb31 := dF hb31
                        refine qo_q rfl (q_move (by conv => lhs; whnf) ?_)
                        refine qo_q rfl (q_move (by conv => lhs; whnf) ?_)
                        refine qo_q rfl (q_idx tE69 rfl rfl (by first | decide | exact Int.natCast_nonneg _ | omega) (by exact cy_get (by omega)) rfl ?_)
                        refine qo_q rfl (q_load tA2 rfl ?_)
                        refine qo_q rfl (q_fieldAddrP fO47_1 rfl rfl ?_)
                        refine qo_q rfl (q_load tA42 rfl ?_)
                        refine qo_q rfl (q_move (by conv => lhs; whnf) ?_)
                        refine qo_q rfl (q_int rfl rfl ?_)
                        intro n32 hn32
                        replace hn32 := in64 hn32 (by omega) (by omega)
                        refine qo_q rfl (q_idx tE42 rfl rfl (by first | decide | exact Int.natCast_nonneg _ | omega) (by exact map_get (show cs[n32.toNat]? = some p by rw [← hp1]; congr 1; omega)) rfl ?_)
                        refine qo_q rfl (q_load tA69 rfl ?_)
                        refine qo_q rfl (q_idx tE69 rfl rfl (by first | decide | exact Int.natCast_nonneg _ | omega) (by exact cy_get (by omega)) rfl ?_)
                        refine qo_q rfl (q_load tA2 rfl ?_)
                        refine qo_q rfl (q_int rfl rfl ?_)
                        intro b33 hb33; cases b33
                        · replace hb33 := dF hb33
                          have hok := pm_oks (cs := cs) (c := c) (by omega) (by omega) (by omega) (by omega) hp1 (by omega)
                          refine qo_q rfl (q_pickF rfl (by conv => lhs; whnf) ?_)
                          refine qo_q rfl (q_pickT rfl (by conv => lhs; whnf) ?_)
                          refine qo_q rfl (q_pickF rfl (by conv => lhs; whnf) ?_)
                          refine qo_nil ?_
                          refine ev_nil (hK20 _ ?_); clear hK20
                          refine good_condF rfl ?_
                          refine good_skip (hK18 _ ?_); clear hK18
                          refine good_region rfl ?_
                          refine ev_q rfl (q_int rfl rfl ?_)
                          intro n34 hn34
                          replace hn34 := in64 hn34 (by omega) (by omega)
                          refine ev_q rfl (q_move (by conv => lhs; whnf) ?_)
                          refine ev_nil ?_
                          clear hK10
                          refine ⟨i + 1, ?_, ?_, ?_⟩
                          · exact ⟨by omega, all_extI (Q := fun j (c : List Int) => okPc cs j c) hJ hcc hok⟩
                          · first | omega | (simp only []; omega) | (dsimp only; omega)
                          · refine sub_weak ?_ ?_
                            · exact weakH_box (boxEq (rfl)) rfl (weakH_none _)
                            · refine weakE_upd ?e24 ?r24 (weakE_upd ?e23 ?r23 (weakE_upd ?e22 ?r22 (weakE_upd ?e1 ?r1 (weakE_junk _ _))))
                              case e1 => first | rfl | exact fI (by omega) | (simp_all)
                              case r1 => intro h hh; simp [refs] at hh; subst hh; rfl
                              case e22 => first | rfl | exact fI (by omega) | (simp_all)
                              case r22 => intro h hh; cases hh
                              case e23 => first | rfl | exact fI (by omega) | (simp_all)
                              case r23 => intro h hh; cases hh
                              case e24 => first | rfl | exact fI (by omega) | (simp_all)
                              case r24 => intro h hh; cases hh
                        · replace hb33 := dT hb33
                          have hno : ¬ pumpOk s cs := pm_no2 hcc (by omega) hp1 (fun h => by omega)
                          refine qo_q rfl (q_pickF rfl (by conv => lhs; whnf) ?_)
                          refine qo_q rfl (q_pickT rfl (by conv => lhs; whnf) ?_)
                          refine qo_q rfl (q_pickF rfl (by conv => lhs; whnf) ?_)
                          refine qo_nil ?_
                          refine ev_nil (hK20 _ ?_); clear hK20
                          refine good_condT rfl ?_
                          refine good_seq fun K35 hK35 => ?_
                          refine good_region rfl ?_
                          refine ev_q rfl (q_assign (by conv => lhs; whnf) ?_)
                          refine ev_nil (hK35 _ ?_); clear hK35
                          refine good_ret ?_
                          repeat (first | refine thenQ_ret ?_ | refine blockQ_ret ?_)
                          refine ret_tmp (st := _) rfl (by conv => lhs; whnf) rfl ?_
                          clear hK10 hK18
                          first | exact fT hyo | exact fF hno
                      · replace hb31 := dT hb31
                        have hno : ¬ pumpOk s cs := pm_no2 hcc (by omega) hp1 (fun h => by omega)
                        refine qo_q rfl (q_move (by conv => lhs; whnf) ?_)
                        refine qo_skip rfl ?_
                        refine qo_skip rfl ?_
                        refine qo_skip rfl ?_
                        refine qo_skip rfl ?_
                        refine qo_skip rfl ?_
                        refine qo_skip rfl ?_
                        refine qo_skip rfl ?_
                        refine qo_skip rfl ?_
                        refine qo_skip rfl ?_
                        refine qo_skip rfl ?_
                        refine qo_skip rfl ?_
                        refine qo_skip rfl ?_
                        refine qo_q rfl (q_pickT rfl (by conv => lhs; whnf) ?_)
                        refine qo_q rfl (q_pickT rfl (by conv => lhs; whnf) ?_)
                        refine qo_q rfl (q_pickF rfl (by conv => lhs; whnf) ?_)
                        refine qo_nil ?_
                        refine ev_nil (hK20 _ ?_); clear hK20
                        refine good_condT rfl ?_
                        refine good_seq fun K36 hK36 => ?_
                        refine good_region rfl ?_
                        refine ev_q rfl (q_assign (by conv => lhs; whnf) ?_)
                        refine ev_nil (hK36 _ ?_); clear hK36
                        refine good_ret ?_
                        repeat (first | refine thenQ_ret ?_ | refine blockQ_ret ?_)
                        refine ret_tmp (st := _) rfl (by conv => lhs; whnf) rfl ?_
                        clear hK10 hK18
                        first | exact fT hyo | exact fF hno
                  · replace hb27 := eqT hb27
                    refine qo_q rfl (q_move (by conv => lhs; whnf) ?_)
                    refine qo_q rfl (q_move (by conv => lhs; whnf) ?_)
                    refine qo_q rfl (q_idx tE69 rfl rfl (by first | decide | exact Int.natCast_nonneg _ | omega) (by exact cx_get (by omega)) rfl ?_)
                    refine qo_q rfl (q_load tA2 rfl ?_)
                    refine qo_q rfl (q_int rfl rfl ?_)
                    intro b37 hb37; cases b37
                    · replace hb37 := neF hb37
                      have hok0 := pm_ok0 (cs := cs) (c := c) (i := i) (by omega) (by omega) (by omega) (by omega) (by omega)
                      refine qo_q rfl (q_pickT rfl (by conv => lhs; whnf) ?_)
                      refine qo_q rfl (q_pickF rfl (by conv => lhs; whnf) ?_)
                      refine qo_q rfl (q_move (by conv => lhs; whnf) ?_)
                      refine qo_q rfl (q_move (by conv => lhs; whnf) ?_)
                      refine qo_q rfl (q_int rfl rfl ?_)
                      intro b38 hb38; cases b38
                      · replace hb38 := dF hb38
                        have hok : okPc cs i c := by first | exact hok0 | (exfalso; omega)
                        refine qo_q rfl (q_move (by conv => lhs; whnf) ?_)
                        refine qo_skip rfl ?_
                        refine qo_skip rfl ?_
                        refine qo_skip rfl ?_
                        refine qo_skip rfl ?_
                        refine qo_skip rfl ?_
                        refine qo_skip rfl ?_
                        refine qo_skip rfl ?_
                        refine qo_skip rfl ?_
                        refine qo_skip rfl ?_
                        refine qo_skip rfl ?_
                        refine qo_skip rfl ?_
                        refine qo_skip rfl ?_
                        refine qo_skip rfl ?_
                        refine qo_skip rfl ?_
                        refine qo_skip rfl ?_
                        refine qo_skip rfl ?_
                        refine qo_skip rfl ?_
                        refine qo_skip rfl ?_
                        refine qo_skip rfl ?_
                        refine qo_skip rfl ?_
                        refine qo_skip rfl ?_
                        refine qo_skip rfl ?_
                        refine qo_skip rfl ?_
                        refine qo_skip rfl ?_
                        refine qo_skip rfl ?_
                        refine qo_skip rfl ?_
                        refine qo_q rfl (q_pickF rfl (by conv => lhs; whnf) ?_)
                        refine qo_q rfl (q_pickF rfl (by conv => lhs; whnf) ?_)
                        refine qo_nil ?_
                        refine ev_nil (hK20 _ ?_); clear hK20
                        refine good_condF rfl ?_
                        refine good_skip (hK18 _ ?_); clear hK18
                        refine good_region rfl ?_
                        refine ev_q rfl (q_int rfl rfl ?_)
                        intro n39 hn39
                        replace hn39 := in64 hn39 (by omega) (by omega)
                        refine ev_q rfl (q_move (by conv => lhs; whnf) ?_)
                        refine ev_nil ?_
                        clear hK10
                        refine ⟨i + 1, ?_, ?_, ?_⟩
                        · exact ⟨by omega, all_extI (Q := fun j (c : List Int) => okPc cs j c) hJ hcc hok⟩
                        · first | omega | (simp only []; omega) | (dsimp only; omega)
                        · refine sub_weak ?_ ?_
                          · exact weakH_box (boxEq (rfl)) rfl (weakH_none _)
                          · refine weakE_upd ?e24 ?r24 (weakE_upd ?e23 ?r23 (weakE_upd ?e22 ?r22 (weakE_upd ?e1 ?r1 (weakE_junk _ _))))
                            case e1 => first | rfl | exact fI (by omega) | (simp_all)
                            case r1 => intro h hh; simp [refs] at hh; subst hh; rfl
                            case e22 => first | rfl | exact fI (by omega) | (simp_all)
                            case r22 => intro h hh; cases hh
                            case e23 => first | rfl | exact fI (by omega) | (simp_all)
                            case r23 => intro h hh; cases hh
                            case e24 => first | rfl | exact fI (by omega) | (simp_all)
                            case r24 => intro h hh; cases hh
                      · replace hb38 := dT hb38
                        refine qo_q rfl (q_move (by conv => lhs; whnf) ?_)
                        refine qo_q rfl (q_move (by conv => lhs; whnf) ?_)
                        refine qo_q rfl (q_idx tE69 rfl rfl (by first | decide | exact Int.natCast_nonneg _ | omega) (by exact cx_get (by omega)) rfl ?_)
                        refine qo_q rfl (q_load tA2 rfl ?_)
                        refine qo_q rfl (q_fieldAddrP fO47_1 rfl rfl ?_)
                        refine qo_q rfl (q_load tA42 rfl ?_)
                        refine qo_q rfl (q_move (by conv => lhs; whnf) ?_)
                        refine qo_q rfl (q_int rfl rfl ?_)
                        intro n40 hn40
                        replace hn40 := in64 hn40 (by omega) (by omega)
                        obtain ⟨p, hp⟩ := getL (xs := cs) (n := n40) (by omega) (by omega)
                        have hp1 : cs[i - 1]? = some p := by rw [← hp]; congr 1; omega
                        have hpo := hJ (i - 1) p (by omega) hp1
                        have hpl := hpo.1
                        refine qo_q rfl (q_idx tE42 rfl rfl (by first | decide | exact Int.natCast_nonneg _ | omega) (by exact map_get hp) rfl ?_)
                        refine qo_q rfl (q_load tA69 rfl ?_)
                        refine qo_q rfl (q_idx tE69 rfl rfl (by first | decide | exact Int.natCast_nonneg _ | omega) (by exact cx_get (by omega)) rfl ?_)
                        refine qo_q rfl (q_load tA2 rfl ?_)
                        refine qo_q rfl (q_int rfl rfl ?_)
                        intro b41 hb41; cases b41
                        · replace hb41 := dF hb41
                          refine qo_q rfl (q_move (by conv => lhs; whnf) ?_)
                          refine qo_q rfl (q_move (by conv => lhs; whnf) ?_)
                          refine qo_q rfl (q_idx tE69 rfl rfl (by first | decide | exact Int.natCast_nonneg _ | omega) (by exact cy_get (by omega)) rfl ?_)
                          refine qo_q rfl (q_load tA2 rfl ?_)
                          refine qo_q rfl (q_fieldAddrP fO47_1 rfl rfl ?_)
                          refine qo_q rfl (q_load tA42 rfl ?_)
                          refine qo_q rfl (q_move (by conv => lhs; whnf) ?_)
                          refine qo_q rfl (q_int rfl rfl ?_)
                          intro n42 hn42
                          replace hn42 := in64 hn42 (by omega) (by omega)
                          refine qo_q rfl (q_idx tE42 rfl rfl (by first | decide | exact Int.natCast_nonneg _ | omega) (by exact map_get (show cs[n42.toNat]? = some p by rw [← hp1]; congr 1; omega)) rfl ?_)
                          refine qo_q rfl (q_load tA69 rfl ?_)
                          refine qo_q rfl (q_idx tE69 rfl rfl (by first | decide | exact Int.natCast_nonneg _ | omega) (by exact cy_get (by omega)) rfl ?_)
                          refine qo_q rfl (q_load tA2 rfl ?_)
                          refine qo_q rfl (q_int rfl rfl ?_)
                          intro b43 hb43; cases b43
                          · replace hb43 := dF hb43
                            have hok := pm_oks (cs := cs) (c := c) (by omega) (by omega) (by omega) (by omega) hp1 (by omega)
                            refine qo_q rfl (q_pickF rfl (by conv => lhs; whnf) ?_)
                            refine qo_q rfl (q_pickT rfl (by conv => lhs; whnf) ?_)
                            refine qo_q rfl (q_pickF rfl (by conv => lhs; whnf) ?_)
                            refine qo_nil ?_
                            refine ev_nil (hK20 _ ?_); clear hK20
                            refine good_condF rfl ?_
                            refine good_skip (hK18 _ ?_); clear hK18
                            refine good_region rfl ?_
                            refine ev_q rfl (q_int rfl rfl ?_)
                            intro n44 hn44
                            replace hn44 := in64 hn44 (by omega) (by omega)
                            refine ev_q rfl (q_move (by conv => lhs; whnf) ?_)
                            refine ev_nil ?_
                            clear hK10
                            refine ⟨i + 1, ?_, ?_, ?_⟩
                            · exact ⟨by omega, all_extI (Q := fun j (c : List Int) => okPc cs j c) hJ hcc hok⟩
                            · first | omega | (simp only []; omega) | (dsimp only; omega)
                            · refine sub_weak ?_ ?_
                              · exact weakH_box (boxEq (rfl)) rfl (weakH_none _)
                              · refine weakE_upd ?e24 ?r24 (weakE_upd ?e23 ?r23 (weakE_upd ?e22 ?r22 (weakE_upd ?e1 ?r1 (weakE_junk _ _))))
                                case e1 => first | rfl | exact fI (by omega) | (simp_all)
                                case r1 => intro h hh; simp [refs] at hh; subst hh; rfl
                                case e22 => first | rfl | exact fI (by omega) | (simp_all)
                                case r22 => intro h hh; cases hh
                                case e23 => first | rfl | exact fI (by omega) | (simp_all)
                                case r23 => intro h hh; cases hh
                                case e24 => first | rfl | exact fI (by omega) | (simp_all)
                                case r24 => intro h hh; cases hh
                          · replace hb43 := dT hb43
                            have hno : ¬ pumpOk s cs := pm_no2 hcc (by omega) hp1 (fun h => by omega)
                            refine qo_q rfl (q_pickF rfl (by conv => lhs; whnf) ?_)
                            refine qo_q rfl (q_pickT rfl (by conv => lhs; whnf) ?_)
                            refine qo_q rfl (q_pickF rfl (by conv => lhs; whnf) ?_)
                            refine qo_nil ?_
                            refine ev_nil (hK20 _ ?_); clear hK20
                            refine good_condT rfl ?_
                            refine good_seq fun K45 hK45 => ?_
                            refine good_region rfl ?_
                            refine ev_q rfl (q_assign (by conv => lhs; whnf) ?_)
                            refine ev_nil (hK45 _ ?_); clear hK45
                            refine good_ret ?_
                            repeat (first | refine thenQ_ret ?_ | refine blockQ_ret ?_)
                            refine ret_tmp (st := _) rfl (by conv => lhs; whnf) rfl ?_
                            clear hK10 hK18
                            first | exact fT hyo | exact fF hno
                        · replace hb41 := dT hb41
                          have hno : ¬ pumpOk s cs := pm_no2 hcc (by omega) hp1 (fun h => by omega)
                          refine qo_q rfl (q_move (by conv => lhs; whnf) ?_)
                          refine qo_skip rfl ?_
                          refine qo_skip rfl ?_
                          refine qo_skip rfl ?_
                          refine qo_skip rfl ?_
                          refine qo_skip rfl ?_
                          refine qo_skip rfl ?_
                          refine qo_skip rfl ?_
                          refine qo_skip rfl ?_
                          refine qo_skip rfl ?_
                          refine qo_skip rfl ?_
                          refine qo_skip rfl ?_
                          refine qo_skip rfl ?_
                          refine qo_q rfl (q_pickT rfl (by conv => lhs; whnf) ?_)
                          refine qo_q rfl (q_pickT rfl (by conv => lhs; whnf) ?_)
                          refine qo_q rfl (q_pickF rfl (by conv => lhs; whnf) ?_)
                          refine qo_nil ?_
                          refine ev_nil (hK20 _ ?_); clear hK20
                          refine good_condT rfl ?_
                          refine good_seq fun K46 hK46 => ?_
                          refine good_region rfl ?_
                          refine ev_q rfl (q_assign (by conv => lhs; whnf) ?_)
                          refine ev_nil (hK46 _ ?_); clear hK46
                          refine good_ret ?_
                          repeat (first | refine thenQ_ret ?_ | refine blockQ_ret ?_)
                          refine ret_tmp (st := _) rfl (by conv => lhs; whnf) rfl ?_
                          clear hK10 hK18
                          first | exact fT hyo | exact fF hno
                    · replace hb37 := neT hb37
                      have hno : ¬ pumpOk s cs := pm_no hcc (fun h => by omega)
                      refine qo_q rfl (q_pickT rfl (by conv => lhs; whnf) ?_)
                      refine qo_q rfl (q_pickF rfl (by conv => lhs; whnf) ?_)
                      refine qo_q rfl (q_move (by conv => lhs; whnf) ?_)
                      refine qo_skip rfl ?_
                      refine qo_skip rfl ?_
                      refine qo_skip rfl ?_
                      refine qo_skip rfl ?_
                      refine qo_skip rfl ?_
                      refine qo_skip rfl ?_
                      refine qo_skip rfl ?_
                      refine qo_skip rfl ?_
                      refine qo_skip rfl ?_
                      refine qo_skip rfl ?_
                      refine qo_skip rfl ?_
                      refine qo_skip rfl ?_
                      refine qo_skip rfl ?_
                      refine qo_skip rfl ?_
                      refine qo_skip rfl ?_
                      refine qo_skip rfl ?_
                      refine qo_skip rfl ?_
                      refine qo_skip rfl ?_
                      refine qo_skip rfl ?_
                      refine qo_skip rfl ?_
                      refine qo_skip rfl ?_
                      refine qo_skip rfl ?_
                      refine qo_skip rfl ?_
                      refine qo_skip rfl ?_
                      refine qo_skip rfl ?_
                      refine qo_skip rfl ?_
                      refine qo_skip rfl ?_
                      refine qo_skip rfl ?_
                      refine qo_skip rfl ?_
                      refine qo_skip rfl ?_
                      refine qo_q rfl (q_pickT rfl (by conv => lhs; whnf) ?_)
                      refine qo_nil ?_
                      refine ev_nil (hK20 _ ?_); clear hK20
                      refine good_condT rfl ?_
                      refine good_seq fun K47 hK47 => ?_
                      refine good_region rfl ?_
                      refine ev_q rfl (q_assign (by conv => lhs; whnf) ?_)
                      refine ev_nil (hK47 _ ?_); clear hK47
                      refine good_ret ?_
                      repeat (first | refine thenQ_ret ?_ | refine blockQ_ret ?_)
                      refine ret_tmp (st := _) rfl (by conv => lhs; whnf) rfl ?_
                      clear hK10 hK18
                      first | exact fT hyo | exact fF hno
            · replace hb22 := neT hb22
              have hno : ¬ pumpOk s cs := pm_no hcc (fun h => by omega)
              refine qo_q rfl (q_move (by conv => lhs; whnf) ?_)
              refine qo_skip rfl ?_
              refine qo_skip rfl ?_
              refine qo_skip rfl ?_
              refine qo_skip rfl ?_
              refine qo_skip rfl ?_
              refine qo_q rfl (q_pickT rfl (by conv => lhs; whnf) ?_)
              refine qo_q rfl (q_move (by conv => lhs; whnf) ?_)
              refine qo_skip rfl ?_
              refine qo_skip rfl ?_
              refine qo_skip rfl ?_
              refine qo_skip rfl ?_
              refine qo_skip rfl ?_
              refine qo_q rfl (q_pickT rfl (by conv => lhs; whnf) ?_)
              refine qo_q rfl (q_move (by conv => lhs; whnf) ?_)
              refine qo_skip rfl ?_
              refine qo_skip rfl ?_
              refine qo_skip rfl ?_
              refine qo_skip rfl ?_
              refine qo_skip rfl ?_
              refine qo_skip rfl ?_
              refine qo_skip rfl ?_
              refine qo_skip rfl ?_
              refine qo_q rfl (q_pickT rfl (by conv => lhs; whnf) ?_)
              refine qo_q rfl (q_move (by conv => lhs; whnf) ?_)
              refine qo_skip rfl ?_
              refine qo_skip rfl ?_
              refine qo_skip rfl ?_
              refine qo_skip rfl ?_
              refine qo_skip rfl ?_
              refine qo_skip rfl ?_
              refine qo_skip rfl ?_
              refine qo_skip rfl ?_
              refine qo_skip rfl ?_
              refine qo_skip rfl ?_
              refine qo_skip rfl ?_
              refine qo_skip rfl ?_
              refine qo_skip rfl ?_
              refine qo_skip rfl ?_
              refine qo_skip rfl ?_
              refine qo_skip rfl ?_
              refine qo_skip rfl ?_
              refine qo_skip rfl ?_
              refine qo_skip rfl ?_
              refine qo_skip rfl ?_
              refine qo_skip rfl ?_
              refine qo_skip rfl ?_
              refine qo_skip rfl ?_
              refine qo_skip rfl ?_
              refine qo_skip rfl ?_
              refine qo_skip rfl ?_
              refine qo_skip rfl ?_
              refine qo_skip rfl ?_
              refine qo_skip rfl ?_
              refine qo_skip rfl ?_
              refine qo_q rfl (q_pickT rfl (by conv => lhs; whnf) ?_)
              refine qo_nil ?_
              refine ev_nil (hK20 _ ?_); clear hK20
              refine good_condT rfl ?_
              refine good_seq fun K48 hK48 => ?_
              refine good_region rfl ?_
              refine ev_q rfl (q_assign (by conv => lhs; whnf) ?_)
              refine ev_nil (hK48 _ ?_); clear hK48
              refine good_ret ?_
              repeat (first | refine thenQ_ret ?_ | refine blockQ_ret ?_)
              refine ret_tmp (st := _) rfl (by conv => lhs; whnf) rfl ?_
              clear hK10 hK18
              first | exact fT hyo | exact fF hno
      · replace hb9 := dT hb9
        have hno : ¬ pumpOk s cs := fun h => by have := h.2.1; omega
        refine ev_q rfl (q_pickF rfl (by conv => lhs; whnf) ?_)
        refine ev_nil (hK3 _ ?_); clear hK3
        refine good_condT rfl ?_
        refine good_seq fun K49 hK49 => ?_
        refine good_region rfl ?_
        refine ev_q rfl (q_assign (by conv => lhs; whnf) ?_)
        refine ev_nil (hK49 _ ?_); clear hK49
        refine good_ret ?_
        repeat (first | refine thenQ_ret ?_ | refine blockQ_ret ?_)
        refine ret_tmp (st := _) rfl (by conv => lhs; whnf) rfl ?_
        clear hK2
        first | exact fT hyo | exact fF hno
    · replace hb7 := dT hb7
      have hno : ¬ pumpOk s cs := fun h => by have := h.2.1; omega
      refine ev_q rfl (q_pickF rfl (by conv => lhs; whnf) ?_)
      refine ev_q rfl (q_move (by conv => lhs; whnf) ?_)
      refine ev_skip rfl ?_
      refine ev_skip rfl ?_
      refine ev_skip rfl ?_
      refine ev_skip rfl ?_
      refine ev_q rfl (q_pickT rfl (by conv => lhs; whnf) ?_)
      refine ev_nil (hK3 _ ?_); clear hK3
      refine good_condT rfl ?_
      refine good_seq fun K50 hK50 => ?_
      refine good_region rfl ?_
      refine ev_q rfl (q_assign (by conv => lhs; whnf) ?_)
      refine ev_nil (hK50 _ ?_); clear hK50
      refine good_ret ?_
      repeat (first | refine thenQ_ret ?_ | refine blockQ_ret ?_)
      refine ret_tmp (st := _) rfl (by conv => lhs; whnf) rfl ?_
      clear hK2
      first | exact fT hyo | exact fF hno

-- spec.l08Ok
set_option maxRecDepth 20000 in
set_option maxHeartbeats 2000000 in
theorem D_spec_l08Ok (s : ByteArray) (cs : List (List Int)) (hs : s.size ≤ 140737488351232) (hc : cs.length ≤ 5864062014805) : Den Tryd.prog 64 [.rp [.s (.string s), .lst 1 (cs.map lsI)]] (.s (.bool (decide (pumpOk s cs)))) := by
  refine den_of_good Tryd.func64 (by decide) rfl (Nat.le_of_ble_eq_true rfl) (Nat.le_of_ble_eq_true rfl) ?_
  refine good_seq fun K1 hK1 => ?_
  refine good_region rfl ?_
  refine ev_q rfl (q_assign (by conv => lhs; whnf) ?_)
  refine ev_nil (hK1 _ ?_); clear hK1
  refine good_seq fun K2 hK2 => ?_
  refine good_seq fun K3 hK3 => ?_
  refine good_region rfl ?_
  refine ev_q rfl (q_move (by conv => lhs; whnf) ?_)
  refine ev_q rfl (q_nilCheck (by conv => lhs; whnf) rfl ?_)
  refine ev_q rfl (q_fieldAddr fO47_0 rfl rfl ?_)
  refine ev_q rfl (q_load tA9 rfl ?_)
  refine ev_q rfl (q_callB rfl rfl (rfl) (D_spec_l01Name _ hs) ?_)
  intro b4 hb4; cases b4
  · first | replace hb4 := dF hb4 | skip
    have hno : ¬ pumpOk s cs := fun h => by have h2 := h.1; first | (rw [← hb4] at h2; cases h2) | exact hb4 h2
    refine ev_q rfl (q_not rfl rfl ?_)
    refine ev_q rfl (q_move (by conv => lhs; whnf) ?_)
    refine ev_skip rfl ?_
    refine ev_skip rfl ?_
    refine ev_skip rfl ?_
    refine ev_skip rfl ?_
    refine ev_skip rfl ?_
    refine ev_skip rfl ?_
    refine ev_q rfl (q_pickT rfl (by conv => lhs; whnf) ?_)
    refine ev_q rfl (q_move (by conv => lhs; whnf) ?_)
    refine ev_skip rfl ?_
    refine ev_skip rfl ?_
    refine ev_skip rfl ?_
    refine ev_skip rfl ?_
    refine ev_skip rfl ?_
    refine ev_skip rfl ?_
    refine ev_q rfl (q_pickT rfl (by conv => lhs; whnf) ?_)
    refine ev_nil (hK3 _ ?_); clear hK3
    refine good_condT rfl ?_
    refine good_seq fun K5 hK5 => ?_
    refine good_region rfl ?_
    refine ev_q rfl (q_assign (by conv => lhs; whnf) ?_)
    refine ev_nil (hK5 _ ?_); clear hK5
    refine good_ret ?_
    repeat (first | refine thenQ_ret ?_ | refine blockQ_ret ?_)
    refine ret_tmp (st := _) rfl (by conv => lhs; whnf) rfl ?_
    clear hK2
    first | exact fT hyo | exact fF hno
  · first | replace hb4 := dT hb4 | skip
    have hnm : isName s = true := by first | exact hb4 | exact hb4.symm
    refine ev_q rfl (q_not rfl rfl ?_)
    refine ev_q rfl (q_move (by conv => lhs; whnf) ?_)
    refine ev_q rfl (q_move (by conv => lhs; whnf) ?_)
    refine ev_q rfl (q_nilCheck (by conv => lhs; whnf) rfl ?_)
    refine ev_q rfl (q_fieldAddr fO47_1 rfl rfl ?_)
    refine ev_q rfl (q_load tA42 rfl ?_)
    refine ev_q rfl (q_len tEs42 rfl ?_)
    intro n6 hn6
    try simp only [List.length_map] at hn6
    refine ev_q rfl (q_int rfl rfl ?_)
    intro b7 hb7; cases b7
    · replace hb7 := dF hb7
      refine ev_q rfl (q_pickF rfl (by conv => lhs; whnf) ?_)
      refine ev_q rfl (q_move (by conv => lhs; whnf) ?_)
      refine ev_q rfl (q_move (by conv => lhs; whnf) ?_)
      refine ev_q rfl (q_nilCheck (by conv => lhs; whnf) rfl ?_)
      refine ev_q rfl (q_fieldAddr fO47_1 rfl rfl ?_)
      refine ev_q rfl (q_load tA42 rfl ?_)
      refine ev_q rfl (q_len tEs42 rfl ?_)
      intro n8 hn8
      try simp only [List.length_map] at hn8
      refine ev_q rfl (q_int rfl rfl ?_)
      intro b9 hb9; cases b9
      · replace hb9 := dF hb9
        have hl28 : 2 ≤ cs.length ∧ cs.length ≤ 8 := by omega
        refine ev_q rfl (q_pickF rfl (by conv => lhs; whnf) ?_)
        refine ev_nil (hK3 _ ?_); clear hK3
        refine good_condF rfl ?_
        refine good_skip (hK2 _ ?_); clear hK2
        refine good_seq fun K10 hK10 => ?_
        refine good_seq fun K11 hK11 => ?_
        refine good_region rfl ?_
        refine ev_q rfl (q_assign (by conv => lhs; whnf) ?_)
        refine ev_nil (hK11 _ ?_); clear hK11
        refine good_block ?_
        refine good_loop (α := Nat) (fun i => { env := upd (upd ((fun _ => .junk)) 0 (.rp [.s (.string s), .lst 1 (cs.map lsI)])) 3 (.s (.int .i64 ((i : Int)))), H := fun _ => none }) (fun i => i ≤ cs.length ∧ ∀ (j : Nat) (c : List Int), j < i → cs[j]? = some c → okPc cs j c) (fun i => cs.length - i) 0 ?_ ?_ ?_
        · exact ⟨Nat.zero_le _, fun j u hj => by omega⟩
        · refine sub_weak ?_ ?_
          · exact weakH_none _
          · refine weakE_upd ?e3 ?r3 (weakE_upd ?e0 ?r0 (weakE_junk _ _))
            case e0 => first | rfl | exact fI (by omega) | (simp_all)
            case r0 => intro h hh; cases hh
            case e3 => first | rfl | exact fI (by omega) | (simp_all)
            case r3 => intro h hh; cases hh
        · rintro i ⟨hI, hJ⟩
          refine good_seq fun K12 hK12 => ?_
          refine good_seq fun K13 hK13 => ?_
          refine good_region rfl ?_
          refine ev_q rfl (q_move (by conv => lhs; whnf) ?_)
          refine ev_q rfl (q_move (by conv => lhs; whnf) ?_)
          refine ev_q rfl (q_nilCheck (by conv => lhs; whnf) rfl ?_)
          refine ev_q rfl (q_fieldAddr fO47_1 rfl rfl ?_)
          refine ev_q rfl (q_load tA42 rfl ?_)
          refine ev_q rfl (q_len tEs42 rfl ?_)
          intro n14 hn14
          try simp only [List.length_map] at hn14
          refine ev_q rfl (q_int rfl rfl ?_)
          intro b15 hb15; cases b15
          · replace hb15 := dF hb15
            have hyo : pumpOk s cs := pm_all hnm hl28 hJ (by omega)
            refine ev_nil (hK13 _ ?_); clear hK13
            refine good_condF rfl ?_
            refine good_exit ?_
            repeat (first | refine thenQ_exit ?_ | refine blockQ_pass rfl ?_)
            refine blockQ_exit (hK10 _ ?_); clear hK10
            refine good_seq fun K16 hK16 => ?_
            refine good_region rfl ?_
            refine ev_q rfl (q_assign (by conv => lhs; whnf) ?_)
            refine ev_nil (hK16 _ ?_); clear hK16
            refine good_ret ?_
            repeat (first | refine thenQ_ret ?_ | refine blockQ_ret ?_)
            refine ret_tmp (st := _) rfl (by conv => lhs; whnf) rfl ?_
            clear hK12
            first | exact fT hyo | exact fF hno
          · replace hb15 := dT hb15
            obtain ⟨c, hcc⟩ := getL (xs := cs) (n := (i : Int)) (by omega) (by omega)
            replace hcc : cs[i]? = some c := hcc
            refine ev_nil (hK13 _ ?_); clear hK13
            refine good_condT rfl ?_
            refine good_skip (hK12 _ ?_); clear hK12
            refine good_seq fun K17 hK17 => ?_
            refine good_block ?_
            refine good_seq fun K18 hK18 => ?_
            refine good_region rfl ?_
            refine ev_q rfl (q_move (by conv => lhs; whnf) ?_)
            refine ev_q rfl (q_nilCheck (by conv => lhs; whnf) rfl ?_)
            refine ev_q rfl (q_fieldAddr fO47_1 rfl rfl ?_)
            refine ev_q rfl (q_load tA42 rfl ?_)
            refine ev_q rfl (q_move (by conv => lhs; whnf) ?_)
            refine ev_q rfl (q_idx tE42 rfl rfl (by first | decide | exact Int.natCast_nonneg _ | omega) (by exact map_get hcc) rfl ?_)
            refine ev_q rfl (q_load tA69 rfl ?_)
            refine ev_q rfl (q_assign (by conv => lhs; whnf) ?_)
            refine ev_nil (hK18 _ ?_); clear hK18
            refine good_seq fun K19 hK19 => ?_
            refine good_seq fun K20 hK20 => ?_
            refine good_region rfl ?_
            refine ev_q rfl (q_move (by conv => lhs; whnf) ?_)
            refine ev_q rfl (q_len tEs69 rfl ?_)
            intro n21 hn21
            try simp only [List.length_map] at hn21
            refine ev_q rfl (q_int rfl rfl ?_)
            intro b22 hb22; cases b22
            · replace hb22 := neF hb22
              refine ev_q rfl (q_move (by conv => lhs; whnf) ?_)
              refine ev_q rfl (q_move (by conv => lhs; whnf) ?_)
              refine ev_q rfl (q_idx tE69 rfl rfl (by first | decide | exact Int.natCast_nonneg _ | omega) (by exact cx_get (by omega)) rfl ?_)
              refine ev_q rfl (q_load tA2 rfl ?_)
              refine ev_q rfl (q_callB rfl rfl (rfl) (D_spec_l02Flow ..) ?_)
              intro b23 hb23; cases b23
              · first | replace hb23 := dF hb23 | skip
                have hno : ¬ pumpOk s cs := pm_no hcc (fun h => by omega)
                refine ev_q rfl (q_not rfl rfl ?_)
                refine ev_q rfl (q_pickF rfl (by conv => lhs; whnf) ?_)
                refine ev_q rfl (q_move (by conv => lhs; whnf) ?_)
                refine ev_skip rfl ?_
                refine ev_skip rfl ?_
                refine ev_skip rfl ?_
                refine ev_skip rfl ?_
                refine ev_skip rfl ?_
                refine ev_q rfl (q_pickT rfl (by conv => lhs; whnf) ?_)
                refine ev_nil (hK20 _ ?_); clear hK20
                refine good_condT rfl ?_
                refine good_seq fun K24 hK24 => ?_
                refine good_region rfl ?_
                refine ev_q rfl (q_assign (by conv => lhs; whnf) ?_)
                refine ev_nil (hK24 _ ?_); clear hK24
                refine good_ret ?_
                repeat (first | refine thenQ_ret ?_ | refine blockQ_ret ?_)
                refine ret_tmp (st := _) rfl (by conv => lhs; whnf) rfl ?_
                clear hK10 hK17 hK19
                first | exact fT hyo | exact fF hno
              · first | replace hb23 := dT hb23 | skip
                refine ev_q rfl (q_not rfl rfl ?_)
                refine ev_q rfl (q_pickF rfl (by conv => lhs; whnf) ?_)
                refine ev_q rfl (q_move (by conv => lhs; whnf) ?_)
                refine ev_q rfl (q_move (by conv => lhs; whnf) ?_)
                refine ev_q rfl (q_idx tE69 rfl rfl (by first | decide | exact Int.natCast_nonneg _ | omega) (by exact cy_get (by omega)) rfl ?_)
                refine ev_q rfl (q_load tA2 rfl ?_)
                refine ev_q rfl (q_callB rfl rfl (rfl) (D_spec_l00In ..) ?_)
                intro b25 hb25; cases b25
                · first | replace hb25 := dF hb25 | skip
                  have hno : ¬ pumpOk s cs := pm_no hcc (fun h => by omega)
                  refine ev_q rfl (q_not rfl rfl ?_)
                  refine ev_q rfl (q_pickF rfl (by conv => lhs; whnf) ?_)
                  refine ev_nil (hK20 _ ?_); clear hK20
                  refine good_condT rfl ?_
                  refine good_seq fun K26 hK26 => ?_
                  refine good_region rfl ?_
                  refine ev_q rfl (q_assign (by conv => lhs; whnf) ?_)
                  refine ev_nil (hK26 _ ?_); clear hK26
                  refine good_ret ?_
                  repeat (first | refine thenQ_ret ?_ | refine blockQ_ret ?_)
                  refine ret_tmp (st := _) rfl (by conv => lhs; whnf) rfl ?_
                  clear hK10 hK17 hK19
                  first | exact fT hyo | exact fF hno
                · first | replace hb25 := dT hb25 | skip
                  refine ev_q rfl (q_not rfl rfl ?_)
                  refine ev_q rfl (q_pickF rfl (by conv => lhs; whnf) ?_)
                  refine ev_nil (hK20 _ ?_); clear hK20
                  refine good_condF rfl ?_
                  refine good_skip (hK19 _ ?_); clear hK19
                  refine good_seq fun K27 hK27 => ?_
                  refine good_draw 44 hmix (by kernel_rfl) rfl ?_
                  refine qo_q rfl (q_move (by conv => lhs; whnf) ?_)
                  refine qo_q rfl (q_int rfl rfl ?_)
                  intro b28 hb28; cases b28
                  · replace hb28 := eqF hb28
                    refine qo_q rfl (q_move (by conv => lhs; whnf) ?_)
                    refine qo_skip rfl ?_
                    refine qo_skip rfl ?_
                    refine qo_skip rfl ?_
                    refine qo_skip rfl ?_
                    refine qo_q rfl (q_pickF rfl (by conv => lhs; whnf) ?_)
                    refine qo_q rfl (q_move (by conv => lhs; whnf) ?_)
                    refine qo_q rfl (q_move (by conv => lhs; whnf) ?_)
                    refine qo_q rfl (q_int rfl rfl ?_)
                    intro b29 hb29; cases b29
                    · replace hb29 := dF hb29
                      have hok : okPc cs i c := by first | exact hok0 | (exfalso; omega)
                      refine qo_q rfl (q_move (by conv => lhs; whnf) ?_)
                      refine qo_skip rfl ?_
                      refine qo_skip rfl ?_
                      refine qo_skip rfl ?_
                      refine qo_skip rfl ?_
                      refine qo_skip rfl ?_
                      refine qo_skip rfl ?_
                      refine qo_skip rfl ?_
                      refine qo_skip rfl ?_
                      refine qo_skip rfl ?_
                      refine qo_skip rfl ?_
                      refine qo_skip rfl ?_
                      refine qo_skip rfl ?_
                      refine qo_skip rfl ?_
                      refine qo_skip rfl ?_
                      refine qo_skip rfl ?_
                      refine qo_skip rfl ?_
                      refine qo_skip rfl ?_
                      refine qo_skip rfl ?_
                      refine qo_skip rfl ?_
                      refine qo_skip rfl ?_
                      refine qo_skip rfl ?_
                      refine qo_skip rfl ?_
                      refine qo_skip rfl ?_
                      refine qo_skip rfl ?_
                      refine qo_skip rfl ?_
                      refine qo_skip rfl ?_
                      refine qo_skip rfl ?_
                      refine qo_skip rfl ?_
                      refine qo_skip rfl ?_
                      refine qo_skip rfl ?_
                      refine qo_q rfl (q_pickF rfl (by conv => lhs; whnf) ?_)
                      refine qo_q rfl (q_pickF rfl (by conv => lhs; whnf) ?_)
                      refine qo_nil ?_
                      refine ev_nil (hK27 _ ?_); clear hK27
                      refine good_condF rfl ?_
                      refine good_skip (hK17 _ ?_); clear hK17
                      refine good_region rfl ?_
                      refine ev_q rfl (q_move (by conv => lhs; whnf) ?_)
                      refine ev_q rfl (q_int rfl rfl ?_)
                      intro n30 hn30
                      replace hn30 := in64 hn30 (by omega) (by omega)
                      refine ev_q rfl (q_assign (by conv => lhs; whnf) ?_)
                      refine ev_nil ?_
                      clear hK10
                      refine ⟨i + 1, ?_, ?_, ?_⟩
                      · exact ⟨by omega, all_extI (Q := fun j (c : List Int) => okPc cs j c) hJ hcc hok⟩
                      · first | omega | (simp only []; omega) | (dsimp only; omega)
                      · refine sub_weak ?_ ?_
                        · exact weakH_none _
                        · refine weakE_upd ?e3 ?r3 (weakE_upd ?e0 ?r0 (weakE_junk _ _))
                          case e0 => first | rfl | exact fI (by omega) | (simp_all)
                          case r0 => intro h hh; cases hh
                          case e3 => first | rfl | exact fI (by omega) | (simp_all)
                          case r3 => intro h hh; cases hh
                    · replace hb29 := dT hb29
                      refine qo_q rfl (q_move (by conv => lhs; whnf) ?_)
                      refine qo_q rfl (q_move (by conv => lhs; whnf) ?_)
                      refine qo_q rfl (q_nilCheck (by conv => lhs; whnf) rfl ?_)
                      refine qo_q rfl (q_fieldAddr fO47_1 rfl rfl ?_)
                      refine qo_q rfl (q_load tA42 rfl ?_)
                      refine qo_q rfl (q_move (by conv => lhs; whnf) ?_)
                      refine qo_q rfl (q_int rfl rfl ?_)
                      intro n31 hn31
                      replace hn31 := in64 hn31 (by omega) (by omega)
                      obtain ⟨p, hp⟩ := getL (xs := cs) (n := n31) (by omega) (by omega)
                      have hp1 : cs[i - 1]? = some p := by rw [← hp]; congr 1; omega
                      have hpo := hJ (i - 1) p (by omega) hp1
                      have hpl := hpo.1
                      refine qo_q rfl (q_idx tE42 rfl rfl (by first | decide | exact Int.natCast_nonneg _ | omega) (by exact map_get hp) rfl ?_)
                      refine qo_q rfl (q_load tA69 rfl ?_)
                      refine qo_q rfl (q_idx tE69 rfl rfl (by first | decide | exact Int.natCast_nonneg _ | omega) (by exact cx_get (by omega)) rfl ?_)
                      refine qo_q rfl (q_load tA2 rfl ?_)
                      refine qo_q rfl (q_move (by conv => lhs; whnf) ?_)
                      refine qo_q rfl (q_idx tE69 rfl rfl (by first | decide | exact Int.natCast_nonneg _ | omega) (by exact cx_get (by omega)) rfl ?_)
                      refine qo_q rfl (q_load tA2 rfl ?_)
                      refine qo_q rfl (q_int rfl rfl ?_)
                      intro b32 hb32; cases b32
                      · replace hb32 := dF hb32
                        refine qo_q rfl (q_move (by conv => lhs; whnf) ?_)
                        refine qo_q rfl (q_move (by conv => lhs; whnf) ?_)
                        refine qo_q rfl (q_nilCheck (by conv => lhs; whnf) rfl ?_)
                        refine qo_q rfl (q_fieldAddr fO47_1 rfl rfl ?_)
                        refine qo_q rfl (q_load tA42 rfl ?_)
                        refine qo_q rfl (q_move (by conv => lhs; whnf) ?_)
                        refine qo_q rfl (q_int rfl rfl ?_)
                        intro n33 hn33
                        replace hn33 := in64 hn33 (by omega) (by omega)
                        refine qo_q rfl (q_idx tE42 rfl rfl (by first | decide | exact Int.natCast_nonneg _ | omega) (by exact map_get (show cs[n33.toNat]? = some p by rw [← hp1]; congr 1; omega)) rfl ?_)
                        refine qo_q rfl (q_load tA69 rfl ?_)
                        refine qo_q rfl (q_idx tE69 rfl rfl (by first | decide | exact Int.natCast_nonneg _ | omega) (by exact cy_get (by omega)) rfl ?_)
                        refine qo_q rfl (q_load tA2 rfl ?_)
                        refine qo_q rfl (q_move (by conv => lhs; whnf) ?_)
                        refine qo_q rfl (q_idx tE69 rfl rfl (by first | decide | exact Int.natCast_nonneg _ | omega) (by exact cy_get (by omega)) rfl ?_)
                        refine qo_q rfl (q_load tA2 rfl ?_)
                        refine qo_q rfl (q_int rfl rfl ?_)
                        intro b34 hb34; cases b34
                        · replace hb34 := dF hb34
                          have hok := pm_oks (cs := cs) (c := c) (by omega) (by omega) (by omega) (by omega) hp1 (by omega)
                          refine qo_q rfl (q_pickF rfl (by conv => lhs; whnf) ?_)
                          refine qo_q rfl (q_pickT rfl (by conv => lhs; whnf) ?_)
                          refine qo_q rfl (q_pickF rfl (by conv => lhs; whnf) ?_)
                          refine qo_nil ?_
                          refine ev_nil (hK27 _ ?_); clear hK27
                          refine good_condF rfl ?_
                          refine good_skip (hK17 _ ?_); clear hK17
                          refine good_region rfl ?_
                          refine ev_q rfl (q_move (by conv => lhs; whnf) ?_)
                          refine ev_q rfl (q_int rfl rfl ?_)
                          intro n35 hn35
                          replace hn35 := in64 hn35 (by omega) (by omega)
                          refine ev_q rfl (q_assign (by conv => lhs; whnf) ?_)
                          refine ev_nil ?_
                          clear hK10
                          refine ⟨i + 1, ?_, ?_, ?_⟩
                          · exact ⟨by omega, all_extI (Q := fun j (c : List Int) => okPc cs j c) hJ hcc hok⟩
                          · first | omega | (simp only []; omega) | (dsimp only; omega)
                          · refine sub_weak ?_ ?_
                            · exact weakH_none _
                            · refine weakE_upd ?e3 ?r3 (weakE_upd ?e0 ?r0 (weakE_junk _ _))
                              case e0 => first | rfl | exact fI (by omega) | (simp_all)
                              case r0 => intro h hh; cases hh
                              case e3 => first | rfl | exact fI (by omega) | (simp_all)
                              case r3 => intro h hh; cases hh
                        · replace hb34 := dT hb34
                          have hno : ¬ pumpOk s cs := pm_no2 hcc (by omega) hp1 (fun h => by omega)
                          refine qo_q rfl (q_pickF rfl (by conv => lhs; whnf) ?_)
                          refine qo_q rfl (q_pickT rfl (by conv => lhs; whnf) ?_)
                          refine qo_q rfl (q_pickF rfl (by conv => lhs; whnf) ?_)
                          refine qo_nil ?_
                          refine ev_nil (hK27 _ ?_); clear hK27
                          refine good_condT rfl ?_
                          refine good_seq fun K36 hK36 => ?_
                          refine good_region rfl ?_
                          refine ev_q rfl (q_assign (by conv => lhs; whnf) ?_)
                          refine ev_nil (hK36 _ ?_); clear hK36
                          refine good_ret ?_
                          repeat (first | refine thenQ_ret ?_ | refine blockQ_ret ?_)
                          refine ret_tmp (st := _) rfl (by conv => lhs; whnf) rfl ?_
                          clear hK10 hK17
                          first | exact fT hyo | exact fF hno
                      · replace hb32 := dT hb32
                        have hno : ¬ pumpOk s cs := pm_no2 hcc (by omega) hp1 (fun h => by omega)
                        refine qo_q rfl (q_move (by conv => lhs; whnf) ?_)
                        refine qo_skip rfl ?_
                        refine qo_skip rfl ?_
                        refine qo_skip rfl ?_
                        refine qo_skip rfl ?_
                        refine qo_skip rfl ?_
                        refine qo_skip rfl ?_
                        refine qo_skip rfl ?_
                        refine qo_skip rfl ?_
                        refine qo_skip rfl ?_
                        refine qo_skip rfl ?_
                        refine qo_skip rfl ?_
                        refine qo_skip rfl ?_
                        refine qo_skip rfl ?_
                        refine qo_skip rfl ?_
                        refine qo_q rfl (q_pickT rfl (by conv => lhs; whnf) ?_)
                        refine qo_q rfl (q_pickT rfl (by conv => lhs; whnf) ?_)
                        refine qo_q rfl (q_pickF rfl (by conv => lhs; whnf) ?_)
                        refine qo_nil ?_
                        refine ev_nil (hK27 _ ?_); clear hK27
                        refine good_condT rfl ?_
                        refine good_seq fun K37 hK37 => ?_
                        refine good_region rfl ?_
                        refine ev_q rfl (q_assign (by conv => lhs; whnf) ?_)
                        refine ev_nil (hK37 _ ?_); clear hK37
                        refine good_ret ?_
                        repeat (first | refine thenQ_ret ?_ | refine blockQ_ret ?_)
                        refine ret_tmp (st := _) rfl (by conv => lhs; whnf) rfl ?_
                        clear hK10 hK17
                        first | exact fT hyo | exact fF hno
                  · replace hb28 := eqT hb28
                    refine qo_q rfl (q_move (by conv => lhs; whnf) ?_)
                    refine qo_q rfl (q_move (by conv => lhs; whnf) ?_)
                    refine qo_q rfl (q_idx tE69 rfl rfl (by first | decide | exact Int.natCast_nonneg _ | omega) (by exact cx_get (by omega)) rfl ?_)
                    refine qo_q rfl (q_load tA2 rfl ?_)
                    refine qo_q rfl (q_int rfl rfl ?_)
                    intro b38 hb38; cases b38
                    · replace hb38 := neF hb38
                      have hok0 := pm_ok0 (cs := cs) (c := c) (i := i) (by omega) (by omega) (by omega) (by omega) (by omega)
                      refine qo_q rfl (q_pickT rfl (by conv => lhs; whnf) ?_)
                      refine qo_q rfl (q_move (by conv => lhs; whnf) ?_)
                      refine qo_q rfl (q_move (by conv => lhs; whnf) ?_)
                      refine qo_q rfl (q_int rfl rfl ?_)
                      intro b39 hb39; cases b39
                      · replace hb39 := dF hb39
                        have hok : okPc cs i c := by first | exact hok0 | (exfalso; omega)
                        refine qo_q rfl (q_move (by conv => lhs; whnf) ?_)
                        refine qo_skip rfl ?_
                        refine qo_skip rfl ?_
                        refine qo_skip rfl ?_
                        refine qo_skip rfl ?_
                        refine qo_skip rfl ?_
                        refine qo_skip rfl ?_
                        refine qo_skip rfl ?_
                        refine qo_skip rfl ?_
                        refine qo_skip rfl ?_
                        refine qo_skip rfl ?_
                        refine qo_skip rfl ?_
                        refine qo_skip rfl ?_
                        refine qo_skip rfl ?_
                        refine qo_skip rfl ?_
                        refine qo_skip rfl ?_
                        refine qo_skip rfl ?_
                        refine qo_skip rfl ?_
                        refine qo_skip rfl ?_
                        refine qo_skip rfl ?_
                        refine qo_skip rfl ?_
                        refine qo_skip rfl ?_
                        refine qo_skip rfl ?_
                        refine qo_skip rfl ?_
                        refine qo_skip rfl ?_
                        refine qo_skip rfl ?_
                        refine qo_skip rfl ?_
                        refine qo_skip rfl ?_
                        refine qo_skip rfl ?_
                        refine qo_skip rfl ?_
                        refine qo_skip rfl ?_
                        refine qo_q rfl (q_pickF rfl (by conv => lhs; whnf) ?_)
                        refine qo_q rfl (q_pickF rfl (by conv => lhs; whnf) ?_)
                        refine qo_nil ?_
                        refine ev_nil (hK27 _ ?_); clear hK27
                        refine good_condF rfl ?_
                        refine good_skip (hK17 _ ?_); clear hK17
                        refine good_region rfl ?_
                        refine ev_q rfl (q_move (by conv => lhs; whnf) ?_)
                        refine ev_q rfl (q_int rfl rfl ?_)
                        intro n40 hn40
                        replace hn40 := in64 hn40 (by omega) (by omega)
                        refine ev_q rfl (q_assign (by conv => lhs; whnf) ?_)
                        refine ev_nil ?_
                        clear hK10
                        refine ⟨i + 1, ?_, ?_, ?_⟩
                        · exact ⟨by omega, all_extI (Q := fun j (c : List Int) => okPc cs j c) hJ hcc hok⟩
                        · first | omega | (simp only []; omega) | (dsimp only; omega)
                        · refine sub_weak ?_ ?_
                          · exact weakH_none _
                          · refine weakE_upd ?e3 ?r3 (weakE_upd ?e0 ?r0 (weakE_junk _ _))
                            case e0 => first | rfl | exact fI (by omega) | (simp_all)
                            case r0 => intro h hh; cases hh
                            case e3 => first | rfl | exact fI (by omega) | (simp_all)
                            case r3 => intro h hh; cases hh
                      · replace hb39 := dT hb39
                        refine qo_q rfl (q_move (by conv => lhs; whnf) ?_)
                        refine qo_q rfl (q_move (by conv => lhs; whnf) ?_)
                        refine qo_q rfl (q_nilCheck (by conv => lhs; whnf) rfl ?_)
                        refine qo_q rfl (q_fieldAddr fO47_1 rfl rfl ?_)
                        refine qo_q rfl (q_load tA42 rfl ?_)
                        refine qo_q rfl (q_move (by conv => lhs; whnf) ?_)
                        refine qo_q rfl (q_int rfl rfl ?_)
                        intro n41 hn41
                        replace hn41 := in64 hn41 (by omega) (by omega)
                        obtain ⟨p, hp⟩ := getL (xs := cs) (n := n41) (by omega) (by omega)
                        have hp1 : cs[i - 1]? = some p := by rw [← hp]; congr 1; omega
                        have hpo := hJ (i - 1) p (by omega) hp1
                        have hpl := hpo.1
                        refine qo_q rfl (q_idx tE42 rfl rfl (by first | decide | exact Int.natCast_nonneg _ | omega) (by exact map_get hp) rfl ?_)
                        refine qo_q rfl (q_load tA69 rfl ?_)
                        refine qo_q rfl (q_idx tE69 rfl rfl (by first | decide | exact Int.natCast_nonneg _ | omega) (by exact cx_get (by omega)) rfl ?_)
                        refine qo_q rfl (q_load tA2 rfl ?_)
                        refine qo_q rfl (q_move (by conv => lhs; whnf) ?_)
                        refine qo_q rfl (q_idx tE69 rfl rfl (by first | decide | exact Int.natCast_nonneg _ | omega) (by exact cx_get (by omega)) rfl ?_)
                        refine qo_q rfl (q_load tA2 rfl ?_)
                        refine qo_q rfl (q_int rfl rfl ?_)
                        intro b42 hb42; cases b42
                        · replace hb42 := dF hb42
                          refine qo_q rfl (q_move (by conv => lhs; whnf) ?_)
                          refine qo_q rfl (q_move (by conv => lhs; whnf) ?_)
                          refine qo_q rfl (q_nilCheck (by conv => lhs; whnf) rfl ?_)
                          refine qo_q rfl (q_fieldAddr fO47_1 rfl rfl ?_)
                          refine qo_q rfl (q_load tA42 rfl ?_)
                          refine qo_q rfl (q_move (by conv => lhs; whnf) ?_)
                          refine qo_q rfl (q_int rfl rfl ?_)
                          intro n43 hn43
                          replace hn43 := in64 hn43 (by omega) (by omega)
                          refine qo_q rfl (q_idx tE42 rfl rfl (by first | decide | exact Int.natCast_nonneg _ | omega) (by exact map_get (show cs[n43.toNat]? = some p by rw [← hp1]; congr 1; omega)) rfl ?_)
                          refine qo_q rfl (q_load tA69 rfl ?_)
                          refine qo_q rfl (q_idx tE69 rfl rfl (by first | decide | exact Int.natCast_nonneg _ | omega) (by exact cy_get (by omega)) rfl ?_)
                          refine qo_q rfl (q_load tA2 rfl ?_)
                          refine qo_q rfl (q_move (by conv => lhs; whnf) ?_)
                          refine qo_q rfl (q_idx tE69 rfl rfl (by first | decide | exact Int.natCast_nonneg _ | omega) (by exact cy_get (by omega)) rfl ?_)
                          refine qo_q rfl (q_load tA2 rfl ?_)
                          refine qo_q rfl (q_int rfl rfl ?_)
                          intro b44 hb44; cases b44
                          · replace hb44 := dF hb44
                            have hok := pm_oks (cs := cs) (c := c) (by omega) (by omega) (by omega) (by omega) hp1 (by omega)
                            refine qo_q rfl (q_pickF rfl (by conv => lhs; whnf) ?_)
                            refine qo_q rfl (q_pickT rfl (by conv => lhs; whnf) ?_)
                            refine qo_q rfl (q_pickF rfl (by conv => lhs; whnf) ?_)
                            refine qo_nil ?_
                            refine ev_nil (hK27 _ ?_); clear hK27
                            refine good_condF rfl ?_
                            refine good_skip (hK17 _ ?_); clear hK17
                            refine good_region rfl ?_
                            refine ev_q rfl (q_move (by conv => lhs; whnf) ?_)
                            refine ev_q rfl (q_int rfl rfl ?_)
                            intro n45 hn45
                            replace hn45 := in64 hn45 (by omega) (by omega)
                            refine ev_q rfl (q_assign (by conv => lhs; whnf) ?_)
                            refine ev_nil ?_
                            clear hK10
                            refine ⟨i + 1, ?_, ?_, ?_⟩
                            · exact ⟨by omega, all_extI (Q := fun j (c : List Int) => okPc cs j c) hJ hcc hok⟩
                            · first | omega | (simp only []; omega) | (dsimp only; omega)
                            · refine sub_weak ?_ ?_
                              · exact weakH_none _
                              · refine weakE_upd ?e3 ?r3 (weakE_upd ?e0 ?r0 (weakE_junk _ _))
                                case e0 => first | rfl | exact fI (by omega) | (simp_all)
                                case r0 => intro h hh; cases hh
                                case e3 => first | rfl | exact fI (by omega) | (simp_all)
                                case r3 => intro h hh; cases hh
                          · replace hb44 := dT hb44
                            have hno : ¬ pumpOk s cs := pm_no2 hcc (by omega) hp1 (fun h => by omega)
                            refine qo_q rfl (q_pickF rfl (by conv => lhs; whnf) ?_)
                            refine qo_q rfl (q_pickT rfl (by conv => lhs; whnf) ?_)
                            refine qo_q rfl (q_pickF rfl (by conv => lhs; whnf) ?_)
                            refine qo_nil ?_
                            refine ev_nil (hK27 _ ?_); clear hK27
                            refine good_condT rfl ?_
                            refine good_seq fun K46 hK46 => ?_
                            refine good_region rfl ?_
                            refine ev_q rfl (q_assign (by conv => lhs; whnf) ?_)
                            refine ev_nil (hK46 _ ?_); clear hK46
                            refine good_ret ?_
                            repeat (first | refine thenQ_ret ?_ | refine blockQ_ret ?_)
                            refine ret_tmp (st := _) rfl (by conv => lhs; whnf) rfl ?_
                            clear hK10 hK17
                            first | exact fT hyo | exact fF hno
                        · replace hb42 := dT hb42
                          have hno : ¬ pumpOk s cs := pm_no2 hcc (by omega) hp1 (fun h => by omega)
                          refine qo_q rfl (q_move (by conv => lhs; whnf) ?_)
                          refine qo_skip rfl ?_
                          refine qo_skip rfl ?_
                          refine qo_skip rfl ?_
                          refine qo_skip rfl ?_
                          refine qo_skip rfl ?_
                          refine qo_skip rfl ?_
                          refine qo_skip rfl ?_
                          refine qo_skip rfl ?_
                          refine qo_skip rfl ?_
                          refine qo_skip rfl ?_
                          refine qo_skip rfl ?_
                          refine qo_skip rfl ?_
                          refine qo_skip rfl ?_
                          refine qo_skip rfl ?_
                          refine qo_q rfl (q_pickT rfl (by conv => lhs; whnf) ?_)
                          refine qo_q rfl (q_pickT rfl (by conv => lhs; whnf) ?_)
                          refine qo_q rfl (q_pickF rfl (by conv => lhs; whnf) ?_)
                          refine qo_nil ?_
                          refine ev_nil (hK27 _ ?_); clear hK27
                          refine good_condT rfl ?_
                          refine good_seq fun K47 hK47 => ?_
                          refine good_region rfl ?_
                          refine ev_q rfl (q_assign (by conv => lhs; whnf) ?_)
                          refine ev_nil (hK47 _ ?_); clear hK47
                          refine good_ret ?_
                          repeat (first | refine thenQ_ret ?_ | refine blockQ_ret ?_)
                          refine ret_tmp (st := _) rfl (by conv => lhs; whnf) rfl ?_
                          clear hK10 hK17
                          first | exact fT hyo | exact fF hno
                    · replace hb38 := neT hb38
                      have hno : ¬ pumpOk s cs := pm_no hcc (fun h => by omega)
                      refine qo_q rfl (q_pickT rfl (by conv => lhs; whnf) ?_)
                      refine qo_q rfl (q_move (by conv => lhs; whnf) ?_)
                      refine qo_skip rfl ?_
                      refine qo_skip rfl ?_
                      refine qo_skip rfl ?_
                      refine qo_skip rfl ?_
                      refine qo_skip rfl ?_
                      refine qo_skip rfl ?_
                      refine qo_skip rfl ?_
                      refine qo_skip rfl ?_
                      refine qo_skip rfl ?_
                      refine qo_skip rfl ?_
                      refine qo_skip rfl ?_
                      refine qo_skip rfl ?_
                      refine qo_skip rfl ?_
                      refine qo_skip rfl ?_
                      refine qo_skip rfl ?_
                      refine qo_skip rfl ?_
                      refine qo_skip rfl ?_
                      refine qo_skip rfl ?_
                      refine qo_skip rfl ?_
                      refine qo_skip rfl ?_
                      refine qo_skip rfl ?_
                      refine qo_skip rfl ?_
                      refine qo_skip rfl ?_
                      refine qo_skip rfl ?_
                      refine qo_skip rfl ?_
                      refine qo_skip rfl ?_
                      refine qo_skip rfl ?_
                      refine qo_skip rfl ?_
                      refine qo_skip rfl ?_
                      refine qo_skip rfl ?_
                      refine qo_skip rfl ?_
                      refine qo_skip rfl ?_
                      refine qo_skip rfl ?_
                      refine qo_skip rfl ?_
                      refine qo_q rfl (q_pickT rfl (by conv => lhs; whnf) ?_)
                      refine qo_nil ?_
                      refine ev_nil (hK27 _ ?_); clear hK27
                      refine good_condT rfl ?_
                      refine good_seq fun K48 hK48 => ?_
                      refine good_region rfl ?_
                      refine ev_q rfl (q_assign (by conv => lhs; whnf) ?_)
                      refine ev_nil (hK48 _ ?_); clear hK48
                      refine good_ret ?_
                      repeat (first | refine thenQ_ret ?_ | refine blockQ_ret ?_)
                      refine ret_tmp (st := _) rfl (by conv => lhs; whnf) rfl ?_
                      clear hK10 hK17
                      first | exact fT hyo | exact fF hno
            · replace hb22 := neT hb22
              have hno : ¬ pumpOk s cs := pm_no hcc (fun h => by omega)
              refine ev_q rfl (q_move (by conv => lhs; whnf) ?_)
              refine ev_skip rfl ?_
              refine ev_skip rfl ?_
              refine ev_skip rfl ?_
              refine ev_skip rfl ?_
              refine ev_skip rfl ?_
              refine ev_q rfl (q_pickT rfl (by conv => lhs; whnf) ?_)
              refine ev_q rfl (q_move (by conv => lhs; whnf) ?_)
              refine ev_skip rfl ?_
              refine ev_skip rfl ?_
              refine ev_skip rfl ?_
              refine ev_skip rfl ?_
              refine ev_skip rfl ?_
              refine ev_q rfl (q_pickT rfl (by conv => lhs; whnf) ?_)
              refine ev_nil (hK20 _ ?_); clear hK20
              refine good_condT rfl ?_
              refine good_seq fun K49 hK49 => ?_
              refine good_region rfl ?_
              refine ev_q rfl (q_assign (by conv => lhs; whnf) ?_)
              refine ev_nil (hK49 _ ?_); clear hK49
              refine good_ret ?_
              repeat (first | refine thenQ_ret ?_ | refine blockQ_ret ?_)
              refine ret_tmp (st := _) rfl (by conv => lhs; whnf) rfl ?_
              clear hK10 hK17 hK19
              first | exact fT hyo | exact fF hno
      · replace hb9 := dT hb9
        have hno : ¬ pumpOk s cs := fun h => by have := h.2.1; omega
        refine ev_q rfl (q_pickF rfl (by conv => lhs; whnf) ?_)
        refine ev_nil (hK3 _ ?_); clear hK3
        refine good_condT rfl ?_
        refine good_seq fun K50 hK50 => ?_
        refine good_region rfl ?_
        refine ev_q rfl (q_assign (by conv => lhs; whnf) ?_)
        refine ev_nil (hK50 _ ?_); clear hK50
        refine good_ret ?_
        repeat (first | refine thenQ_ret ?_ | refine blockQ_ret ?_)
        refine ret_tmp (st := _) rfl (by conv => lhs; whnf) rfl ?_
        clear hK2
        first | exact fT hyo | exact fF hno
    · replace hb7 := dT hb7
      have hno : ¬ pumpOk s cs := fun h => by have := h.2.1; omega
      refine ev_q rfl (q_pickF rfl (by conv => lhs; whnf) ?_)
      refine ev_q rfl (q_move (by conv => lhs; whnf) ?_)
      refine ev_skip rfl ?_
      refine ev_skip rfl ?_
      refine ev_skip rfl ?_
      refine ev_skip rfl ?_
      refine ev_skip rfl ?_
      refine ev_skip rfl ?_
      refine ev_q rfl (q_pickT rfl (by conv => lhs; whnf) ?_)
      refine ev_nil (hK3 _ ?_); clear hK3
      refine good_condT rfl ?_
      refine good_seq fun K51 hK51 => ?_
      refine good_region rfl ?_
      refine ev_q rfl (q_assign (by conv => lhs; whnf) ?_)
      refine ev_nil (hK51 _ ?_); clear hK51
      refine good_ret ?_
      repeat (first | refine thenQ_ret ?_ | refine blockQ_ret ?_)
      refine ret_tmp (st := _) rfl (by conv => lhs; whnf) rfl ?_
      clear hK2
      first | exact fT hyo | exact fF hno

-- impl.PumpText
set_option maxRecDepth 20000 in
set_option maxHeartbeats 2000000 in
theorem D_impl_PumpText (s : ByteArray) (cs : List (List Int)) (hs : s.size ≤ 140737488351232) (hc : cs.length ≤ 5864062014805) : Den Tryd.prog 26 [.agg [.s (.string s), .lst 1 (cs.map lsI)]] (.s (.string (pmT s cs))) := by
  refine den_of_good Tryd.func26 (by decide) rfl (Nat.le_of_ble_eq_true rfl) (Nat.le_of_ble_eq_true rfl) ?_
  refine good_seq fun K1 hK1 => ?_
  refine good_region rfl ?_
  refine ev_k rfl (k_box (by conv => lhs; whnf) rfl rfl rfl ?_)
  refine ev_q rfl (q_assign (by conv => lhs; whnf) ?_)
  refine ev_nil (hK1 _ ?_); clear hK1
  refine good_seq fun K2 hK2 => ?_
  refine good_seq fun K3 hK3 => ?_
  refine good_region rfl ?_
  refine ev_q rfl (q_loadA tA47 rfl rfl rfl ?_)
  refine ev_q rfl (q_callB rfl rfl (rfl) (D_impl_ValidPump s cs hs hc) ?_)
  intro b4 hb4; cases b4
  · first | replace hb4 := dF hb4 | skip
    refine ev_q rfl (q_not rfl rfl ?_)
    refine ev_nil (hK3 _ ?_); clear hK3
    refine good_condT rfl ?_
    refine good_seq fun K5 hK5 => ?_
    refine good_region rfl ?_
    refine ev_q rfl (q_assign (by conv => lhs; whnf) ?_)
    refine ev_nil (hK5 _ ?_); clear hK5
    refine good_ret ?_
    repeat (first | refine thenQ_ret ?_ | refine blockQ_ret ?_)
    refine ret_tmp (st := _) rfl (by conv => lhs; whnf) rfl ?_
    clear hK2
    first | exact fS (pmT_n (by assumption)).symm | exact fS (by rw [pmT_y ok, List.take_length])
  · first | replace hb4 := dT hb4 | skip
    have ok : pumpOk s cs := hb4
    have hsz := nm_size ok.1
    have hl28 := ok.2.1
    refine ev_q rfl (q_not rfl rfl ?_)
    refine ev_nil (hK3 _ ?_); clear hK3
    refine good_condF rfl ?_
    refine good_skip (hK2 _ ?_); clear hK2
    refine good_seq fun K6 hK6 => ?_
    refine good_region rfl ?_
    refine ev_q rfl (q_fieldAddrP fO47_0 rfl rfl ?_)
    refine ev_q rfl (q_load tA9 rfl ?_)
    refine ev_q rfl (q_assign (by conv => lhs; whnf) ?_)
    refine ev_nil (hK6 _ ?_); clear hK6
    refine good_seq fun K7 hK7 => ?_
    refine good_seq fun K8 hK8 => ?_
    refine good_region rfl ?_
    refine ev_q rfl (q_fieldAddrP fO47_1 rfl rfl ?_)
    refine ev_q rfl (q_load tA42 rfl ?_)
    refine ev_q rfl (q_len tEs42 rfl ?_)
    intro n9 hn9
    try simp only [List.length_map] at hn9
    refine ev_q rfl (q_move (by conv => lhs; whnf) ?_)
    refine ev_nil (hK8 _ ?_); clear hK8
    refine good_block ?_
    refine good_loop (α := Nat) (fun i => { env := upd (upd (upd (upd ((fun _ => .junk)) 3 (.s (.string (tx (pmL s (cs.take i)))))) 12 (.lst 1 (cs.map lsI))) 13 (.s (.int .i64 ((cs.length : Int))))) 14 (.s (.int .i64 ((i : Int)))), H := fun _ => none }) (fun i => i ≤ cs.length) (fun i => cs.length - i) 0 ?_ ?_ ?_
    · exact Nat.zero_le _
    · refine sub_weak ?_ ?_
      · exact weakH_none _
      · refine weakE_upd ?e14 ?r14 (weakE_upd ?e13 ?r13 (weakE_upd ?e12 ?r12 (weakE_upd ?e3 ?r3 (weakE_junk _ _))))
        case e3 => first | rfl | exact fI (by omega) | (first | rfl | exact fS pm_0 | exact fS pm_0.symm | exact fS hst | exact fS hst.symm)
        case r3 => intro h hh; cases hh
        case e12 => first | rfl | exact fI (by omega) | (simp_all)
        case r12 => intro h hh; cases hh
        case e13 => first | rfl | exact fI (by omega) | (simp_all)
        case r13 => intro h hh; cases hh
        case e14 => first | rfl | exact fI (by omega) | (simp_all)
        case r14 => intro h hh; cases hh
    · rintro i hI
      refine good_seq fun K10 hK10 => ?_
      refine good_region rfl ?_
      refine ev_q rfl (q_int rfl rfl ?_)
      intro b11 hb11; cases b11
      · replace hb11 := dF hb11
        obtain rfl : i = cs.length := by omega
        refine ev_nil (hK10 _ ?_); clear hK10
        refine good_seq fun K12 hK12 => ?_
        refine good_condF rfl ?_
        refine good_exit ?_
        repeat (first | refine thenQ_exit ?_ | refine blockQ_pass rfl ?_)
        refine blockQ_exit (hK7 _ ?_); clear hK7
        refine good_seq fun K13 hK13 => ?_
        refine good_region rfl ?_
        refine ev_q rfl (q_move (by conv => lhs; whnf) ?_)
        refine ev_q rfl (q_assign (by conv => lhs; whnf) ?_)
        refine ev_nil (hK13 _ ?_); clear hK13
        refine good_ret ?_
        repeat (first | refine thenQ_ret ?_ | refine blockQ_ret ?_)
        refine ret_tmp (st := _) rfl (by conv => lhs; whnf) rfl ?_
        clear hK12
        first | exact fS (pmT_n (by assumption)).symm | exact fS (by rw [pmT_y ok, List.take_length])
      · replace hb11 := dT hb11
        obtain ⟨c, hcc⟩ := getL (xs := cs) (n := (i : Int)) (by omega) (by omega)
        replace hcc : cs[i]? = some c := hcc
        have hin := pm_in ok hcc
        have hcl := hin.1
        have hln := pm_len ok i (by omega)
        have hd1 := dec_size hin.2.1.1 hin.2.1.2
        have hd2 := dec_size hin.2.2.1 hin.2.2.2
        refine ev_nil (hK10 _ ?_); clear hK10
        refine good_seq fun K14 hK14 => ?_
        refine good_condT rfl ?_
        refine good_skip (hK14 _ ?_); clear hK14
        refine good_seq fun K15 hK15 => ?_
        refine good_block ?_
        refine good_seq fun K16 hK16 => ?_
        refine good_region rfl ?_
        refine ev_q rfl (q_idx tE42 rfl rfl (by first | decide | exact Int.natCast_nonneg _) (by exact map_get hcc) rfl ?_)
        refine ev_q rfl (q_load tA69 rfl ?_)
        refine ev_q rfl (q_assign (by conv => lhs; whnf) ?_)
        refine ev_nil (hK16 _ ?_); clear hK16
        refine good_draw 14 hmix (by kernel_rfl) rfl ?_
        refine qo_q rfl (q_move (by conv => lhs; whnf) ?_)
        refine qo_q rfl (q_move (by conv => lhs; whnf) ?_)
        refine qo_q rfl (q_idx tE69 rfl rfl (by first | decide | exact Int.natCast_nonneg _) (by exact cx_get (by omega)) rfl ?_)
        refine qo_q rfl (q_load tA2 rfl ?_)
        refine qo_q rfl (q_call rfl rfl (rfl) (D_impl_Decimal _ hin.2.1) rfl ?_)
        refine qo_q rfl (q_str rfl rfl ⟨by rw [l1_size]; omega, ?_⟩)
        intro s17 hs17
        have h1 := hs17
        have hz1 := sz_app hs17
        rw [l1_size] at hz1
        refine qo_q rfl (q_str rfl rfl ⟨by rw [l1_size]; omega, ?_⟩)
        intro s18 hs18
        have h2 := hs18
        have hz2 := sz_app hs18
        rw [l1_size] at hz2
        refine qo_q rfl (q_move (by conv => lhs; whnf) ?_)
        refine qo_q rfl (q_idx tE69 rfl rfl (by first | decide | exact Int.natCast_nonneg _) (by exact cy_get (by omega)) rfl ?_)
        refine qo_q rfl (q_load tA2 rfl ?_)
        refine qo_q rfl (q_call rfl rfl (rfl) (D_impl_Decimal _ hin.2.2) rfl ?_)
        refine qo_q rfl (q_str rfl rfl ⟨by omega, ?_⟩)
        intro s19 hs19
        have h3 := pc_eq (c := c) rfl rfl h1 h2 hs19
        have hz3 := sz_app hs19
        refine qo_q rfl (q_str rfl rfl ⟨by omega, ?_⟩)
        intro s20 hs20
        have hst := pm_s hcc h3 hs20
        refine qo_q rfl (q_assign (by conv => lhs; whnf) ?_)
        refine qo_nil ?_
        refine ev_nil (hK15 _ ?_); clear hK15
        refine good_region rfl ?_
        refine ev_q rfl (q_int rfl rfl ?_)
        intro n21 hn21
        replace hn21 := in64 hn21 (by omega) (by omega)
        refine ev_q rfl (q_move (by conv => lhs; whnf) ?_)
        refine ev_nil ?_
        clear hK7
        refine ⟨i + 1, ?_, ?_, ?_⟩
        · show _ ≤ _; omega
        · first | omega | (simp only []; omega) | (dsimp only; omega)
        · refine sub_weak ?_ ?_
          · exact weakH_none _
          · refine weakE_upd ?e14 ?r14 (weakE_upd ?e13 ?r13 (weakE_upd ?e12 ?r12 (weakE_upd ?e3 ?r3 (weakE_junk _ _))))
            case e3 => first | rfl | exact fI (by omega) | (first | rfl | exact fS pm_0 | exact fS pm_0.symm | exact fS hst | exact fS hst.symm)
            case r3 => intro h hh; cases hh
            case e12 => first | rfl | exact fI (by omega) | (simp_all)
            case r12 => intro h hh; cases hh
            case e13 => first | rfl | exact fI (by omega) | (simp_all)
            case r13 => intro h hh; cases hh
            case e14 => first | rfl | exact fI (by omega) | (simp_all)
            case r14 => intro h hh; cases hh

-- spec.l08Text
set_option maxRecDepth 20000 in
set_option maxHeartbeats 2000000 in
theorem D_spec_l08Text (s : ByteArray) (cs : List (List Int)) (ok : pumpOk s cs) : Den Tryd.prog 65 [.rp [.s (.string s), .lst 1 (cs.map lsI)]] (.s (.string (tx (pmL s cs)))) := by
  have hsz := nm_size ok.1
  have hl28 := ok.2.1
  refine den_of_good Tryd.func65 (by decide) rfl (Nat.le_of_ble_eq_true rfl) (Nat.le_of_ble_eq_true rfl) ?_
  refine good_seq fun K1 hK1 => ?_
  refine good_region rfl ?_
  refine ev_q rfl (q_assign (by conv => lhs; whnf) ?_)
  refine ev_nil (hK1 _ ?_); clear hK1
  refine good_seq fun K2 hK2 => ?_
  refine good_region rfl ?_
  refine ev_q rfl (q_move (by conv => lhs; whnf) ?_)
  refine ev_q rfl (q_nilCheck (by conv => lhs; whnf) rfl ?_)
  refine ev_q rfl (q_fieldAddr fO47_0 rfl rfl ?_)
  refine ev_q rfl (q_load tA9 rfl ?_)
  refine ev_q rfl (q_assign (by conv => lhs; whnf) ?_)
  refine ev_nil (hK2 _ ?_); clear hK2
  refine good_seq fun K3 hK3 => ?_
  refine good_seq fun K4 hK4 => ?_
  refine good_region rfl ?_
  refine ev_q rfl (q_assign (by conv => lhs; whnf) ?_)
  refine ev_nil (hK4 _ ?_); clear hK4
  refine good_block ?_
  refine good_loop (α := Nat) (fun i => { env := upd (upd (upd ((fun _ => .junk)) 0 (.rp [.s (.string s), .lst 1 (cs.map lsI)])) 3 (.s (.string (tx (pmL s (cs.take i)))))) 4 (.s (.int .i64 ((i : Int)))), H := fun _ => none }) (fun i => i ≤ cs.length) (fun i => cs.length - i) 0 ?_ ?_ ?_
  · exact Nat.zero_le _
  · refine sub_weak ?_ ?_
    · exact weakH_none _
    · refine weakE_upd ?e4 ?r4 (weakE_upd ?e3 ?r3 (weakE_upd ?e0 ?r0 (weakE_junk _ _)))
      case e0 => first | rfl | exact fI (by omega) | (simp_all)
      case r0 => intro h hh; cases hh
      case e3 => first | rfl | exact fI (by omega) | (first | rfl | exact fS pm_0 | exact fS pm_0.symm | exact fS hst | exact fS hst.symm)
      case r3 => intro h hh; cases hh
      case e4 => first | rfl | exact fI (by omega) | (simp_all)
      case r4 => intro h hh; cases hh
  · rintro i hI
    refine good_seq fun K5 hK5 => ?_
    refine good_seq fun K6 hK6 => ?_
    refine good_region rfl ?_
    refine ev_q rfl (q_move (by conv => lhs; whnf) ?_)
    refine ev_q rfl (q_move (by conv => lhs; whnf) ?_)
    refine ev_q rfl (q_nilCheck (by conv => lhs; whnf) rfl ?_)
    refine ev_q rfl (q_fieldAddr fO47_1 rfl rfl ?_)
    refine ev_q rfl (q_load tA42 rfl ?_)
    refine ev_q rfl (q_len tEs42 rfl ?_)
    intro n7 hn7
    try simp only [List.length_map] at hn7
    refine ev_q rfl (q_int rfl rfl ?_)
    intro b8 hb8; cases b8
    · replace hb8 := dF hb8
      obtain rfl : i = cs.length := by omega
      refine ev_nil (hK6 _ ?_); clear hK6
      refine good_condF rfl ?_
      refine good_exit ?_
      repeat (first | refine thenQ_exit ?_ | refine blockQ_pass rfl ?_)
      refine blockQ_exit (hK3 _ ?_); clear hK3
      refine good_seq fun K9 hK9 => ?_
      refine good_region rfl ?_
      refine ev_q rfl (q_move (by conv => lhs; whnf) ?_)
      refine ev_q rfl (q_assign (by conv => lhs; whnf) ?_)
      refine ev_nil (hK9 _ ?_); clear hK9
      refine good_ret ?_
      repeat (first | refine thenQ_ret ?_ | refine blockQ_ret ?_)
      refine ret_tmp (st := _) rfl (by conv => lhs; whnf) rfl ?_
      clear hK5
      exact fS (by rw [List.take_length])
    · replace hb8 := dT hb8
      obtain ⟨c, hcc⟩ := getL (xs := cs) (n := (i : Int)) (by omega) (by omega)
      replace hcc : cs[i]? = some c := hcc
      have hin := pm_in ok hcc
      have hcl := hin.1
      have hln := pm_len ok i (by omega)
      have hd1 := dec_size hin.2.1.1 hin.2.1.2
      have hd2 := dec_size hin.2.2.1 hin.2.2.2
      refine ev_nil (hK6 _ ?_); clear hK6
      refine good_condT rfl ?_
      refine good_skip (hK5 _ ?_); clear hK5
      refine good_seq fun K10 hK10 => ?_
      refine good_block ?_
      refine good_draw 26 hmix (by kernel_rfl) rfl ?_
      refine qo_q rfl (q_move (by conv => lhs; whnf) ?_)
      refine qo_q rfl (q_move (by conv => lhs; whnf) ?_)
      refine qo_q rfl (q_nilCheck (by conv => lhs; whnf) rfl ?_)
      refine qo_q rfl (q_fieldAddr fO47_1 rfl rfl ?_)
      refine qo_q rfl (q_load tA42 rfl ?_)
      refine qo_q rfl (q_move (by conv => lhs; whnf) ?_)
      refine qo_q rfl (q_idx tE42 rfl rfl (by first | decide | exact Int.natCast_nonneg _) (by exact map_get hcc) rfl ?_)
      refine qo_q rfl (q_load tA69 rfl ?_)
      refine qo_q rfl (q_idx tE69 rfl rfl (by first | decide | exact Int.natCast_nonneg _) (by exact cx_get (by omega)) rfl ?_)
      refine qo_q rfl (q_load tA2 rfl ?_)
      refine qo_q rfl (q_call rfl rfl (rfl) (D_spec_l01Dec _ hin.2.1) rfl ?_)
      refine qo_q rfl (q_str rfl rfl ⟨by rw [l1_size]; omega, ?_⟩)
      intro s11 hs11
      have h1 := hs11
      have hz1 := sz_app hs11
      rw [l1_size] at hz1
      refine qo_q rfl (q_str rfl rfl ⟨by rw [l1_size]; omega, ?_⟩)
      intro s12 hs12
      have h2 := hs12
      have hz2 := sz_app hs12
      rw [l1_size] at hz2
      refine qo_q rfl (q_move (by conv => lhs; whnf) ?_)
      refine qo_q rfl (q_nilCheck (by conv => lhs; whnf) rfl ?_)
      refine qo_q rfl (q_fieldAddr fO47_1 rfl rfl ?_)
      refine qo_q rfl (q_load tA42 rfl ?_)
      refine qo_q rfl (q_move (by conv => lhs; whnf) ?_)
      refine qo_q rfl (q_idx tE42 rfl rfl (by first | decide | exact Int.natCast_nonneg _) (by exact map_get hcc) rfl ?_)
      refine qo_q rfl (q_load tA69 rfl ?_)
      refine qo_q rfl (q_idx tE69 rfl rfl (by first | decide | exact Int.natCast_nonneg _) (by exact cy_get (by omega)) rfl ?_)
      refine qo_q rfl (q_load tA2 rfl ?_)
      refine qo_q rfl (q_call rfl rfl (rfl) (D_spec_l01Dec _ hin.2.2) rfl ?_)
      refine qo_q rfl (q_str rfl rfl ⟨by omega, ?_⟩)
      intro s13 hs13
      have h3 := pc_eq (c := c) rfl rfl h1 h2 hs13
      have hz3 := sz_app hs13
      refine qo_q rfl (q_str rfl rfl ⟨by omega, ?_⟩)
      intro s14 hs14
      have hst := pm_s hcc h3 hs14
      refine qo_q rfl (q_assign (by conv => lhs; whnf) ?_)
      refine qo_nil ?_
      refine ev_nil (hK10 _ ?_); clear hK10
      refine good_region rfl ?_
      refine ev_q rfl (q_move (by conv => lhs; whnf) ?_)
      refine ev_q rfl (q_int rfl rfl ?_)
      intro n15 hn15
      replace hn15 := in64 hn15 (by omega) (by omega)
      refine ev_q rfl (q_assign (by conv => lhs; whnf) ?_)
      refine ev_nil ?_
      clear hK3
      refine ⟨i + 1, ?_, ?_, ?_⟩
      · show _ ≤ _; omega
      · first | omega | (simp only []; omega) | (dsimp only; omega)
      · refine sub_weak ?_ ?_
        · exact weakH_none _
        · refine weakE_upd ?e4 ?r4 (weakE_upd ?e3 ?r3 (weakE_upd ?e0 ?r0 (weakE_junk _ _)))
          case e0 => first | rfl | exact fI (by omega) | (simp_all)
          case r0 => intro h hh; cases hh
          case e3 => first | rfl | exact fI (by omega) | (first | rfl | exact fS pm_0 | exact fS pm_0.symm | exact fS hst | exact fS hst.symm)
          case r3 => intro h hh; cases hh
          case e4 => first | rfl | exact fI (by omega) | (simp_all)
          case r4 => intro h hh; cases hh

-- spec.PumpText
set_option maxRecDepth 20000 in
set_option maxHeartbeats 2000000 in
theorem D_spec_PumpText (s : ByteArray) (cs : List (List Int)) (hs : s.size ≤ 140737488351232) (hc : cs.length ≤ 5864062014805) : Den Tryd.prog 24 [.agg [.s (.string s), .lst 1 (cs.map lsI)]] (.s (.string (pmT s cs))) := by
  refine den_of_good Tryd.func24 (by decide) rfl (Nat.le_of_ble_eq_true rfl) (Nat.le_of_ble_eq_true rfl) ?_
  refine good_seq fun K1 hK1 => ?_
  refine good_region rfl ?_
  refine ev_k rfl (k_box (by conv => lhs; whnf) rfl rfl rfl ?_)
  refine ev_q rfl (q_assign (by conv => lhs; whnf) ?_)
  refine ev_nil (hK1 _ ?_); clear hK1
  refine good_seq fun K2 hK2 => ?_
  refine good_seq fun K3 hK3 => ?_
  refine good_region rfl ?_
  refine ev_q rfl (q_callB rfl rfl (rfl) (D_spec_l08Ok s cs hs hc) ?_)
  intro b4 hb4; cases b4
  · first | replace hb4 := dF hb4 | skip
    refine ev_q rfl (q_not rfl rfl ?_)
    refine ev_nil (hK3 _ ?_); clear hK3
    refine good_condT rfl ?_
    refine good_seq fun K5 hK5 => ?_
    refine good_region rfl ?_
    refine ev_q rfl (q_assign (by conv => lhs; whnf) ?_)
    refine ev_nil (hK5 _ ?_); clear hK5
    refine good_ret ?_
    repeat (first | refine thenQ_ret ?_ | refine blockQ_ret ?_)
    refine ret_tmp (st := _) rfl (by conv => lhs; whnf) rfl ?_
    clear hK2
    first | exact fS (pmT_n (by assumption)).symm | exact fS (pmT_y (by assumption)).symm
  · first | replace hb4 := dT hb4 | skip
    refine ev_q rfl (q_not rfl rfl ?_)
    refine ev_nil (hK3 _ ?_); clear hK3
    refine good_condF rfl ?_
    refine good_skip (hK2 _ ?_); clear hK2
    refine good_seq fun K6 hK6 => ?_
    refine good_region rfl ?_
    refine ev_q rfl (q_call rfl rfl (rfl) (D_spec_l08Text s cs (by assumption)) rfl ?_)
    refine ev_q rfl (q_assign (by conv => lhs; whnf) ?_)
    refine ev_nil (hK6 _ ?_); clear hK6
    refine good_ret ?_
    repeat (first | refine thenQ_ret ?_ | refine blockQ_ret ?_)
    refine ret_tmp (st := _) rfl (by conv => lhs; whnf) rfl ?_
    first | exact fS (pmT_n (by assumption)).symm | exact fS (pmT_y (by assumption)).symm

-- laws.szInt64S
set_option maxRecDepth 20000 in
set_option maxHeartbeats 2000000 in
theorem D_laws_szInt64S (xs : List Int) (left : Int) (hx : xs.length ≤ 17592186044416) (hl : 0 ≤ left ∧ left ≤ 1152921504606846976) : Den Tryd.prog 103 [.lst 1 (xs.map ci), .s (.int .i64 left)] (.s (.int .i64 (if left - xs.length < 0 then -1 else left - xs.length))) := by
  refine den_of_good Tryd.func103 (by decide) rfl (Nat.le_of_ble_eq_true rfl) (Nat.le_of_ble_eq_true rfl) ?_
  refine good_seq fun K1 hK1 => ?_
  refine good_region rfl ?_
  refine ev_q rfl (q_assign (by conv => lhs; whnf) ?_)
  refine ev_nil (hK1 _ ?_); clear hK1
  refine good_seq fun K2 hK2 => ?_
  refine good_region rfl ?_
  refine ev_q rfl (q_move (by conv => lhs; whnf) ?_)
  refine ev_q rfl (q_move (by conv => lhs; whnf) ?_)
  refine ev_q rfl (q_len tEs69 rfl ?_)
  intro n3 hn3
  try simp only [List.length_map] at hn3
  refine ev_q rfl (q_int rfl rfl ?_)
  intro n4 hn4
  replace hn4 := in64 hn4 (by omega) (by omega)
  refine ev_q rfl (q_assign (by conv => lhs; whnf) ?_)
  refine ev_nil (hK2 _ ?_); clear hK2
  refine good_seq fun K5 hK5 => ?_
  refine good_seq fun K6 hK6 => ?_
  refine good_region rfl ?_
  refine ev_q rfl (q_move (by conv => lhs; whnf) ?_)
  refine ev_q rfl (q_int rfl rfl ?_)
  intro b7 hb7; cases b7
  · replace hb7 := dF hb7
    refine ev_nil (hK6 _ ?_); clear hK6
    refine good_condF rfl ?_
    refine good_skip (hK5 _ ?_); clear hK5
    refine good_seq fun K8 hK8 => ?_
    refine good_region rfl ?_
    refine ev_q rfl (q_move (by conv => lhs; whnf) ?_)
    refine ev_q rfl (q_assign (by conv => lhs; whnf) ?_)
    refine ev_nil (hK8 _ ?_); clear hK8
    refine good_ret ?_
    repeat (first | refine thenQ_ret ?_ | refine blockQ_ret ?_)
    refine ret_tmp (st := _) rfl (by conv => lhs; whnf) rfl ?_
    first | rfl | exact fI (by first | omega | grind) | (exfalso; first | omega | grind)
  · replace hb7 := dT hb7
    refine ev_nil (hK6 _ ?_); clear hK6
    refine good_condT rfl ?_
    refine good_seq fun K9 hK9 => ?_
    refine good_region rfl ?_
    refine ev_q rfl (q_assign (by conv => lhs; whnf) ?_)
    refine ev_nil (hK9 _ ?_); clear hK9
    refine good_ret ?_
    repeat (first | refine thenQ_ret ?_ | refine blockQ_ret ?_)
    refine ret_tmp (st := _) rfl (by conv => lhs; whnf) rfl ?_
    clear hK5
    first | rfl | exact fI (by first | omega | grind) | (exfalso; first | omega | grind)

-- laws.toInt64S
set_option maxRecDepth 20000 in
set_option maxHeartbeats 2000000 in
theorem D_laws_toInt64S_X (xs : List Int) (hx : xs.length ≤ 17592186044416) : DenX Tryd.prog 105 [] [.lst 1 (xs.map ci)] [(7, .row 2 1 (xs.map ci))] (.own 7 xs.length) := by
  refine denX_of_good Tryd.func105 (by decide) rfl (Nat.le_of_ble_eq_true rfl) (Nat.le_of_ble_eq_true rfl) rfl ?_
  refine good_seq fun K1 hK1 => ?_
  refine good_region rfl ?_
  refine ev_q rfl (q_assign (by conv => lhs; whnf) ?_)
  refine ev_nil (hK1 _ ?_); clear hK1
  refine good_seq fun K2 hK2 => ?_
  refine good_region rfl ?_
  refine ev_q rfl (q_move (by conv => lhs; whnf) ?_)
  refine ev_q rfl (q_len tEs69 rfl ?_)
  intro n3 hn3
  try simp only [List.length_map] at hn3
  refine ev_k rfl (k_make tE69 rfl rfl zA2 tBy2 rfl (by omega) (by omega) (by omega) rfl (by show _ = xs.length; omega) ?_)
  refine ev_q rfl (q_assign (by conv => lhs; whnf) ?_)
  refine ev_nil (hK2 _ ?_); clear hK2
  refine good_seq fun K4 hK4 => ?_
  refine good_seq fun K5 hK5 => ?_
  refine good_region rfl ?_
  refine ev_q rfl (q_assign (by conv => lhs; whnf) ?_)
  refine ev_nil (hK5 _ ?_); clear hK5
  refine good_block ?_
  refine good_loop (α := Nat) (fun i => { env := upd (upd (upd ((fun _ => .junk)) 0 (.lst 1 (xs.map ci))) 3 (.own 7 xs.length)) 4 (.s (.int .i64 i)), H := upd ((fun _ => none)) 7 (some (.row 2 1 (fillC ci (ci 0) xs i))) }) (fun i => i ≤ xs.length) (fun i => xs.length - i) 0 ?_ ?_ ?_
  · show 0 ≤ _; omega
  · refine sub_weak ?_ ?_
    · exact weakH_row (rowEq (fill0 rfl)) (weakH_none _)
    · refine weakE_upd ?e4 ?r4 (weakE_upd ?e3 ?r3 (weakE_upd ?e0 ?r0 (weakE_junk _ _)))
      case e0 => first | rfl | exact fI (by omega) | (simp_all)
      case r0 => intro h hh; cases hh
      case e3 => first | rfl | exact fI (by omega) | (simp_all)
      case r3 => intro h hh; simp [refs] at hh; subst hh; rfl
      case e4 => first | rfl | exact fI (by omega) | (simp_all)
      case r4 => intro h hh; cases hh
  · rintro i hI
    refine good_seq fun K6 hK6 => ?_
    refine good_seq fun K7 hK7 => ?_
    refine good_region rfl ?_
    refine ev_q rfl (q_move (by conv => lhs; whnf) ?_)
    refine ev_q rfl (q_move (by conv => lhs; whnf) ?_)
    refine ev_q rfl (q_len tEs69 rfl ?_)
    intro n8 hn8
    try simp only [List.length_map] at hn8
    refine ev_q rfl (q_int rfl rfl ?_)
    intro b9 hb9; cases b9
    · replace hb9 := dF hb9
      refine ev_nil (hK7 _ ?_); clear hK7
      refine good_condF rfl ?_
      refine good_exit ?_
      repeat (first | refine thenQ_exit ?_ | refine blockQ_pass rfl ?_)
      refine blockQ_exit (hK4 _ ?_); clear hK4
      refine good_seq fun K10 hK10 => ?_
      refine good_region rfl ?_
      refine ev_q rfl (q_move (by conv => lhs; whnf) ?_)
      refine ev_q rfl (q_assign (by conv => lhs; whnf) ?_)
      refine ev_nil (hK10 _ ?_); clear hK10
      refine good_ret ?_
      repeat (first | refine thenQ_ret ?_ | refine blockQ_ret ?_)
      refine fx_tmp rfl (by conv => lhs; whnf) ?_
      clear hK6
      exact ⟨_, conv_eq (by first | rfl | (rw [e]; done) | (rw [e]; rfl) | exact ownEq (by first | omega | simp_all)), weakH_row (rowEq (by have e := fillE (f := ci) (z := ci 0) (xs := xs) (i := i) (by omega) rfl; rw [takeLen (by simp [fillC]; omega)] at e; exact e)) (weakH_none _), refsIn_ok rfl⟩
    · replace hb9 := dT hb9
      obtain ⟨p, hp⟩ := getL (xs := xs) (n := (i : Int)) (by omega) (by omega)
      refine ev_nil (hK7 _ ?_); clear hK7
      refine good_condT rfl ?_
      refine good_skip (hK6 _ ?_); clear hK6
      refine good_seq fun K11 hK11 => ?_
      refine good_block ?_
      refine good_region rfl ?_
      refine ev_q rfl (q_move (by conv => lhs; whnf) ?_)
      refine ev_q rfl (q_move (by conv => lhs; whnf) ?_)
      refine ev_q rfl (q_move (by conv => lhs; whnf) ?_)
      refine ev_q rfl (q_move (by conv => lhs; whnf) ?_)
      refine ev_q rfl (q_idx tE69 rfl rfl (by exact Int.natCast_nonneg _) (by exact map_get hp) rfl ?_)
      refine ev_q rfl (q_load tA2 rfl ?_)
      refine ev_q rfl (q_idxO tE69 rfl rfl rfl (by exact Int.natCast_nonneg _) (by omega) rfl ?_)
      refine ev_k rfl (k_storeE sz2 rfl (by conv => lhs; whnf) rfl rfl rfl (Nat.le_of_ble_eq_true rfl) rfl (by exact fillG (by omega)) (Nat.le_of_ble_eq_true rfl) rfl ?_)
      refine ev_nil (hK11 _ ?_); clear hK11
      refine good_region rfl ?_
      refine ev_q rfl (q_move (by conv => lhs; whnf) ?_)
      refine ev_q rfl (q_int rfl rfl ?_)
      intro n12 hn12
      replace hn12 := in64 hn12 (by omega) (by omega)
      refine ev_q rfl (q_assign (by conv => lhs; whnf) ?_)
      refine ev_nil ?_
      clear hK4
      refine ⟨i + 1, ?_, ?_, ?_⟩
      · show _ ≤ _; omega
      · first | omega | (simp only []; omega) | (dsimp only; omega)
      · refine sub_weak ?_ ?_
        · exact weakH_row (rowEq (fillS hp rfl)) (weakH_none _)
        · refine weakE_upd ?e4 ?r4 (weakE_upd ?e3 ?r3 (weakE_upd ?e0 ?r0 (weakE_junk _ _)))
          case e0 => first | rfl | exact fI (by omega) | (simp_all)
          case r0 => intro h hh; cases hh
          case e3 => first | rfl | exact fI (by omega) | (simp_all)
          case r3 => intro h hh; simp [refs] at hh; subst hh; rfl
          case e4 => first | rfl | exact fI (by omega) | (simp_all)
          case r4 => intro h hh; cases hh
theorem D_laws_toInt64S (xs : List Int) (hx : xs.length ≤ 17592186044416) : Den Tryd.prog 105 [.lst 1 (xs.map ci)] (.lst 1 (xs.map ci)) :=
  den_of_denX (D_laws_toInt64S_X xs hx) (by change (some (.lst 1 (List.take xs.length (xs.map ci))) : Option AV) = some (.lst 1 (xs.map ci)); simp only [takeMap])

-- laws.eqInt64S
set_option maxRecDepth 20000 in
set_option maxHeartbeats 2000000 in
theorem D_laws_eqInt64S (xs : List Int) (hx : xs.length ≤ 17592186044416) : Den Tryd.prog 107 [.lst 1 (xs.map ci), .lst 1 (xs.map ci)] (.s (.bool true)) := by
  refine den_of_good Tryd.func107 (by decide) rfl (Nat.le_of_ble_eq_true rfl) (Nat.le_of_ble_eq_true rfl) ?_
  refine good_seq fun K1 hK1 => ?_
  refine good_region rfl ?_
  refine ev_q rfl (q_assign (by conv => lhs; whnf) ?_)
  refine ev_nil (hK1 _ ?_); clear hK1
  refine good_seq fun K2 hK2 => ?_
  refine good_seq fun K3 hK3 => ?_
  refine good_region rfl ?_
  refine ev_q rfl (q_move (by conv => lhs; whnf) ?_)
  refine ev_q rfl (q_len tEs69 rfl ?_)
  intro n4 hn4
  try simp only [List.length_map] at hn4
  refine ev_q rfl (q_move (by conv => lhs; whnf) ?_)
  refine ev_q rfl (q_len tEs69 rfl ?_)
  intro n5 hn5
  try simp only [List.length_map] at hn5
  refine ev_q rfl (q_int rfl rfl ?_)
  intro b6 hb6; cases b6
  · replace hb6 := neF hb6
    refine ev_nil (hK3 _ ?_); clear hK3
    refine good_condF rfl ?_
    refine good_skip (hK2 _ ?_); clear hK2
    refine good_seq fun K7 hK7 => ?_
    refine good_seq fun K8 hK8 => ?_
    refine good_region rfl ?_
    refine ev_q rfl (q_assign (by conv => lhs; whnf) ?_)
    refine ev_nil (hK8 _ ?_); clear hK8
    refine good_block ?_
    refine good_loop (α := Nat) (fun i => { env := upd (upd (upd ((fun _ => .junk)) 0 (.lst 1 (xs.map ci))) 1 (.lst 1 (xs.map ci))) 5 (.s (.int .i64 i)), H := fun _ => none }) (fun i => i ≤ xs.length) (fun i => xs.length - i) 0 ?_ ?_ ?_
    · show 0 ≤ _; omega
    · refine sub_weak ?_ ?_
      · exact weakH_none _
      · refine weakE_upd ?e5 ?r5 (weakE_upd ?e1 ?r1 (weakE_upd ?e0 ?r0 (weakE_junk _ _)))
        case e0 => first | rfl | exact fI (by omega) | (simp_all)
        case r0 => intro h hh; cases hh
        case e1 => first | rfl | exact fI (by omega) | (simp_all)
        case r1 => intro h hh; cases hh
        case e5 => first | rfl | exact fI (by omega) | (simp_all)
        case r5 => intro h hh; cases hh
    · rintro i hI
      refine good_seq fun K9 hK9 => ?_
      refine good_seq fun K10 hK10 => ?_
      refine good_region rfl ?_
      refine ev_q rfl (q_move (by conv => lhs; whnf) ?_)
      refine ev_q rfl (q_move (by conv => lhs; whnf) ?_)
      refine ev_q rfl (q_len tEs69 rfl ?_)
      intro n11 hn11
      try simp only [List.length_map] at hn11
      refine ev_q rfl (q_int rfl rfl ?_)
      intro b12 hb12; cases b12
      · replace hb12 := dF hb12
        refine ev_nil (hK10 _ ?_); clear hK10
        refine good_condF rfl ?_
        refine good_exit ?_
        repeat (first | refine thenQ_exit ?_ | refine blockQ_pass rfl ?_)
        refine blockQ_exit (hK7 _ ?_); clear hK7
        refine good_seq fun K13 hK13 => ?_
        refine good_region rfl ?_
        refine ev_q rfl (q_assign (by conv => lhs; whnf) ?_)
        refine ev_nil (hK13 _ ?_); clear hK13
        refine good_ret ?_
        repeat (first | refine thenQ_ret ?_ | refine blockQ_ret ?_)
        refine ret_tmp (st := _) rfl (by conv => lhs; whnf) rfl ?_
        clear hK9
        first | rfl | (exfalso; omega)
      · replace hb12 := dT hb12
        obtain ⟨p, hp⟩ := getL (xs := xs) (n := (i : Int)) (by omega) (by omega)
        replace hp : xs[i]? = some p := hp
        refine ev_nil (hK10 _ ?_); clear hK10
        refine good_condT rfl ?_
        refine good_skip (hK9 _ ?_); clear hK9
        refine good_seq fun K14 hK14 => ?_
        refine good_block ?_
        refine good_seq fun K15 hK15 => ?_
        refine good_draw 9 hmix (by kernel_rfl) rfl ?_
        refine qo_q rfl (q_move (by conv => lhs; whnf) ?_)
        refine qo_q rfl (q_move (by conv => lhs; whnf) ?_)
        refine qo_q rfl (q_idx tE69 rfl rfl (by exact Int.natCast_nonneg _) (by exact map_get hp) rfl ?_)
        refine qo_q rfl (q_load tA2 rfl ?_)
        refine qo_q rfl (q_move (by conv => lhs; whnf) ?_)
        refine qo_q rfl (q_move (by conv => lhs; whnf) ?_)
        refine qo_q rfl (q_idx tE69 rfl rfl (by exact Int.natCast_nonneg _) (by exact map_get hp) rfl ?_)
        refine qo_q rfl (q_load tA2 rfl ?_)
        refine qo_q rfl (q_int rfl rfl ?_)
        intro b16 hb16; cases b16
        · replace hb16 := neF hb16
          refine qo_nil ?_
          refine ev_nil (hK15 _ ?_); clear hK15
          refine good_condF rfl ?_
          refine good_skip (hK14 _ ?_); clear hK14
          refine good_region rfl ?_
          refine ev_q rfl (q_move (by conv => lhs; whnf) ?_)
          refine ev_q rfl (q_int rfl rfl ?_)
          intro n17 hn17
          replace hn17 := in64 hn17 (by omega) (by omega)
          refine ev_q rfl (q_assign (by conv => lhs; whnf) ?_)
          refine ev_nil ?_
          clear hK7
          refine ⟨i + 1, ?_, ?_, ?_⟩
          · show _ ≤ _; omega
          · first | omega | (simp only []; omega) | (dsimp only; omega)
          · refine sub_weak ?_ ?_
            · exact weakH_none _
            · refine weakE_upd ?e5 ?r5 (weakE_upd ?e1 ?r1 (weakE_upd ?e0 ?r0 (weakE_junk _ _)))
              case e0 => first | rfl | exact fI (by omega) | (simp_all)
              case r0 => intro h hh; cases hh
              case e1 => first | rfl | exact fI (by omega) | (simp_all)
              case r1 => intro h hh; cases hh
              case e5 => first | rfl | exact fI (by omega) | (simp_all)
              case r5 => intro h hh; cases hh
        · replace hb16 := neT hb16
          refine qo_nil ?_
          refine ev_nil (hK15 _ ?_); clear hK15
          refine good_condT rfl ?_
          refine good_seq fun K18 hK18 => ?_
          refine good_region rfl ?_
          refine ev_q rfl (q_assign (by conv => lhs; whnf) ?_)
          refine ev_nil (hK18 _ ?_); clear hK18
          refine good_ret ?_
          repeat (first | refine thenQ_ret ?_ | refine blockQ_ret ?_)
          refine ret_tmp (st := _) rfl (by conv => lhs; whnf) rfl ?_
          clear hK7 hK14
          first | rfl | (exfalso; omega)
  · replace hb6 := neT hb6
    refine ev_nil (hK3 _ ?_); clear hK3
    refine good_condT rfl ?_
    refine good_seq fun K19 hK19 => ?_
    refine good_region rfl ?_
    refine ev_q rfl (q_assign (by conv => lhs; whnf) ?_)
    refine ev_nil (hK19 _ ?_); clear hK19
    refine good_ret ?_
    repeat (first | refine thenQ_ret ?_ | refine blockQ_ret ?_)
    refine ret_tmp (st := _) rfl (by conv => lhs; whnf) rfl ?_
    clear hK2
    first | rfl | (exfalso; omega)

end Go.Proofs.YtodghlkodiidaaaDoor.DFnExactPumpText
