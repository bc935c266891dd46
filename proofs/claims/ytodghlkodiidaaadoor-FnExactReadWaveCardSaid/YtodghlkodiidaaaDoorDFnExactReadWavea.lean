/- Walks through the functions that FnExactReadWave reaches: what each answers. -/
import Derived.Test.YtodghlkodiidaaaDoorEvO
import Derived.Test.YtodghlkodiidaaaDoorProg
import Derived.Test.YtodghlkodiidaaaDoorEvZ
import Derived.Test.YtodghlkodiidaaaDoorPlain
set_option linter.unusedVariables false
set_option linter.unusedSimpArgs false
namespace Go.Proofs.YtodghlkodiidaaaDoor.DFnExactReadWave
open Go Go.RowKit Go.Proofs Go.Proofs.YtodghlkodiidaaaDoor Go.Proofs.YtodghlkodiidaaaDoor.Ev
def small (u : UInt8) : Bool := decide (97 ≤ u.toNat ∧ u.toNat ≤ 122)
def digit (u : UInt8) : Bool := decide (48 ≤ u.toNat ∧ u.toNat ≤ 57)
def nbc (u : UInt8) : Bool := small u || digit u
def allNb (s : ByteArray) : Bool := s.data.all nbc
def head1 (s : ByteArray) : Bool := match s[0]? with
  | some u => small u
  | none => false
def isName (s : ByteArray) : Bool := decide (1 ≤ s.size) && decide (s.size ≤ 10) && head1 s && allNb s
theorem getB {s : ByteArray} {i : Nat} (h : i < s.size) : ∃ u, s[i]? = some u := ⟨s[i], by simp [h]⟩
theorem allNb_T {s : ByteArray} (h : ∀ j u, j < s.size → s[j]? = some u → nbc u = true) : allNb s = true := by
  unfold allNb
  rw [Array.all_eq_true]
  intro i hi
  exact h i _ hi (getElem?_pos s i hi)
theorem allNb_F {s : ByteArray} {j : Nat} {u : UInt8} (h : s[j]? = some u) (hn : nbc u = false) : allNb s = false := by
  have hj : j < s.size := by
    apply Classical.byContradiction; intro hc
    rw [getElem?_neg s j hc] at h; cases h
  unfold allNb
  rw [Array.all_eq_false]
  refine ⟨j, hj, ?_⟩
  rw [getElem?_pos s j hj] at h
  cases h
  intro hc
  have hc2 : nbc s[j] = true := hc
  rw [hn] at hc2; cases hc2
theorem isName_long {s : ByteArray} (h : ¬ s.size ≤ 10) : isName s = false := by simp [isName, h]
theorem isName_none {s : ByteArray} (h : s.size = 0) : isName s = false := by simp [isName, h]
theorem isName_head {s : ByteArray} {u : UInt8} (h : s[0]? = some u) (hn : small u = false) : isName s = false := by simp [isName, head1, h, hn]
theorem isName_eq {s : ByteArray} {u : UInt8} (h1 : 1 ≤ s.size) (h2 : s.size ≤ 10) (h : s[0]? = some u) (hn : small u = true) : isName s = allNb s := by simp [isName, head1, h, hn, h1, h2]
theorem fB {b c : Bool} (h : b = c) : AV.s (.bool b) = .s (.bool c) := by rw [h]
def stp (p : Int × Int) : AV := .agg [.s (.int .i64 p.1), .s (.int .i64 p.2)]
def zst : AV := .agg [.s (.int .i64 0), .s (.int .i64 0)]
def wv (xs : List (Int × Int)) : AV := .lst 2 (xs.map stp)
def okAt (xs : List (Int × Int)) (j : Nat) (p : Int × Int) : Prop := (0 ≤ p.1 ∧ p.1 ≤ 1000000) ∧ (-5000 ≤ p.2 ∧ p.2 ≤ 20000) ∧ (j = 0 → p.1 = 0) ∧ ∀ q, 0 < j → xs[j - 1]? = some q → q.1 < p.1
def waveOk (xs : List (Int × Int)) : Prop := (1 ≤ xs.length ∧ xs.length ≤ 24) ∧ ∀ j p, xs[j]? = some p → okAt xs j p
noncomputable instance (xs : List (Int × Int)) : Decidable (waveOk xs) := Classical.propDecidable _
theorem wave_no {xs : List (Int × Int)} {i : Nat} {p : Int × Int} (h : xs[i]? = some p) (hn : ¬ okAt xs i p) : ¬ waveOk xs := fun ⟨_, h2⟩ => hn (h2 i p h)
theorem wave_iff {xs : List (Int × Int)} (h : ∀ j p, xs[j]? = some p → okAt xs j p) : (1 ≤ (xs.length : Int) ∧ (xs.length : Int) ≤ 24) ↔ waveOk xs := ⟨fun h2 => ⟨by omega, h⟩, fun ⟨h2, _⟩ => by omega⟩
theorem all_ext {xs : List (Int × Int)} {i : Nat} {Q : Nat → Int × Int → Prop} {p : Int × Int} (hJ : ∀ j q, j < i → xs[j]? = some q → Q j q) (hp : xs[i]? = some p) (h : Q i p) : ∀ j q, j < i + 1 → xs[j]? = some q → Q j q := by
  intro j q hj hq
  by_cases e : j = i
  · subst e; rw [hp] at hq; cases hq; exact h
  · exact hJ j q (by omega) hq
theorem all_fin {xs : List (Int × Int)} {i : Nat} {Q : Nat → Int × Int → Prop} (hJ : ∀ j q, j < i → xs[j]? = some q → Q j q) (hi : xs.length ≤ i) : ∀ j q, xs[j]? = some q → Q j q := by
  intro j q hq
  exact hJ j q (by have := (List.getElem?_eq_some_iff.1 hq).1; omega) hq
def ci (n : Int) : AV := .s (.int .i64 n)
def within (xs : List Int) (lo hi : Int) : Prop := ∀ (j : Nat) (q : Int), xs[j]? = some q → lo ≤ q ∧ q ≤ hi
noncomputable instance (xs : List Int) (lo hi : Int) : Decidable (within xs lo hi) := Classical.propDecidable _
theorem all_extI {α : Type} {xs : List α} {i : Nat} {Q : Nat → α → Prop} {p : α} (hJ : ∀ j q, j < i → xs[j]? = some q → Q j q) (hp : xs[i]? = some p) (h : Q i p) : ∀ j q, j < i + 1 → xs[j]? = some q → Q j q := by
  intro j q hj hq
  by_cases e : j = i
  · subst e; rw [hp] at hq; cases hq; exact h
  · exact hJ j q (by omega) hq
theorem all_finI {α : Type} {xs : List α} {i : Nat} {Q : Nat → α → Prop} (hJ : ∀ j q, j < i → xs[j]? = some q → Q j q) (hi : xs.length ≤ i) : ∀ j q, xs[j]? = some q → Q j q := by
  intro j q hq
  exact hJ j q (by have := (List.getElem?_eq_some_iff.1 hq).1; omega) hq
def dAV (n : Int) : AV := .s (.string (dec n))
def u8A (n : Int) : AV := .s (.int .u8 n)
theorem fS {a b : ByteArray} (h : a = b) : AV.s (.string a) = .s (.string b) := by rw [h]
theorem dec_0 : (⟨#[48]⟩ : ByteArray) = dec 0 := by simp [dec, tx, Lib.itoa, Lib.decDigits]
theorem sz_app {a b c : ByteArray} (h : a = b ++ c) : a.size = b.size + c.size := by rw [h, ByteArray.size_append]
theorem takeS {α : Type} {xs : List α} {i : Nat} {q : α} (h : xs[i]? = some q) : xs.take (i + 1) = xs.take i ++ [q] := by rw [List.take_add_one, h]; rfl
theorem appG {α : Type} {f : α → AV} {l l2 : List α} {p : α} {v : AV} (h : l2 = l ++ [p]) (e : v = f p) : l.map f ++ [v] = l2.map f := by subst h e; simp
theorem ltx_s1 {xs : List Int} {i : Nat} {q : Int} {s : ByteArray} (hq : xs[i]? = some q) (h : ¬ (i : Int) > 0) (h2 : s = tx (ltx (xs.take i)) ++ dec q) : s = tx (ltx (xs.take (i + 1))) := by
  have h0 : i = 0 := by omega
  subst h0
  rw [h2, ltx_take hq, if_pos rfl]
  show tx [] ++ dec q = dec q
  unfold dec; rw [tx_app]; rfl
theorem ltx_s2 {xs : List Int} {i : Nat} {q : Int} {s u : ByteArray} (hq : xs[i]? = some q) (h : (i : Int) > 0) (h1 : u = tx (ltx (xs.take i)) ++ ⟨#[44]⟩) (h2 : s = u ++ dec q) : s = tx (ltx (xs.take (i + 1))) := by
  rw [h2, h1, ltx_take hq, if_neg (by omega)]
  show tx (ltx (xs.take i)) ++ tx [44] ++ dec q = _
  unfold dec; rw [tx_app, tx_app]
theorem u8w {n m : Int} (h : n = IntKind.u8.wrap m) (h0 : 0 ≤ m) (h1 : m ≤ 255) : n = m := by
  have e : IntKind.u8.wrap m = m % 256 := by simp [IntKind.wrap, IntKind.bits, IntKind.signed]
  rw [e] at h; omega
theorem absT {m a b : Int} (h : a = Int.tmod m 10) (hb : (0 ≤ a ∧ b = a) ∨ (a < 0 ∧ b = -a)) : b = ((m.natAbs % 10 : Nat) : Int) := by
  by_cases h0 : 0 ≤ m
  · rw [tmod_pos h0] at h; omega
  · rw [tmod_neg (by omega)] at h; omega
theorem tmodB {m a : Int} (h : a = Int.tmod m 10) : -9 ≤ a ∧ a ≤ 9 := by
  by_cases h0 : 0 ≤ m
  · rw [tmod_pos h0] at h; omega
  · rw [tmod_neg (by omega)] at h; omega
theorem tdivA {m a : Int} (h : a = Int.tdiv m 10) (hm : m ≠ 0) : a.natAbs < m.natAbs := by
  by_cases h0 : 0 ≤ m
  · rw [tdiv_pos h0] at h; omega
  · rw [tdiv_neg (by omega)] at h; omega
theorem quo10 {n m : Int} (h : n = IntKind.i64.wrap (Int.tdiv m 10)) (h0 : -9223372036854775808 ≤ m) (h1 : m ≤ 9223372036854775807) : n = Int.tdiv m 10 := by
  by_cases h2 : 0 ≤ m
  · rw [tdiv_pos h2] at h ⊢; exact in64 h (by omega) (by omega)
  · rw [tdiv_neg (by omega)] at h ⊢; exact in64 h (by omega) (by omega)
def decL (n : Int) (L : List Int) : List Int := if n < 0 then L ++ [45] else L
theorem dec_end {n : Int} {L : List Int} (h : decI n 0 L) : (decL n L).reverse = itD n := by
  have e := decI_end h
  unfold decL
  by_cases hn : n < 0
  · rw [if_pos hn, itD_neg hn, e]; simp
  · rw [if_neg hn, itD_pos (by omega), e]
def revT (L : List Int) (i : Nat) : List Int := (L.drop i).reverse
theorem revT_0 {L : List Int} : revT L L.length = [] := by simp [revT]
theorem revT_s {L : List Int} {i : Nat} {q : Int} (h : L[i]? = some q) : revT L i = revT L (i + 1) ++ [q] := by
  have hl := (List.getElem?_eq_some_iff.1 h).1
  unfold revT
  rw [List.drop_eq_getElem_cons hl, List.reverse_cons]
  rw [List.getElem?_eq_getElem hl] at h
  rw [Option.some.inj h]
theorem revT_e {L : List Int} : revT L 0 = L.reverse := by simp [revT]
theorem revT_len {L : List Int} {i : Nat} : (revT L i).length = L.length - i := by simp [revT]
theorem u8s_u8A : ∀ xs : List Int, u8s (xs.map u8A) = some xs
  | [] => rfl
  | x :: xs => by simp only [List.map_cons, u8s, u8A]; rw [show u8s (xs.map u8A) = some xs from u8s_u8A xs]
theorem u8s_take {xs : List Int} {n : Nat} (h : n = xs.length) : u8s ((xs.map u8A).take n) = some xs := by subst h; rw [takeMap]; exact u8s_u8A xs
theorem decL_len {n : Int} {L : List Int} : (decL n L).length ≤ L.length + 1 := by unfold decL; split <;> simp
theorem l1_size {c : UInt8} : (⟨#[c]⟩ : ByteArray).size = 1 := rfl
theorem splitK_mem {c : UInt8} : ∀ (k : Nat) (l : List UInt8), ∀ p ∈ Lib.splitK [c] 0 k l, p.length ≤ l.length
  | 0, l, p, h => by simp [Lib.splitK] at h; subst h; exact Nat.le_refl _
  | k + 1, l, p, h => by
    rw [Lib.splitK] at h
    split at h
    · simp at h; subst h; exact Nat.le_refl _
    · rcases List.mem_cons.1 h with e | e
      · subst e; rw [List.length_take]; omega
      · have := splitK_mem k _ p e
        rw [List.length_drop] at this; omega
theorem splN_sz {c : UInt8} {k : Nat} {s q : ByteArray} (h : q ∈ splN c k s) : q.size ≤ s.size := by
  have hd := Lib.splitB_data (tx [c]) 0 (min k (s.size + 1) - 1) s
  rw [tx_data] at hd
  have := splitK_mem (c := c) (min k (s.size + 1) - 1) s.data.toList q.data.toList (by rw [← hd]; exact List.mem_map_of_mem (f := fun b : ByteArray => b.data.toList) h)
  rw [ba_len, ba_len] at this; exact this
theorem pcs_mem {c : UInt8} : ∀ (l : List UInt8), ∀ p ∈ pcs c l, p.length ≤ l.length
  | [], p, h => by simp [pcs] at h; subst h; simp
  | b :: l, p, h => by
    have ih := pcs_mem (c := c) l
    rw [pcs] at h
    split at h
    · rcases List.mem_cons.1 h with e | e
      · subst e; simp
      · have := ih p e; simp; omega
    · split at h
      · rename_i x xs e
        rw [e] at ih
        rcases List.mem_cons.1 h with e2 | e2
        · subst e2; have := ih x (by simp); simp; omega
        · have := ih p (by simp [e2]); simp; omega
      · simp at h; subst h; simp
theorem pc_sz {c : UInt8} {s q : ByteArray} (h : q ∈ pieces c s) : q.size ≤ s.size := by
  obtain ⟨p, hp, rfl⟩ := List.mem_map.1 h
  have := pcs_mem _ p hp
  rw [ba_len] at this
  rw [tx_size]; exact this
theorem rlP_no1 {s q : ByteArray} (hq : q ∈ splN 44 65 s) (h : ¬ rdB q) : ¬ rlP s := fun hp => h (hp.2 q (by rw [← splN_mem hp]; exact hq)).1
theorem rl_y2 {s : ByteArray} (h : ¬ s = tx [45]) (h2 : rlP s) : rlB s ∧ rlL s = (splN 44 65 s).map rdN := by
  have e := rl_y h h2
  rw [splN_mem h2]; exact e
def pAV (p : List UInt8) : AV := .s (.string (tx p))
theorem pAV_map {o : List (List UInt8)} : o.map pAV = (o.map tx).map stA := by rw [List.map_map]; rfl
theorem ext0 {s : ByteArray} {f i : Nat} {l : ByteArray} (h : l = s.extract f i) : AV.s (.string l) = pAV (s.extract f i).data.toList := by subst h; unfold pAV; rw [tx_self]
theorem u8eq {a b : UInt8} (h : (a.toNat : Int) = b.toNat) : a = b := by
  have : a.toNat = b.toNat := by omega
  exact UInt8.toNat_inj.1 this
theorem numV_lt2 {s : ByteArray} {a i : Nat} (hd : ∀ j u, a ≤ j → j < i → s[j]? = some u → dig u) (hi : i < s.size) (h18 : (s.size : Int) - a ≤ 18) : 0 ≤ numV s a i ∧ numV s a i < 100000000000000000 := by
  have hl : ((s.data.toList.drop a).take (i - a)).length ≤ 17 := by rw [List.length_take]; omega
  have h := valD_lt _ ((s.data.toList.drop a).take (i - a)) rfl (fun c hc => by
    obtain ⟨j, hj⟩ := List.getElem?_of_mem hc
    have hjl : j < i - a := by have := (List.getElem?_eq_some_iff.1 hj).1; rw [List.length_take] at this; omega
    rw [List.getElem?_take_of_lt hjl, List.getElem?_drop] at hj
    exact hd (a + j) c (by omega) (by omega) (by rw [ba_get]; exact hj))
  have h2 : 10 ^ ((s.data.toList.drop a).take (i - a)).length ≤ 10 ^ 17 := Nat.pow_le_pow_right (by omega) hl
  unfold numV
  omega
theorem digit_T {u : UInt8} (h : true = digit u) : dig u := by simpa [digit, dig] using h.symm
theorem digit_F {u : UInt8} (h : false = digit u) : ¬ dig u := fun hd => by
  have : digit u = true := by simpa [digit, dig] using hd
  rw [this] at h; cases h
theorem dig_ext {s : ByteArray} {a i : Nat} {u : UInt8} (hJ : ∀ j v, a ≤ j → j < i → s[j]? = some v → dig v) (hu : s[i]? = some u) (hd : dig u) : ∀ j v, a ≤ j → j < i + 1 → s[j]? = some v → dig v := fun j v h1 h2 hv => by
  by_cases e : j = i
  · subst e; rw [hu] at hv; cases hv; exact hd
  · exact hJ j v h1 (by omega) hv
theorem ne_ext {s : ByteArray} {a i : Nat} {u c : UInt8} (hJ : ∀ j v, a ≤ j → j < i → s[j]? = some v → v ≠ c) (hu : s[i]? = some u) (hd : u ≠ c) : ∀ j v, a ≤ j → j < i + 1 → s[j]? = some v → v ≠ c := fun j v h1 h2 hv => by
  by_cases e : j = i
  · subst e; rw [hu] at hv; cases hv; exact hd
  · exact hJ j v h1 (by omega) hv
theorem sp_end {s : ByteArray} {c : UInt8} {o : List (List UInt8)} {f : Nat} {l : ByteArray} (hI : pcs c s.data.toList = o ++ pcs c (s.data.toList.drop f)) (hl : l = s.extract f s.size) (hJ : ∀ j b, f ≤ j → j < s.size → s[j]? = some b → b ≠ c) : o.map pAV ++ [AV.s (.string l)] = (pieces c s).map stA := by
  subst hl
  rw [← pc_end hI hJ, List.map_append, pAV_map]; rfl
theorem jx_s1 {α : Type} {f : α → List UInt8} {sep : List UInt8} {xs : List α} {i : Nat} {q : α} {s u : ByteArray} (hq : xs[i]? = some q) (h : ¬ (i : Int) > 0) (h2 : s = tx (Lib.join ((xs.take i).map f) sep) ++ u) (hu : u = tx (f q)) : s = tx (Lib.join ((xs.take (i + 1)).map f) sep) := by
  have h0 : i = 0 := by omega
  subst h0
  rw [h2, hu, join_take f sep hq, if_pos rfl]
  show tx [] ++ tx (f q) = _
  rw [tx_app]; rfl
theorem jx_s2 {α : Type} {f : α → List UInt8} {sep : List UInt8} {xs : List α} {i : Nat} {q : α} {s t u : ByteArray} (hq : xs[i]? = some q) (h : (i : Int) > 0) (h1 : t = tx (Lib.join ((xs.take i).map f) sep) ++ tx sep) (h2 : s = t ++ u) (hu : u = tx (f q)) : s = tx (Lib.join ((xs.take (i + 1)).map f) sep) := by
  rw [h2, h1, hu, join_take f sep hq, if_neg (by omega), tx_app, tx_app]
def stT (p : Int × Int) : List UInt8 := Lib.itoa p.1 ++ [58] ++ Lib.itoa p.2
def wAV (p : Int × Int) : AV := .s (.string (tx (stT p)))
theorem stT_eq {p : Int × Int} {a b : ByteArray} (h1 : a = dec p.1 ++ ⟨#[58]⟩) (h2 : b = a ++ dec p.2) : b = tx (stT p) := by
  rw [h2, h1]
  show tx _ ++ tx [58] ++ tx _ = _
  rw [tx_app, tx_app]; rfl
def wtx (xs : List (Int × Int)) : List UInt8 := Lib.join (xs.map stT) [32]
theorem wv_in {xs : List (Int × Int)} (ok : waveOk xs) {i : Nat} {p : Int × Int} (h : xs[i]? = some p) : inI p.1 ∧ inI p.2 := by
  have hp := ok.2 i p h
  unfold okAt at hp
  exact ⟨⟨by omega, by omega⟩, ⟨by omega, by omega⟩⟩
theorem stT_len {p : Int × Int} (h : inI p.1 ∧ inI p.2) : (stT p).length ≤ 41 := by
  have h1 := itoa_len h.1.1 h.1.2
  have h2 := itoa_len h.2.1 h.2.2
  unfold stT; simp only [List.length_append, List.length_cons, List.length_nil]; omega
theorem wtx_len {xs : List (Int × Int)} (ok : waveOk xs) {i : Nat} (hi : i ≤ xs.length) : (Lib.join ((xs.take i).map stT) [32]).length ≤ 42 * i :=
  join_len stT [32] (fun x hx => by
    obtain ⟨j, hj⟩ := List.getElem?_of_mem hx
    have := stT_len (wv_in ok hj)
    simp only [List.length_cons, List.length_nil]; omega) i hi
noncomputable def wvT (xs : List (Int × Int)) : ByteArray := if waveOk xs then tx (wtx xs) else tx []
theorem wvT_no {xs : List (Int × Int)} (h : ¬ waveOk xs) : wvT xs = tx [] := if_neg h
theorem wvT_ok {xs : List (Int × Int)} (h : waveOk xs) : wvT xs = tx (wtx xs) := if_pos h
def cutA (c : UInt8) (s : ByteArray) : ByteArray := tx (Lib.cut s.data.toList [c]).1
def cutB (c : UInt8) (s : ByteArray) : ByteArray := tx (Lib.cut s.data.toList [c]).2.1
def cutF (c : UInt8) (s : ByteArray) : Bool := (Lib.cut s.data.toList [c]).2.2
theorem cut_no {c : UInt8} {s : ByteArray} (h : ∀ x ∈ s.data.toList, x ≠ c) : cutA c s = s ∧ cutB c s = tx [] := by
  rcases index_one (c := c) s.data.toList with ⟨h1, h2⟩ | ⟨p, r, h1, h2, h3⟩
  · unfold cutA cutB Lib.cut
    rw [h1, if_neg (by decide)]
    exact ⟨tx_self s, rfl⟩
  · exact absurd rfl (h c (by rw [h1]; simp))
theorem cut_yes {c : UInt8} {s : ByteArray} {p r : List UInt8} (h : s.data.toList = p ++ c :: r) (hp : ∀ x ∈ p, x ≠ c) : cutA c s = tx p ∧ cutB c s = tx r := by
  rcases index_one (c := c) s.data.toList with ⟨h1, h2⟩ | ⟨q, t, h1, h2, h3⟩
  · exact absurd rfl (h2 c (by rw [h]; simp))
  · have e := pcs_hit (r := r) hp
    have e2 := pcs_hit (r := t) h3
    rw [← h, h1, e2] at e
    have hq : q = p := (List.cons.inj e).1
    subst hq
    have ht : t = r := by
      have := h1.symm.trans h
      exact (List.cons.inj (List.append_cancel_left this)).2
    subst ht
    unfold cutA cutB Lib.cut
    rw [h2, if_pos (by omega), h1]
    simp
theorem cutB_sz {c : UInt8} {s : ByteArray} : (cutB c s).size ≤ s.size ∧ (cutA c s).size ≤ s.size := by
  have hl : s.data.toList.length = s.size := ba_len
  unfold cutA cutB Lib.cut
  split
  · simp only [tx_size, List.length_drop, List.length_take]; omega
  · simp only [tx_size, List.length_nil]; omega
/-- What a first cut says of the pieces. -/
theorem pcs_cut {c : UInt8} {s : ByteArray} : (pieces c s = [s] ∧ cutA c s = s ∧ cutB c s = tx []) ∨ (∃ ps, pieces c s = cutA c s :: ps ∧ ps ≠ [] ∧ (ps.length = 1 → ps = [cutB c s]) ∧ s = cutA c s ++ tx [c] ++ cutB c s ∧ ps = pieces c (cutB c s)) := by
  rcases index_one (c := c) s.data.toList with ⟨h1, h2⟩ | ⟨p, r, h1, h2, h3⟩
  · left
    obtain ⟨a, b⟩ := cut_no h2
    refine ⟨?_, a, b⟩
    unfold pieces
    rw [pcs_no h2]
    simp [tx_self]
  · right
    obtain ⟨a, b⟩ := cut_yes h1 h3
    refine ⟨(pcs c r).map tx, ?_, ?_, ?_, ?_, ?_⟩
    · unfold pieces; rw [h1, pcs_hit h3, a]; rfl
    · intro e; exact pcs_ne c r (List.map_eq_nil_iff.1 e)
    · intro hl
      rw [List.length_map] at hl
      match hq : pcs c r, hl with
      | [x], _ =>
        have := join_pcs (c := c) r
        rw [hq, Lib.join_one] at this
        rw [b, this]; rfl
    · rw [a, b, tx_app, tx_app]
      refine tx_eq ?_
      rw [h1]; simp
    · rw [b]; unfold pieces; rw [tx_data]
theorem itoa_chars (n : Int) : ∀ x ∈ Lib.itoa n, dig x ∨ x = 45 := fun x hx => by
  unfold Lib.itoa at hx
  split at hx
  · rcases List.mem_cons.1 hx with e | e
    · exact .inr e
    · exact .inl (dec_dig _ x e)
  · exact .inl (dec_dig _ x hx)
theorem join_chars {P : UInt8 → Prop} {sep : List UInt8} (hs : ∀ x ∈ sep, P x) : ∀ L : List (List UInt8), (∀ l ∈ L, ∀ x ∈ l, P x) → ∀ x ∈ Lib.join L sep, P x
  | [], _, x, hx => by rw [Lib.join_nil] at hx; cases hx
  | y :: r, h, x, hx => by
    rw [Lib.join_cons] at hx
    rcases List.mem_append.1 hx with e | e
    · exact h y (by simp) x e
    · unfold Lib.joinTail at e
      obtain ⟨l, hl, hxl⟩ := List.mem_flatten.1 e
      obtain ⟨z, hz, rfl⟩ := List.mem_map.1 hl
      rcases List.mem_append.1 hxl with e2 | e2
      · exact hs x e2
      · exact h z (by simp [hz]) x e2
theorem ltx_chars (L : List Int) : ∀ x ∈ ltx L, dig x ∨ x = 45 ∨ x = 44 :=
  join_chars (P := fun x => dig x ∨ x = 45 ∨ x = 44) (fun x hx => by simp at hx; exact .inr (.inr hx)) _ (fun l hl x hx => by
    obtain ⟨n, _, rfl⟩ := List.mem_map.1 hl
    rcases itoa_chars n x hx with h | h
    · exact .inl h
    · exact .inr (.inl h))
theorem stpE2 {a b : Int} {p : Int × Int} (h : a = p.1) (h2 : b = p.2) : AV.agg [.s (.int .i64 a), .s (.int .i64 b)] = stp p := by subst h h2; rfl
def prB (q : ByteArray) : Prop := rdB (cutA 58 q) ∧ rdB (cutB 58 q)
noncomputable def prV (q : ByteArray) : Int × Int := (rdN (cutA 58 q), rdN (cutB 58 q))
theorem rd_ne {s : ByteArray} (h : rdB s) : s ≠ tx [] := fun e => by
  subst e
  obtain ⟨n, e1, -⟩ := h
  have e2 := tx_inj e1
  unfold Lib.itoa at e2
  split at e2
  · cases e2
  · exact dec_ne _ e2.symm
theorem rd_chars {s : ByteArray} (h : rdB s) : ∀ x ∈ s.data.toList, dig x ∨ x = 45 := fun x hx => by
  obtain ⟨n, rfl, -⟩ := h
  unfold dec at hx
  rw [tx_data] at hx
  exact itoa_chars n x hx
theorem rd_one {s : ByteArray} {c : UInt8} (h : rdB s) (hc : ¬ dig c) (hc2 : c ≠ 45) : pieces c s = [s] := by
  unfold pieces
  rw [pcs_no, List.map_cons, List.map_nil, tx_self]
  intro x hx e
  subst e
  rcases rd_chars h x hx with h1 | h1
  · exact hc h1
  · exact hc2 h1
theorem pr_two {q : ByteArray} (h : prB q) : pieces 58 q = [cutA 58 q, cutB 58 q] ∧ q = tx (stT (prV q)) := by
  have hb := rd_one h.2 (c := 58) (by unfold dig; simp) (by decide)
  rcases pcs_cut (c := 58) (s := q) with ⟨_, _, h3⟩ | ⟨ps, h1, _, _, h4, h5⟩
  · exact absurd h3 (rd_ne h.2)
  · refine ⟨by rw [h1, h5, hb], ?_⟩
    have ea := (rdN_of h.1).1
    have eb := (rdN_of h.2).1
    have e3 : cutA 58 q ++ tx [58] ++ cutB 58 q = tx (stT (prV q)) := by
      unfold prV stT
      rw [← tx_app, ← tx_app]
      show _ = dec (rdN (cutA 58 q)) ++ tx [58] ++ dec (rdN (cutB 58 q))
      rw [← ea, ← eb]
    exact h4.trans e3
theorem pr_len {q : ByteArray} (h : ((pieces 58 q).length : Int) = 2) : pieces 58 q = [cutA 58 q, cutB 58 q] := by
  rcases pcs_cut (c := 58) (s := q) with ⟨h1, _, _⟩ | ⟨ps, h1, _, h3, _, _⟩
  · rw [h1] at h; simp at h
  · rw [h1] at h ⊢
    rw [List.length_cons] at h
    rw [h3 (by omega)]
theorem pr_no {q : ByteArray} (h : ¬ ((pieces 58 q).length : Int) = 2) : ¬ prB q := fun hp => h (by rw [(pr_two hp).1]; rfl)
def rwP (s : ByteArray) : Prop := (∀ q ∈ pieces 32 s, prB q) ∧ waveOk ((pieces 32 s).map prV)
noncomputable instance (s : ByteArray) : Decidable (rwP s) := Classical.propDecidable _
noncomputable def rwL (s : ByteArray) : List (Int × Int) := if rwP s then (pieces 32 s).map prV else []
theorem rw_y {s : ByteArray} (h : rwP s) : rwP s ∧ rwL s = (pieces 32 s).map prV := ⟨h, if_pos h⟩
theorem rw_n {s : ByteArray} (h : ¬ rwP s) : ¬ rwP s ∧ rwL s = [] := ⟨h, if_neg h⟩
theorem rwL_len {s : ByteArray} : (rwL s).length ≤ 24 := by
  by_cases h : rwP s
  · rw [(rw_y h).2]; exact h.2.1.2
  · rw [(rw_n h).2]; simp
theorem rw_spl {s : ByteArray} (h : rwP s) : splN 32 25 s = pieces 32 s := splN_eq (by have := h.2.1.2; rw [List.length_map] at this; omega) (by omega)
theorem rw_no1 {s q : ByteArray} (hq : q ∈ splN 32 25 s) (h : ¬ prB q) : ¬ rwP s := fun hp => h (hp.1 q (by rw [← rw_spl hp]; exact hq))
theorem rw_y2 {s : ByteArray} (h : rwP s) : rwP s ∧ rwL s = (splN 32 25 s).map prV := by rw [rw_spl h]; exact rw_y h
theorem rw_iff {s : ByteArray} (h : ∀ q ∈ splN 32 25 s, prB q) : rwP s ↔ wvT ((splN 32 25 s).map prV) = s := by
  constructor
  · intro hp
    rw [rw_spl hp, wvT_ok hp.2]
    refine (tx_eq ?_).symm
    have e := join_pcs (c := 32) s.data.toList
    have hm : pcs 32 s.data.toList = ((pieces 32 s).map prV).map stT := by
      have h1 : (pieces 32 s).map (fun b : ByteArray => b.data.toList) = pcs 32 s.data.toList := by
        unfold pieces
        rw [List.map_map]
        conv => rhs; rw [← List.map_id (pcs 32 s.data.toList)]
        exact List.map_congr_left fun p _ => by simp [tx_data]
      rw [← h1, List.map_map]
      refine List.map_congr_left fun q hq => ?_
      have := (pr_two (hp.1 q hq)).2
      show q.data.toList = stT (prV q)
      rw [this, tx_data, ← this]
    rw [hm] at e
    exact e.symm
  · intro he
    have hw : waveOk ((splN 32 25 s).map prV) := by
      apply Classical.byContradiction
      intro hn
      rw [wvT_no hn] at he
      have hp : pieces 32 s = [tx []] := by unfold pieces; rw [← he, tx_data]; rfl
      have hq : splN 32 25 s = [tx []] := by rw [splN_eq (by rw [hp]; simp) (by omega), hp]
      have := h (tx []) (by rw [hq]; simp)
      have hb := cutB_sz (c := 58) (s := tx [])
      rw [tx_size, List.length_nil] at hb
      have e0 : cutB 58 (tx []) = tx [] := tx_eq (List.eq_nil_of_length_eq_zero (by rw [ba_len]; omega))
      rw [prB, e0] at this
      exact rd_ne this.2 rfl
    have hl : (pieces 32 s).length ≤ 25 := by
      apply Classical.byContradiction
      intro hn
      have := splN_len hn (by omega)
      have h2 := hw.1.2
      rw [List.length_map] at h2; omega
    have e := splN_eq hl (by omega)
    rw [e] at h hw
    exact ⟨h, hw⟩
theorem setGet {es : List AV} {i : Nat} {e : AV} (h : i < es.length) : (es.set i e)[i]? = some e := by simp [h]
noncomputable def mkWi (k : Int) (j : Nat) : AV := .agg [.s (.int .i64 (k + 2 * j)), .s (.int .i64 (k + 2 * j + 1))]
noncomputable def mkW (k : Int) (xs : List (Int × Int)) (i : Nat) : List AV := ((List.range i).map (mkWi k)) ++ (xs.drop i).map stp
theorem mkW0 {k : Int} {xs : List (Int × Int)} : mkW k xs 0 = xs.map stp := by simp [mkW]
theorem mkW_len {k : Int} {xs : List (Int × Int)} {i : Nat} (h : i ≤ xs.length) : (mkW k xs i).length = xs.length := by simp [mkW]; omega
theorem mkW_get {k : Int} {xs : List (Int × Int)} {i : Nat} {p : (Int × Int)} (h : xs[i]? = some p) : (mkW k xs i)[i]? = some (stp p) := by
  unfold mkW
  rw [List.getElem?_append_right (by simp)]
  simp [h]
theorem mkW_at {k : Int} {xs : List (Int × Int)} {i : Nat} (h : i < xs.length) : (mkW k xs xs.length)[i]? = some (mkWi k i) := by
  unfold mkW
  rw [List.getElem?_append_left (by simpa using h)]
  simp [h]
theorem mkW_set {k : Int} {xs : List (Int × Int)} {i : Nat} (h : i < xs.length) : (mkW k xs i).set i (mkWi k i) = mkW k xs (i + 1) := by
  unfold mkW
  rw [List.set_append_right _ _ (by simp)]
  simp only [List.length_map, List.length_range, Nat.sub_self]
  rw [List.drop_eq_getElem_cons h, List.map_cons, List.set_cons_zero, List.range_succ, List.map_append]
  simp
theorem mkW_step {k a : Int} {xs : List (Int × Int)} {i : Nat} {e1 : AV} (h : i < xs.length) (ha : a = k + 2 * i + 1) :
    ((mkW k xs i).set i e1).set i (.agg [.s (.int .i64 (k + 2 * i)), .s (.int .i64 a)]) = mkW k xs (i + 1) := by
  subst ha
  simp only [List.set_set]
  exact mkW_set h
theorem mkW_take {k : Int} {xs : List (Int × Int)} : (mkW k xs xs.length).take xs.length = mkW k xs xs.length := takeLen (by rw [mkW_len (Nat.le_refl _)]; exact Nat.le_refl _)
theorem mkW_pure {xs : List (Int × Int)} : (flats (xs.map stp)).all noMem = true := by
  induction xs with
  | nil => rfl
  | cons x xs ih => simp only [List.map_cons, flats, List.flatMap_cons, List.all_append, Bool.and_eq_true]; exact ⟨rfl, ih⟩
theorem fO83_0 : fOff Tryd.prog 83 0 = some 0 := by kernel_rfl
theorem fO83_1 : fOff Tryd.prog 83 1 = some 1 := by kernel_rfl
theorem hmix : Tryd.prog.follows .mixedOrders = true := by kernel_rfl
theorem pl83 : placesA Tryd.prog 83 = some [(0, 1), (1, 1)] := by kernel_rfl
theorem sz2 : tSz Tryd.prog 2 = some 1 := by kernel_rfl
theorem sz83 : tSz Tryd.prog 83 = some 2 := by kernel_rfl
theorem tA2 : tAgg Tryd.prog 2 = some none := by kernel_rfl
theorem tA5 : tAgg Tryd.prog 5 = some none := by kernel_rfl
theorem tA83 : tAgg Tryd.prog 83 = some (some 2) := by kernel_rfl
theorem tA9 : tAgg Tryd.prog 9 = some none := by kernel_rfl
theorem tApp31 : tApp Tryd.prog 31 = some (83, 2, 16) := by kernel_rfl
theorem tApp61 : tApp Tryd.prog 61 = some (5, 1, 1) := by kernel_rfl
theorem tApp69 : tApp Tryd.prog 69 = some (2, 1, 8) := by kernel_rfl
theorem tApp86 : tApp Tryd.prog 86 = some (9, 1, 16) := by kernel_rfl
theorem tB4 : tIsBool Tryd.prog 4 = true := by kernel_rfl
theorem tBy9 : tBytes Tryd.prog 9 = some 16 := by kernel_rfl
theorem tByS61 : tIsBytes Tryd.prog 61 = true := by kernel_rfl
theorem tE31 : tElem Tryd.prog 31 = some (83, 2) := by kernel_rfl
theorem tE61 : tElem Tryd.prog 61 = some (5, 1) := by kernel_rfl
theorem tE69 : tElem Tryd.prog 69 = some (2, 1) := by kernel_rfl
theorem tE86 : tElem Tryd.prog 86 = some (9, 1) := by kernel_rfl
theorem tEs31 : (tElem Tryd.prog 31).isSome = true := by kernel_rfl
theorem tEs61 : (tElem Tryd.prog 61).isSome = true := by kernel_rfl
theorem tEs69 : (tElem Tryd.prog 69).isSome = true := by kernel_rfl
theorem tEs86 : (tElem Tryd.prog 86).isSome = true := by kernel_rfl
theorem tIf115 : tIfc Tryd.prog 115 = true := by kernel_rfl
theorem tK2 : tKind Tryd.prog 2 = some .i64 := by kernel_rfl
theorem tK5 : tKind Tryd.prog 5 = some .u8 := by kernel_rfl
theorem tStr9 : tIsStr Tryd.prog 9 = true := by kernel_rfl
theorem zA2 : zeroA Tryd.prog 2 = some [.s (.int .i64 0)] := by kernel_rfl
theorem zA5 : zeroA Tryd.prog 5 = some [.s (.int .u8 0)] := by kernel_rfl
theorem zA83 : zeroA Tryd.prog 83 = some [.s (.int .i64 0), .s (.int .i64 0)] := by kernel_rfl
theorem zA9 : zeroA Tryd.prog 9 = some [.s (.string ⟨#[]⟩)] := by kernel_rfl

-- impl.within
set_option maxRecDepth 20000 in
set_option maxHeartbeats 2000000 in
theorem D_impl_within (a lo hi : Int)  : Den Tryd.prog 81 [.s (.int .i64 a), .s (.int .i64 lo), .s (.int .i64 hi)] (.s (.bool (decide (lo ≤ a ∧ a ≤ hi)))) := by
  refine den_of_good Tryd.func81 (by decide) rfl (Nat.le_of_ble_eq_true rfl) (Nat.le_of_ble_eq_true rfl) ?_
  refine good_seq fun K1 hK1 => ?_
  refine good_region rfl ?_
  refine ev_q rfl (q_assign (by conv => lhs; whnf) ?_)
  refine ev_nil (hK1 _ ?_); clear hK1
  refine good_seq fun K2 hK2 => ?_
  refine good_region rfl ?_
  refine ev_q rfl (q_move (by conv => lhs; whnf) ?_)
  refine ev_q rfl (q_move (by conv => lhs; whnf) ?_)
  refine ev_q rfl (q_int rfl rfl ?_)
  intro b3 hb3; cases b3
  · replace hb3 := dF hb3
    refine ev_q rfl (q_move (by conv => lhs; whnf) ?_)
    refine ev_skip rfl ?_
    refine ev_skip rfl ?_
    refine ev_skip rfl ?_
    refine ev_q rfl (q_pickF rfl (by conv => lhs; whnf) ?_)
    refine ev_q rfl (q_assign (by conv => lhs; whnf) ?_)
    refine ev_nil (hK2 _ ?_); clear hK2
    refine good_ret ?_
    repeat (first | refine thenQ_ret ?_ | refine blockQ_ret ?_)
    refine ret_tmp (st := _) rfl (by conv => lhs; whnf) rfl ?_
    first | rfl | exact fT (by first | omega | grind) | exact fF (by first | omega | grind) | exact fT' (by first | omega | grind) | (exfalso; first | omega | grind)
  · replace hb3 := dT hb3
    refine ev_q rfl (q_move (by conv => lhs; whnf) ?_)
    refine ev_q rfl (q_move (by conv => lhs; whnf) ?_)
    refine ev_q rfl (q_move (by conv => lhs; whnf) ?_)
    refine ev_q rfl (q_int rfl rfl ?_)
    intro b4 hb4; cases b4
    · replace hb4 := dF hb4
      refine ev_q rfl (q_pickT rfl (by conv => lhs; whnf) ?_)
      refine ev_q rfl (q_assign (by conv => lhs; whnf) ?_)
      refine ev_nil (hK2 _ ?_); clear hK2
      refine good_ret ?_
      repeat (first | refine thenQ_ret ?_ | refine blockQ_ret ?_)
      refine ret_tmp (st := _) rfl (by conv => lhs; whnf) rfl ?_
      first | rfl | exact fT (by first | omega | grind) | exact fF (by first | omega | grind) | exact fT' (by first | omega | grind) | (exfalso; first | omega | grind)
    · replace hb4 := dT hb4
      refine ev_q rfl (q_pickT rfl (by conv => lhs; whnf) ?_)
      refine ev_q rfl (q_assign (by conv => lhs; whnf) ?_)
      refine ev_nil (hK2 _ ?_); clear hK2
      refine good_ret ?_
      repeat (first | refine thenQ_ret ?_ | refine blockQ_ret ?_)
      refine ret_tmp (st := _) rfl (by conv => lhs; whnf) rfl ?_
      first | rfl | exact fT (by first | omega | grind) | exact fF (by first | omega | grind) | exact fT' (by first | omega | grind) | (exfalso; first | omega | grind)

-- spec.l00In
set_option maxRecDepth 20000 in
set_option maxHeartbeats 2000000 in
theorem D_spec_l00In (a lo hi : Int)  : Den Tryd.prog 88 [.s (.int .i64 a), .s (.int .i64 lo), .s (.int .i64 hi)] (.s (.bool (decide (lo ≤ a ∧ a ≤ hi)))) := by
  refine den_of_good Tryd.func88 (by decide) rfl (Nat.le_of_ble_eq_true rfl) (Nat.le_of_ble_eq_true rfl) ?_
  refine good_seq fun K1 hK1 => ?_
  refine good_region rfl ?_
  refine ev_q rfl (q_assign (by conv => lhs; whnf) ?_)
  refine ev_nil (hK1 _ ?_); clear hK1
  refine good_seq fun K2 hK2 => ?_
  refine good_region rfl ?_
  refine ev_q rfl (q_move (by conv => lhs; whnf) ?_)
  refine ev_q rfl (q_move (by conv => lhs; whnf) ?_)
  refine ev_q rfl (q_int rfl rfl ?_)
  intro b3 hb3; cases b3
  · replace hb3 := dF hb3
    refine ev_q rfl (q_move (by conv => lhs; whnf) ?_)
    refine ev_skip rfl ?_
    refine ev_skip rfl ?_
    refine ev_skip rfl ?_
    refine ev_q rfl (q_pickF rfl (by conv => lhs; whnf) ?_)
    refine ev_q rfl (q_assign (by conv => lhs; whnf) ?_)
    refine ev_nil (hK2 _ ?_); clear hK2
    refine good_ret ?_
    repeat (first | refine thenQ_ret ?_ | refine blockQ_ret ?_)
    refine ret_tmp (st := _) rfl (by conv => lhs; whnf) rfl ?_
    first | rfl | exact fT (by first | omega | grind) | exact fF (by first | omega | grind) | exact fT' (by first | omega | grind) | (exfalso; first | omega | grind)
  · replace hb3 := dT hb3
    refine ev_q rfl (q_move (by conv => lhs; whnf) ?_)
    refine ev_q rfl (q_move (by conv => lhs; whnf) ?_)
    refine ev_q rfl (q_move (by conv => lhs; whnf) ?_)
    refine ev_q rfl (q_int rfl rfl ?_)
    intro b4 hb4; cases b4
    · replace hb4 := dF hb4
      refine ev_q rfl (q_pickT rfl (by conv => lhs; whnf) ?_)
      refine ev_q rfl (q_assign (by conv => lhs; whnf) ?_)
      refine ev_nil (hK2 _ ?_); clear hK2
      refine good_ret ?_
      repeat (first | refine thenQ_ret ?_ | refine blockQ_ret ?_)
      refine ret_tmp (st := _) rfl (by conv => lhs; whnf) rfl ?_
      first | rfl | exact fT (by first | omega | grind) | exact fF (by first | omega | grind) | exact fT' (by first | omega | grind) | (exfalso; first | omega | grind)
    · replace hb4 := dT hb4
      refine ev_q rfl (q_pickT rfl (by conv => lhs; whnf) ?_)
      refine ev_q rfl (q_assign (by conv => lhs; whnf) ?_)
      refine ev_nil (hK2 _ ?_); clear hK2
      refine good_ret ?_
      repeat (first | refine thenQ_ret ?_ | refine blockQ_ret ?_)
      refine ret_tmp (st := _) rfl (by conv => lhs; whnf) rfl ?_
      first | rfl | exact fT (by first | omega | grind) | exact fF (by first | omega | grind) | exact fT' (by first | omega | grind) | (exfalso; first | omega | grind)

theorem D_fmt (n : Int) (h : inI n) : Den Tryd.prog 87 [.s (.int .i64 n), .s (.int .i64 10)] (.s (.string (dec n))) := by
  obtain ⟨g, hg⟩ := Option.isSome_iff_exists.1 (show (Tryd.prog.globalNamed "internal/strconv.uint64pow10").isSome = true by kernel_rfl)
  exact den_fmt ⟨_, Tryd.func87, rfl, rfl⟩ hg (fun n h0 h1 w ht => Tryd.strconv_FormatInt_10 n h0 h1 w ht) n h.1 h.2

theorem D_joinI (L : List Int) (hl : L.length ≤ 1000000) (hi : ∀ x ∈ L, inI x) : Den Tryd.prog 57 [.lst 1 (L.map dAV), .s (.string ⟨#[44]⟩)] (.s (.string (tx (ltx L)))) := by
  have e : (L.map dec).map stA = L.map dAV := by rw [List.map_map]; rfl
  have e2 : (L.map dec).map (fun b : ByteArray => b.data.toList) = L.map Lib.itoa := by rw [List.map_map]; exact List.map_congr_left fun n _ => by simp [dec, tx_data]
  have hlen := ltx_len hi (i := L.length) (Nat.le_refl _)
  rw [List.take_length] at hlen
  have h := den_join ⟨_, Tryd.func57, rfl, rfl⟩ Tryd.strings_Join_none Tryd.strings_Join (L.map dec) ⟨#[44]⟩ (by rw [List.length_map]; omega) (by rw [e2]; show (ltx L).length ≤ _; omega)
  rw [e, e2] at h
  exact h

-- impl.Decimal
set_option maxRecDepth 20000 in
set_option maxHeartbeats 2000000 in
theorem D_impl_Decimal (n : Int) (h : inI n) : Den Tryd.prog 48 [.s (.int .i64 n)] (.s (.string (dec n))) := by
  refine den_of_good Tryd.func48 (by decide) rfl (Nat.le_of_ble_eq_true rfl) (Nat.le_of_ble_eq_true rfl) ?_
  refine good_seq fun K1 hK1 => ?_
  refine good_region rfl ?_
  refine ev_q rfl (q_assign (by conv => lhs; whnf) ?_)
  refine ev_nil (hK1 _ ?_); clear hK1
  refine good_seq fun K2 hK2 => ?_
  refine good_region rfl ?_
  refine ev_q rfl (q_move (by conv => lhs; whnf) ?_)
  refine ev_q rfl (q_call rfl rfl (rfl) (D_fmt n h) rfl ?_)
  refine ev_q rfl (q_assign (by conv => lhs; whnf) ?_)
  refine ev_nil (hK2 _ ?_); clear hK2
  refine good_ret ?_
  repeat (first | refine thenQ_ret ?_ | refine blockQ_ret ?_)
  refine ret_tmp (st := _) rfl (by conv => lhs; whnf) rfl ?_
  rfl

-- impl.ListText
set_option maxRecDepth 20000 in
set_option maxHeartbeats 2000000 in
theorem D_impl_ListText (xs : List Int) (hx : xs.length ≤ 17592186044416) : Den Tryd.prog 46 [.lst 1 (xs.map ci)] (.s (.string (lt xs))) := by
  refine den_of_good Tryd.func46 (by decide) rfl (Nat.le_of_ble_eq_true rfl) (Nat.le_of_ble_eq_true rfl) ?_
  refine good_seq fun K1 hK1 => ?_
  refine good_region rfl ?_
  refine ev_q rfl (q_assign (by conv => lhs; whnf) ?_)
  refine ev_nil (hK1 _ ?_); clear hK1
  refine good_seq fun K2 hK2 => ?_
  refine good_seq fun K3 hK3 => ?_
  refine good_region rfl ?_
  refine ev_q rfl (q_move (by conv => lhs; whnf) ?_)
  refine ev_q rfl (q_len tEs69 rfl ?_)
  intro n4 hn4
  try simp only [List.length_map] at hn4
  refine ev_q rfl (q_int rfl rfl ?_)
  intro b5 hb5; cases b5
  · replace hb5 := dF hb5
    refine ev_nil (hK3 _ ?_); clear hK3
    refine good_condF rfl ?_
    refine good_skip (hK2 _ ?_); clear hK2
    refine good_seq fun K6 hK6 => ?_
    refine good_seq fun K7 hK7 => ?_
    refine good_region rfl ?_
    refine ev_q rfl (q_move (by conv => lhs; whnf) ?_)
    refine ev_q rfl (q_len tEs69 rfl ?_)
    intro n8 hn8
    try simp only [List.length_map] at hn8
    refine ev_q rfl (q_int rfl rfl ?_)
    intro b9 hb9; cases b9
    · replace hb9 := eqF hb9
      refine ev_nil (hK7 _ ?_); clear hK7
      refine good_condF rfl ?_
      refine good_skip (hK6 _ ?_); clear hK6
      refine good_seq fun K10 hK10 => ?_
      refine good_region rfl ?_
      refine ev_q rfl (q_move (by conv => lhs; whnf) ?_)
      refine ev_q rfl (q_len tEs69 rfl ?_)
      intro n11 hn11
      try simp only [List.length_map] at hn11
      refine ev_k rfl (k_make2 tE86 rfl rfl zA9 tBy9 rfl (by omega) (by omega) (by omega) (by omega) rfl (by rfl) ?_)
      refine ev_q rfl (q_assign (by conv => lhs; whnf) ?_)
      refine ev_nil (hK10 _ ?_); clear hK10
      refine good_seq fun K12 hK12 => ?_
      refine good_seq fun K13 hK13 => ?_
      refine good_region rfl ?_
      refine ev_q rfl (q_move (by conv => lhs; whnf) ?_)
      refine ev_q rfl (q_len tEs69 rfl ?_)
      intro n14 hn14
      try simp only [List.length_map] at hn14
      refine ev_q rfl (q_move (by conv => lhs; whnf) ?_)
      refine ev_nil (hK13 _ ?_); clear hK13
      refine good_block ?_
      refine good_loop (α := Nat) (fun i => { env := upd (upd (upd (upd ((fun _ => .junk)) 3 (.own 28 (xs.take i).length)) 15 (.lst 1 (xs.map ci))) 16 (.s (.int .i64 ((xs.length : Int))))) 17 (.s (.int .i64 i)), H := upd ((fun _ => none)) 28 (some (.row 9 1 ((xs.take i).map dAV))) }) (fun i => i ≤ xs.length ∧ ∀ j q, j < i → xs[j]? = some q → -1000000000000 ≤ q ∧ q ≤ 1000000000000) (fun i => xs.length - i) 0 ?_ ?_ ?_
      · exact ⟨Nat.zero_le _, fun j u hj => by omega⟩
      · refine Sub.trans (sub_move 3 14 28 rfl rfl rfl (by decide)) ?_
        refine sub_weak ?_ ?_
        · exact weakH_row (rowEq (rfl)) (weakH_none _)
        · refine weakE_upd ?e17 ?r17 (weakE_upd ?e16 ?r16 (weakE_upd ?e15 ?r15 (weakE_upd ?e3 ?r3 (weakE_junk _ _))))
          case e3 => first | rfl | exact fI (by omega) | (first | rfl | (rw [hst]; exact ownEq (by simp)))
          case r3 => intro h hh; simp [refs] at hh; subst hh; rfl
          case e15 => first | rfl | exact fI (by omega) | (simp_all)
          case r15 => intro h hh; cases hh
          case e16 => first | rfl | exact fI (by omega) | (simp_all)
          case r16 => intro h hh; cases hh
          case e17 => first | rfl | exact fI (by omega) | (simp_all)
          case r17 => intro h hh; cases hh
      · rintro i ⟨hI, hJ⟩
        refine good_seq fun K15 hK15 => ?_
        refine good_region rfl ?_
        refine ev_q rfl (q_int rfl rfl ?_)
        intro b16 hb16; cases b16
        · replace hb16 := dF hb16
          obtain rfl : i = xs.length := by omega
          have hall : ∀ x ∈ xs, -1000000000000 ≤ x ∧ x ≤ 1000000000000 := fun x hx => by obtain ⟨j, hj⟩ := List.getElem?_of_mem hx; exact hJ j x (List.getElem?_eq_some_iff.1 hj).1 hj
          have hfl : fitsL xs := ⟨by omega, hall⟩
          have hne : xs ≠ [] := fun e => by have e2 := congrArg List.length e; rw [List.length_nil] at e2; omega
          refine ev_nil (hK15 _ ?_); clear hK15
          refine good_seq fun K17 hK17 => ?_
          refine good_condF rfl ?_
          refine good_exit ?_
          repeat (first | refine thenQ_exit ?_ | refine blockQ_pass rfl ?_)
          refine blockQ_exit (hK12 _ ?_); clear hK12
          refine good_seq fun K18 hK18 => ?_
          refine good_region rfl ?_
          refine ev_q rfl (q_move (by conv => lhs; whnf) ?_)
          refine ev_q rfl (q_call rfl rfl (by change ([.lst 1 (List.take (List.take xs.length xs).length ((List.take xs.length xs).map dAV)), .s (.string ⟨#[44]⟩)] : List AV) = _; simp only [takeMap, List.take_length]) (D_joinI xs (by omega) (fun x hx => by have := hall x hx; exact ⟨by omega, by omega⟩)) rfl ?_)
          refine ev_q rfl (q_assign (by conv => lhs; whnf) ?_)
          refine ev_nil (hK18 _ ?_); clear hK18
          refine good_ret ?_
          repeat (first | refine thenQ_ret ?_ | refine blockQ_ret ?_)
          refine ret_tmp (st := _) rfl (by conv => lhs; whnf) rfl ?_
          clear hK17
          first | exact fS (lt_no hnf).symm | exact fS (by subst h0; exact lt_0.symm) | exact fS (lt_ok hfl hne).symm
        · replace hb16 := dT hb16
          obtain ⟨q, hq⟩ := getL (xs := xs) (n := (i : Int)) (by omega) (by omega)
          replace hq : xs[i]? = some q := hq
          have hst := takeS hq
          refine ev_nil (hK15 _ ?_); clear hK15
          refine good_seq fun K19 hK19 => ?_
          refine good_condT rfl ?_
          refine good_skip (hK19 _ ?_); clear hK19
          refine good_seq fun K20 hK20 => ?_
          refine good_block ?_
          refine good_seq fun K21 hK21 => ?_
          refine good_region rfl ?_
          refine ev_q rfl (q_idx tE69 rfl rfl (by exact Int.natCast_nonneg _) (by exact map_get hq) rfl ?_)
          refine ev_q rfl (q_load tA2 rfl ?_)
          refine ev_q rfl (q_assign (by conv => lhs; whnf) ?_)
          refine ev_nil (hK21 _ ?_); clear hK21
          refine good_seq fun K22 hK22 => ?_
          refine good_seq fun K23 hK23 => ?_
          refine good_region rfl ?_
          refine ev_q rfl (q_move (by conv => lhs; whnf) ?_)
          refine ev_q rfl (q_callB rfl rfl (rfl) (D_impl_within ..) ?_)
          intro b24 hb24; cases b24
          · first | replace hb24 := dF hb24 | skip
            have hnf : ¬ fitsL xs := fun h => by have := h.2 q (List.mem_of_getElem? hq); omega
            refine ev_q rfl (q_not rfl rfl ?_)
            refine ev_nil (hK23 _ ?_); clear hK23
            refine good_condT rfl ?_
            refine good_seq fun K25 hK25 => ?_
            refine good_region rfl ?_
            refine ev_q rfl (q_assign (by conv => lhs; whnf) ?_)
            refine ev_nil (hK25 _ ?_); clear hK25
            refine good_ret ?_
            repeat (first | refine thenQ_ret ?_ | refine blockQ_ret ?_)
            refine ret_tmp (st := _) rfl (by conv => lhs; whnf) rfl ?_
            clear hK12 hK20 hK22
            first | exact fS (lt_no hnf).symm | exact fS (by subst h0; exact lt_0.symm) | exact fS (lt_ok hfl hne).symm
          · first | replace hb24 := dT hb24 | skip
            have hqb := hb24
            refine ev_q rfl (q_not rfl rfl ?_)
            refine ev_nil (hK23 _ ?_); clear hK23
            refine good_condF rfl ?_
            refine good_skip (hK22 _ ?_); clear hK22
            refine good_region rfl ?_
            refine ev_q rfl (q_move (by conv => lhs; whnf) ?_)
            refine ev_q rfl (q_move (by conv => lhs; whnf) ?_)
            refine ev_q rfl (q_call rfl rfl (rfl) (D_impl_Decimal q ⟨by omega, by omega⟩) rfl ?_)
            refine ev_k rfl (k_lit tE86 zA9 rfl rfl (by decide) (by decide) rfl rfl rfl ?_)
            refine ev_k rfl (k_app tApp86 rfl rfl (by simp) rfl (.inr rfl) (by simp [maxLen]; omega) (by simp; omega) ?_)
            refine ev_q rfl (q_assign (by conv => lhs; whnf) ?_)
            refine ev_nil (hK20 _ ?_); clear hK20
            refine good_region rfl ?_
            refine ev_q rfl (q_int rfl rfl ?_)
            intro n26 hn26
            replace hn26 := in64 hn26 (by omega) (by omega)
            refine ev_q rfl (q_move (by conv => lhs; whnf) ?_)
            refine ev_nil ?_
            clear hK12
            refine ⟨i + 1, ?_, ?_, ?_⟩
            · exact ⟨by omega, all_extI (Q := fun _ (q : Int) => -1000000000000 ≤ q ∧ q ≤ 1000000000000) hJ hq hqb⟩
            · first | omega | (simp only []; omega) | (dsimp only; omega)
            · refine sub_weak ?_ ?_
              · exact weakH_row (rowEq (appG hst rfl)) (weakH_none _)
              · refine weakE_upd ?e17 ?r17 (weakE_upd ?e16 ?r16 (weakE_upd ?e15 ?r15 (weakE_upd ?e3 ?r3 (weakE_junk _ _))))
                case e3 => first | rfl | exact fI (by omega) | (first | rfl | (rw [hst]; exact ownEq (by simp)))
                case r3 => intro h hh; simp [refs] at hh; subst hh; rfl
                case e15 => first | rfl | exact fI (by omega) | (simp_all)
                case r15 => intro h hh; cases hh
                case e16 => first | rfl | exact fI (by omega) | (simp_all)
                case r16 => intro h hh; cases hh
                case e17 => first | rfl | exact fI (by omega) | (simp_all)
                case r17 => intro h hh; cases hh
    · replace hb9 := eqT hb9
      have h0 : xs = [] := List.eq_nil_of_length_eq_zero (by omega)
      refine ev_nil (hK7 _ ?_); clear hK7
      refine good_condT rfl ?_
      refine good_seq fun K27 hK27 => ?_
      refine good_region rfl ?_
      refine ev_q rfl (q_assign (by conv => lhs; whnf) ?_)
      refine ev_nil (hK27 _ ?_); clear hK27
      refine good_ret ?_
      repeat (first | refine thenQ_ret ?_ | refine blockQ_ret ?_)
      refine ret_tmp (st := _) rfl (by conv => lhs; whnf) rfl ?_
      clear hK6
      first | exact fS (lt_no hnf).symm | exact fS (by subst h0; exact lt_0.symm) | exact fS (lt_ok hfl hne).symm
  · replace hb5 := dT hb5
    have hnf : ¬ fitsL xs := fun h => by have := h.1; omega
    refine ev_nil (hK3 _ ?_); clear hK3
    refine good_condT rfl ?_
    refine good_seq fun K28 hK28 => ?_
    refine good_region rfl ?_
    refine ev_q rfl (q_assign (by conv => lhs; whnf) ?_)
    refine ev_nil (hK28 _ ?_); clear hK28
    refine good_ret ?_
    repeat (first | refine thenQ_ret ?_ | refine blockQ_ret ?_)
    refine ret_tmp (st := _) rfl (by conv => lhs; whnf) rfl ?_
    clear hK2
    first | exact fS (lt_no hnf).symm | exact fS (by subst h0; exact lt_0.symm) | exact fS (lt_ok hfl hne).symm

-- spec.l01Dec
set_option maxRecDepth 20000 in
set_option maxHeartbeats 2000000 in
theorem D_spec_l01Dec (n : Int) (h : inI n) : Den Tryd.prog 92 [.s (.int .i64 n)] (.s (.string (dec n))) := by
  have hr : -9223372036854775808 ≤ n ∧ n ≤ 9223372036854775807 := h
  refine den_of_good Tryd.func92 (by decide) rfl (Nat.le_of_ble_eq_true rfl) (Nat.le_of_ble_eq_true rfl) ?_
  refine good_seq fun K1 hK1 => ?_
  refine good_region rfl ?_
  refine ev_q rfl (q_assign (by conv => lhs; whnf) ?_)
  refine ev_nil (hK1 _ ?_); clear hK1
  refine good_seq fun K2 hK2 => ?_
  refine good_seq fun K3 hK3 => ?_
  refine good_region rfl ?_
  refine ev_q rfl (q_move (by conv => lhs; whnf) ?_)
  refine ev_q rfl (q_int rfl rfl ?_)
  intro b4 hb4; cases b4
  · replace hb4 := eqF hb4
    refine ev_nil (hK3 _ ?_); clear hK3
    refine good_condF rfl ?_
    refine good_skip (hK2 _ ?_); clear hK2
    refine good_seq fun K5 hK5 => ?_
    refine good_region rfl ?_
    refine ev_k rfl (k_lit tE61 zA5 rfl rfl (by decide) (by decide) rfl rfl rfl ?_)
    refine ev_q rfl (q_assign (by conv => lhs; whnf) ?_)
    refine ev_nil (hK5 _ ?_); clear hK5
    refine good_seq fun K6 hK6 => ?_
    refine good_seq fun K7 hK7 => ?_
    refine good_region rfl ?_
    refine ev_q rfl (q_move (by conv => lhs; whnf) ?_)
    refine ev_q rfl (q_assign (by conv => lhs; whnf) ?_)
    refine ev_nil (hK7 _ ?_); clear hK7
    refine good_block ?_
    refine good_loop (α := Int × List Int) (fun (m, L) => { env := upd (upd (upd ((fun _ => .junk)) 0 (.s (.int .i64 n))) 3 (.own 27 L.length)) 4 (.s (.int .i64 m)), H := upd ((fun _ => none)) 27 (some (.row 5 1 (L.map u8A))) }) (fun (m, L) => decI n m L) (fun (m, L) => m.natAbs) (n, []) ?_ ?_ ?_
    · exact decI_0 (by omega)
    · refine Sub.trans (sub_move 3 10 27 rfl rfl rfl (by decide)) ?_
      refine sub_weak ?_ ?_
      · exact weakH_row (rowEq (rfl)) (weakH_none _)
      · refine weakE_upd ?e4 ?r4 (weakE_upd ?e3 ?r3 (weakE_upd ?e0 ?r0 (weakE_junk _ _)))
        case e0 => first | rfl | exact fI (by omega) | (simp_all)
        case r0 => intro h hh; cases hh
        case e3 => first | rfl | exact fI (by omega) | (first | rfl | exact ownEq (by simp))
        case r3 => intro h hh; simp [refs] at hh; subst hh; rfl
        case e4 => first | rfl | exact fI (by omega) | (rfl)
        case r4 => intro h hh; cases hh
    · rintro ⟨m, L⟩ hI
      refine good_seq fun K8 hK8 => ?_
      refine good_seq fun K9 hK9 => ?_
      refine good_region rfl ?_
      refine ev_q rfl (q_move (by conv => lhs; whnf) ?_)
      refine ev_q rfl (q_int rfl rfl ?_)
      intro b10 hb10; cases b10
      · replace hb10 := neF hb10
        obtain rfl : m = 0 := by omega
        have hlen := decI_len hI hr
        refine ev_nil (hK9 _ ?_); clear hK9
        refine good_condF rfl ?_
        refine good_exit ?_
        repeat (first | refine thenQ_exit ?_ | refine blockQ_pass rfl ?_)
        refine blockQ_exit (hK6 _ ?_); clear hK6
        refine good_seq fun K11 hK11 => ?_
        refine good_seq fun K12 hK12 => ?_
        refine good_region rfl ?_
        refine ev_q rfl (q_move (by conv => lhs; whnf) ?_)
        refine ev_q rfl (q_int rfl rfl ?_)
        intro b13 hb13; cases b13
        · replace hb13 := dF hb13
          have eL : decL n L = L := if_neg (by omega)
          have hdl := decL_len (n := n) (L := L)
          refine ev_nil (hK12 _ ?_); clear hK12
          refine good_condF rfl ?_
          refine good_skip (hK11 _ ?_); clear hK11
          refine good_seq fun K14 hK14 => ?_
          first | refine good_weak (sub_move 3 27 900001 rfl rfl rfl (by decide)) ?_ | refine good_weak (sub_move 3 32 900001 rfl rfl rfl (by decide)) ?_
          refine good_region rfl ?_
          refine ev_k rfl (k_lit tE61 zA5 rfl rfl (by decide) (by decide) rfl rfl rfl ?_)
          refine ev_q rfl (q_assign (by conv => lhs; whnf) ?_)
          refine ev_nil (hK14 _ ?_); clear hK14
          refine good_seq fun K15 hK15 => ?_
          refine good_seq fun K16 hK16 => ?_
          refine good_region rfl ?_
          refine ev_q rfl (q_move (by conv => lhs; whnf) ?_)
          refine ev_q rfl (q_len tEs61 rfl ?_)
          intro n17 hn17
          try simp only [List.length_map] at hn17
          try simp at hn17
          refine ev_q rfl (q_int rfl rfl ?_)
          intro n18 hn18
          replace hn18 := in64 hn18 (by omega) (by omega)
          refine ev_q rfl (q_assign (by conv => lhs; whnf) ?_)
          refine ev_nil (hK16 _ ?_); clear hK16
          refine good_block ?_
          refine good_loop (α := Nat) (fun i => { env := upd (upd (upd ((fun _ => .junk)) 3 (.own 900001 (decL n L).length)) 6 (.own 47 (revT (decL n L) i).length)) 7 (.s (.int .i64 ((i : Int) - 1))), H := upd (upd ((fun _ => none)) 47 (some (.row 5 1 ((revT (decL n L) i).map u8A)))) 900001 (some (.row 5 1 ((decL n L).map u8A))) }) (fun i => i ≤ (decL n L).length) (fun i => i) (decL n L).length ?_ ?_ ?_
          · exact Nat.le_refl _
          · refine Sub.trans (sub_move 6 33 47 rfl rfl rfl (by decide)) ?_
            refine sub_weak ?_ ?_
            · exact weakH_row (rowEq (by rw [eL]; first | done | rfl | exact appG rfl rfl)) (weakH_row (rowEq (by rw [revT_0]; rfl)) (weakH_none _))
            · refine weakE_upd ?e7 ?r7 (weakE_upd ?e6 ?r6 (weakE_upd ?e3 ?r3 (weakE_junk _ _)))
              case e3 => first | rfl | exact fI (by omega) | (first | rfl | exact ownEq (by rw [eL]; first | done | rfl | simp))
              case r3 => intro h hh; simp [refs] at hh; subst hh; rfl
              case e6 => first | rfl | exact fI (by omega) | (first | exact ownEq (by rw [revT_0]; rfl) | (rw [hst]; exact ownEq (by simp)))
              case r6 => intro h hh; simp [refs] at hh; subst hh; rfl
              case e7 => first | rfl | exact fI (by omega) | (exact fI (by rw [eL]; first | omega | (simp; done) | (simp; omega)))
              case r7 => intro h hh; cases hh
          · rintro i hJ
            refine good_seq fun K19 hK19 => ?_
            refine good_seq fun K20 hK20 => ?_
            refine good_region rfl ?_
            refine ev_q rfl (q_move (by conv => lhs; whnf) ?_)
            refine ev_q rfl (q_int rfl rfl ?_)
            intro b21 hb21; cases b21
            · replace hb21 := dF hb21
              obtain rfl : i = 0 := by omega
              refine ev_nil (hK20 _ ?_); clear hK20
              refine good_condF rfl ?_
              refine good_exit ?_
              repeat (first | refine thenQ_exit ?_ | refine blockQ_pass rfl ?_)
              refine blockQ_exit (hK15 _ ?_); clear hK15
              refine good_seq fun K22 hK22 => ?_
              refine good_region rfl ?_
              refine ev_q rfl (q_move (by conv => lhs; whnf) ?_)
              refine ev_q rfl (q_txtO tByS61 tStr9 rfl rfl (by exact u8s_take rfl) ?_)
              intro s23 hs23
              have htx := hs23
              refine ev_q rfl (q_assign (by conv => lhs; whnf) ?_)
              refine ev_nil (hK22 _ ?_); clear hK22
              refine good_ret ?_
              repeat (first | refine thenQ_ret ?_ | refine blockQ_ret ?_)
              refine ret_tmp (st := _) rfl (by conv => lhs; whnf) rfl ?_
              clear hK8 hK19
              first | exact fS dec_0 | (have h0 : n = 0 := (by omega); subst h0; exact fS dec_0) | exact fS (by rw [htx, revT_e, dec_end hI]; exact dec_son rfl)
            · replace hb21 := dT hb21
              have hrl := revT_len (L := (decL n L)) (i := i)
              obtain ⟨q, hq⟩ := getL (xs := (decL n L)) (n := (i : Int) - 1) (by omega) (by omega)
              have hst : revT (decL n L) (i - 1) = revT (decL n L) i ++ [q] := by have e := revT_s (L := (decL n L)) (i := i - 1) (q := q) (by rw [← hq]; congr 1; omega); rw [e, show i - 1 + 1 = i by omega]
              refine ev_nil (hK20 _ ?_); clear hK20
              refine good_condT rfl ?_
              refine good_skip (hK19 _ ?_); clear hK19
              refine good_seq fun K24 hK24 => ?_
              refine good_block ?_
              refine good_region rfl ?_
              refine ev_q rfl (q_move (by conv => lhs; whnf) ?_)
              refine ev_q rfl (q_move (by conv => lhs; whnf) ?_)
              refine ev_q rfl (q_move (by conv => lhs; whnf) ?_)
              refine ev_q rfl (q_idxO tE61 rfl rfl rfl (by omega) (by omega) rfl ?_)
              refine ev_q rfl (q_loadE tA5 rfl rfl (by exact map_get hq) rfl ?_)
              refine ev_k rfl (k_lit tE61 zA5 rfl rfl (by decide) (by decide) rfl rfl rfl ?_)
              refine ev_k rfl (k_app tApp61 rfl rfl (by simp) rfl (.inr rfl) (by first | (simp [maxLen]; done) | (simp [maxLen]; omega)) (by first | (simp; done) | (simp; omega)) ?_)
              refine ev_q rfl (q_assign (by conv => lhs; whnf) ?_)
              refine ev_nil (hK24 _ ?_); clear hK24
              refine good_region rfl ?_
              refine ev_q rfl (q_move (by conv => lhs; whnf) ?_)
              refine ev_q rfl (q_int rfl rfl ?_)
              intro n25 hn25
              replace hn25 := in64 hn25 (by omega) (by omega)
              refine ev_q rfl (q_assign (by conv => lhs; whnf) ?_)
              refine ev_nil ?_
              clear hK8 hK15
              refine ⟨i - 1, ?_, ?_, ?_⟩
              · show _ - 1 ≤ _; omega
              · show i - 1 < i; omega
              · refine sub_weak ?_ ?_
                · exact weakH_row (rowEq (rfl)) (weakH_row (rowEq (appG hst rfl)) (weakH_none _))
                · refine weakE_upd ?e7 ?r7 (weakE_upd ?e6 ?r6 (weakE_upd ?e3 ?r3 (weakE_junk _ _)))
                  case e3 => first | rfl | exact fI (by omega) | (first | rfl | exact ownEq (by rw [eL]; first | done | rfl | simp))
                  case r3 => intro h hh; simp [refs] at hh; subst hh; rfl
                  case e6 => first | rfl | exact fI (by omega) | (first | exact ownEq (by rw [revT_0]; rfl) | (rw [hst]; exact ownEq (by simp)))
                  case r6 => intro h hh; simp [refs] at hh; subst hh; rfl
                  case e7 => first | rfl | exact fI (by omega) | (exact fI (by rw [eL]; first | omega | (simp; done) | (simp; omega)))
                  case r7 => intro h hh; cases hh
        · replace hb13 := dT hb13
          have eL : decL n L = L ++ [45] := if_pos (by omega)
          have hdl := decL_len (n := n) (L := L)
          refine ev_nil (hK12 _ ?_); clear hK12
          refine good_condT rfl ?_
          refine good_region rfl ?_
          refine ev_q rfl (q_move (by conv => lhs; whnf) ?_)
          refine ev_k rfl (k_lit tE61 zA5 rfl rfl (by decide) (by decide) rfl rfl rfl ?_)
          refine ev_k rfl (k_app tApp61 rfl rfl (by simp) rfl (.inl rfl) (by first | (simp [maxLen]; done) | (simp [maxLen]; omega)) (by first | (simp; done) | (simp; omega)) ?_)
          refine ev_q rfl (q_assign (by conv => lhs; whnf) ?_)
          refine ev_nil (hK11 _ ?_); clear hK11
          refine good_seq fun K26 hK26 => ?_
          first | refine good_weak (sub_move 3 27 900001 rfl rfl rfl (by decide)) ?_ | refine good_weak (sub_move 3 32 900001 rfl rfl rfl (by decide)) ?_
          refine good_region rfl ?_
          refine ev_k rfl (k_lit tE61 zA5 rfl rfl (by decide) (by decide) rfl rfl rfl ?_)
          refine ev_q rfl (q_assign (by conv => lhs; whnf) ?_)
          refine ev_nil (hK26 _ ?_); clear hK26
          refine good_seq fun K27 hK27 => ?_
          refine good_seq fun K28 hK28 => ?_
          refine good_region rfl ?_
          refine ev_q rfl (q_move (by conv => lhs; whnf) ?_)
          refine ev_q rfl (q_len tEs61 rfl ?_)
          intro n29 hn29
          try simp only [List.length_map] at hn29
          try simp at hn29
          refine ev_q rfl (q_int rfl rfl ?_)
          intro n30 hn30
          replace hn30 := in64 hn30 (by omega) (by omega)
          refine ev_q rfl (q_assign (by conv => lhs; whnf) ?_)
          refine ev_nil (hK28 _ ?_); clear hK28
          refine good_block ?_
          refine good_loop (α := Nat) (fun i => { env := upd (upd (upd ((fun _ => .junk)) 3 (.own 900001 (decL n L).length)) 6 (.own 47 (revT (decL n L) i).length)) 7 (.s (.int .i64 ((i : Int) - 1))), H := upd (upd ((fun _ => none)) 47 (some (.row 5 1 ((revT (decL n L) i).map u8A)))) 900001 (some (.row 5 1 ((decL n L).map u8A))) }) (fun i => i ≤ (decL n L).length) (fun i => i) (decL n L).length ?_ ?_ ?_
          · exact Nat.le_refl _
          · refine Sub.trans (sub_move 6 33 47 rfl rfl rfl (by decide)) ?_
            refine sub_weak ?_ ?_
            · exact weakH_row (rowEq (by rw [eL]; first | done | rfl | exact appG rfl rfl)) (weakH_row (rowEq (by rw [revT_0]; rfl)) (weakH_none _))
            · refine weakE_upd ?e7 ?r7 (weakE_upd ?e6 ?r6 (weakE_upd ?e3 ?r3 (weakE_junk _ _)))
              case e3 => first | rfl | exact fI (by omega) | (first | rfl | exact ownEq (by rw [eL]; first | done | rfl | simp))
              case r3 => intro h hh; simp [refs] at hh; subst hh; rfl
              case e6 => first | rfl | exact fI (by omega) | (first | exact ownEq (by rw [revT_0]; rfl) | (rw [hst]; exact ownEq (by simp)))
              case r6 => intro h hh; simp [refs] at hh; subst hh; rfl
              case e7 => first | rfl | exact fI (by omega) | (exact fI (by rw [eL]; first | omega | (simp; done) | (simp; omega)))
              case r7 => intro h hh; cases hh
          · rintro i hJ
            refine good_seq fun K31 hK31 => ?_
            refine good_seq fun K32 hK32 => ?_
            refine good_region rfl ?_
            refine ev_q rfl (q_move (by conv => lhs; whnf) ?_)
            refine ev_q rfl (q_int rfl rfl ?_)
            intro b33 hb33; cases b33
            · replace hb33 := dF hb33
              obtain rfl : i = 0 := by omega
              refine ev_nil (hK32 _ ?_); clear hK32
              refine good_condF rfl ?_
              refine good_exit ?_
              repeat (first | refine thenQ_exit ?_ | refine blockQ_pass rfl ?_)
              refine blockQ_exit (hK27 _ ?_); clear hK27
              refine good_seq fun K34 hK34 => ?_
              refine good_region rfl ?_
              refine ev_q rfl (q_move (by conv => lhs; whnf) ?_)
              refine ev_q rfl (q_txtO tByS61 tStr9 rfl rfl (by exact u8s_take rfl) ?_)
              intro s35 hs35
              have htx := hs35
              refine ev_q rfl (q_assign (by conv => lhs; whnf) ?_)
              refine ev_nil (hK34 _ ?_); clear hK34
              refine good_ret ?_
              repeat (first | refine thenQ_ret ?_ | refine blockQ_ret ?_)
              refine ret_tmp (st := _) rfl (by conv => lhs; whnf) rfl ?_
              clear hK8 hK31
              first | exact fS dec_0 | (have h0 : n = 0 := (by omega); subst h0; exact fS dec_0) | exact fS (by rw [htx, revT_e, dec_end hI]; exact dec_son rfl)
            · replace hb33 := dT hb33
              have hrl := revT_len (L := (decL n L)) (i := i)
              obtain ⟨q, hq⟩ := getL (xs := (decL n L)) (n := (i : Int) - 1) (by omega) (by omega)
              have hst : revT (decL n L) (i - 1) = revT (decL n L) i ++ [q] := by have e := revT_s (L := (decL n L)) (i := i - 1) (q := q) (by rw [← hq]; congr 1; omega); rw [e, show i - 1 + 1 = i by omega]
              refine ev_nil (hK32 _ ?_); clear hK32
              refine good_condT rfl ?_
              refine good_skip (hK31 _ ?_); clear hK31
              refine good_seq fun K36 hK36 => ?_
              refine good_block ?_
              refine good_region rfl ?_
              refine ev_q rfl (q_move (by conv => lhs; whnf) ?_)
              refine ev_q rfl (q_move (by conv => lhs; whnf) ?_)
              refine ev_q rfl (q_move (by conv => lhs; whnf) ?_)
              refine ev_q rfl (q_idxO tE61 rfl rfl rfl (by omega) (by omega) rfl ?_)
              refine ev_q rfl (q_loadE tA5 rfl rfl (by exact map_get hq) rfl ?_)
              refine ev_k rfl (k_lit tE61 zA5 rfl rfl (by decide) (by decide) rfl rfl rfl ?_)
              refine ev_k rfl (k_app tApp61 rfl rfl (by simp) rfl (.inr rfl) (by first | (simp [maxLen]; done) | (simp [maxLen]; omega)) (by first | (simp; done) | (simp; omega)) ?_)
              refine ev_q rfl (q_assign (by conv => lhs; whnf) ?_)
              refine ev_nil (hK36 _ ?_); clear hK36
              refine good_region rfl ?_
              refine ev_q rfl (q_move (by conv => lhs; whnf) ?_)
              refine ev_q rfl (q_int rfl rfl ?_)
              intro n37 hn37
              replace hn37 := in64 hn37 (by omega) (by omega)
              refine ev_q rfl (q_assign (by conv => lhs; whnf) ?_)
              refine ev_nil ?_
              clear hK8 hK27
              refine ⟨i - 1, ?_, ?_, ?_⟩
              · show _ - 1 ≤ _; omega
              · show i - 1 < i; omega
              · refine sub_weak ?_ ?_
                · exact weakH_row (rowEq (rfl)) (weakH_row (rowEq (appG hst rfl)) (weakH_none _))
                · refine weakE_upd ?e7 ?r7 (weakE_upd ?e6 ?r6 (weakE_upd ?e3 ?r3 (weakE_junk _ _)))
                  case e3 => first | rfl | exact fI (by omega) | (first | rfl | exact ownEq (by rw [eL]; first | done | rfl | simp))
                  case r3 => intro h hh; simp [refs] at hh; subst hh; rfl
                  case e6 => first | rfl | exact fI (by omega) | (first | exact ownEq (by rw [revT_0]; rfl) | (rw [hst]; exact ownEq (by simp)))
                  case r6 => intro h hh; simp [refs] at hh; subst hh; rfl
                  case e7 => first | rfl | exact fI (by omega) | (exact fI (by rw [eL]; first | omega | (simp; done) | (simp; omega)))
                  case r7 => intro h hh; cases hh
      · replace hb10 := neT hb10
        have hlen := decI_len hI hr
        have hmr : -9223372036854775808 ≤ m ∧ m ≤ 9223372036854775807 := by have h1 := hI.1; have h2 := hI.2.1; omega
        refine ev_nil (hK9 _ ?_); clear hK9
        refine good_condT rfl ?_
        refine good_skip (hK8 _ ?_); clear hK8
        refine good_seq fun K38 hK38 => ?_
        refine good_block ?_
        refine good_seq fun K39 hK39 => ?_
        refine good_region rfl ?_
        refine ev_q rfl (q_move (by conv => lhs; whnf) ?_)
        refine ev_q rfl (q_int rfl rfl ⟨by omega, ?_⟩)
        intro n40 hn40
        have hb17 := tmodB hn40
        have h17 := hn40
        refine ev_q rfl (q_assign (by conv => lhs; whnf) ?_)
        refine ev_nil (hK39 _ ?_); clear hK39
        refine good_seq fun K41 hK41 => ?_
        refine good_seq fun K42 hK42 => ?_
        refine good_region rfl ?_
        refine ev_q rfl (q_move (by conv => lhs; whnf) ?_)
        refine ev_q rfl (q_int rfl rfl ?_)
        intro b43 hb43; cases b43
        · replace hb43 := dF hb43
          refine ev_nil (hK42 _ ?_); clear hK42
          refine good_condF rfl ?_
          refine good_skip (hK41 _ ?_); clear hK41
          refine good_region rfl ?_
          refine ev_q rfl (q_move (by conv => lhs; whnf) ?_)
          refine ev_q rfl (q_move (by conv => lhs; whnf) ?_)
          refine ev_q rfl (q_int rfl rfl ?_)
          intro n44 hn44
          replace hn44 := in64 hn44 (by omega) (by omega)
          refine ev_q rfl (q_conv tK2 tK5 rfl ?_)
          intro n45 hn45
          replace hn45 := u8w hn45 (by omega) (by omega)
          have hd25 := absT h17 (b := n45 - 48) (by omega)
          refine ev_k rfl (k_lit tE61 zA5 rfl rfl (by decide) (by decide) rfl rfl rfl ?_)
          refine ev_k rfl (k_app tApp61 rfl rfl (by simp) rfl (.inr rfl) (by first | (simp [maxLen]; done) | (simp [maxLen]; omega)) (by first | (simp; done) | (simp; omega)) ?_)
          refine ev_q rfl (q_assign (by conv => lhs; whnf) ?_)
          refine ev_nil (hK38 _ ?_); clear hK38
          refine good_region rfl ?_
          refine ev_q rfl (q_move (by conv => lhs; whnf) ?_)
          refine ev_q rfl (q_int rfl rfl ⟨by omega, ?_⟩)
          intro n46 hn46
          replace hn46 := quo10 hn46 (by omega) (by omega)
          have hmu := tdivA hn46 (by omega)
          refine ev_q rfl (q_assign (by conv => lhs; whnf) ?_)
          refine ev_nil ?_
          clear hK6
          refine ⟨(n46, L ++ [n45]), ?_, ?_, ?_⟩
          · exact decI_s hI (by omega) hn46 (by omega)
          · exact hmu
          · refine sub_weak ?_ ?_
            · exact weakH_row (rowEq (appG rfl rfl)) (weakH_none _)
            · refine weakE_upd ?e4 ?r4 (weakE_upd ?e3 ?r3 (weakE_upd ?e0 ?r0 (weakE_junk _ _)))
              case e0 => first | rfl | exact fI (by omega) | (simp_all)
              case r0 => intro h hh; cases hh
              case e3 => first | rfl | exact fI (by omega) | (first | rfl | exact ownEq (by simp))
              case r3 => intro h hh; simp [refs] at hh; subst hh; rfl
              case e4 => first | rfl | exact fI (by omega) | (rfl)
              case r4 => intro h hh; cases hh
        · replace hb43 := dT hb43
          refine ev_nil (hK42 _ ?_); clear hK42
          refine good_condT rfl ?_
          refine good_region rfl ?_
          refine ev_q rfl (q_move (by conv => lhs; whnf) ?_)
          refine ev_q rfl (q_neg rfl ?_)
          intro n47 hn47
          replace hn47 := neg64 hn47 (by omega) (by omega)
          refine ev_q rfl (q_assign (by conv => lhs; whnf) ?_)
          refine ev_nil (hK41 _ ?_); clear hK41
          refine good_region rfl ?_
          refine ev_q rfl (q_move (by conv => lhs; whnf) ?_)
          refine ev_q rfl (q_move (by conv => lhs; whnf) ?_)
          refine ev_q rfl (q_int rfl rfl ?_)
          intro n48 hn48
          replace hn48 := in64 hn48 (by omega) (by omega)
          refine ev_q rfl (q_conv tK2 tK5 rfl ?_)
          intro n49 hn49
          replace hn49 := u8w hn49 (by omega) (by omega)
          have hd25 := absT h17 (b := n49 - 48) (by omega)
          refine ev_k rfl (k_lit tE61 zA5 rfl rfl (by decide) (by decide) rfl rfl rfl ?_)
          refine ev_k rfl (k_app tApp61 rfl rfl (by simp) rfl (.inr rfl) (by first | (simp [maxLen]; done) | (simp [maxLen]; omega)) (by first | (simp; done) | (simp; omega)) ?_)
          refine ev_q rfl (q_assign (by conv => lhs; whnf) ?_)
          refine ev_nil (hK38 _ ?_); clear hK38
          refine good_region rfl ?_
          refine ev_q rfl (q_move (by conv => lhs; whnf) ?_)
          refine ev_q rfl (q_int rfl rfl ⟨by omega, ?_⟩)
          intro n50 hn50
          replace hn50 := quo10 hn50 (by omega) (by omega)
          have hmu := tdivA hn50 (by omega)
          refine ev_q rfl (q_assign (by conv => lhs; whnf) ?_)
          refine ev_nil ?_
          clear hK6
          refine ⟨(n50, L ++ [n49]), ?_, ?_, ?_⟩
          · exact decI_s hI (by omega) hn50 (by omega)
          · exact hmu
          · refine sub_weak ?_ ?_
            · exact weakH_row (rowEq (appG rfl rfl)) (weakH_none _)
            · refine weakE_upd ?e4 ?r4 (weakE_upd ?e3 ?r3 (weakE_upd ?e0 ?r0 (weakE_junk _ _)))
              case e0 => first | rfl | exact fI (by omega) | (simp_all)
              case r0 => intro h hh; cases hh
              case e3 => first | rfl | exact fI (by omega) | (first | rfl | exact ownEq (by simp))
              case r3 => intro h hh; simp [refs] at hh; subst hh; rfl
              case e4 => first | rfl | exact fI (by omega) | (rfl)
              case r4 => intro h hh; cases hh
  · replace hb4 := eqT hb4
    refine ev_nil (hK3 _ ?_); clear hK3
    refine good_condT rfl ?_
    refine good_seq fun K51 hK51 => ?_
    refine good_region rfl ?_
    refine ev_q rfl (q_assign (by conv => lhs; whnf) ?_)
    refine ev_nil (hK51 _ ?_); clear hK51
    refine good_ret ?_
    repeat (first | refine thenQ_ret ?_ | refine blockQ_ret ?_)
    refine ret_tmp (st := _) rfl (by conv => lhs; whnf) rfl ?_
    clear hK2
    first | exact fS dec_0 | (have h0 : n = 0 := (by omega); subst h0; exact fS dec_0) | exact fS (by rw [htx, revT_e, dec_end hI]; exact dec_son rfl)

-- spec.l01List
set_option maxRecDepth 20000 in
set_option maxHeartbeats 2000000 in
theorem D_spec_l01List (xs : List Int) (hx : xs.length ≤ 1000000) (hi : ∀ x ∈ xs, inI x) : Den Tryd.prog 89 [.lst 1 (xs.map ci)] (.s (.string (if xs = [] then tx [45] else tx (ltx xs)))) := by
  refine den_of_good Tryd.func89 (by decide) rfl (Nat.le_of_ble_eq_true rfl) (Nat.le_of_ble_eq_true rfl) ?_
  refine good_seq fun K1 hK1 => ?_
  refine good_region rfl ?_
  refine ev_q rfl (q_assign (by conv => lhs; whnf) ?_)
  refine ev_nil (hK1 _ ?_); clear hK1
  refine good_seq fun K2 hK2 => ?_
  refine good_seq fun K3 hK3 => ?_
  refine good_region rfl ?_
  refine ev_q rfl (q_move (by conv => lhs; whnf) ?_)
  refine ev_q rfl (q_len tEs69 rfl ?_)
  intro n4 hn4
  try simp only [List.length_map] at hn4
  refine ev_q rfl (q_int rfl rfl ?_)
  intro b5 hb5; cases b5
  · replace hb5 := eqF hb5
    have hne : xs ≠ [] := fun e => by have e2 := congrArg List.length e; rw [List.length_nil] at e2; omega
    refine ev_nil (hK3 _ ?_); clear hK3
    refine good_condF rfl ?_
    refine good_skip (hK2 _ ?_); clear hK2
    refine good_seq fun K6 hK6 => ?_
    refine good_region rfl ?_
    refine ev_q rfl (q_assign (by conv => lhs; whnf) ?_)
    refine ev_nil (hK6 _ ?_); clear hK6
    refine good_seq fun K7 hK7 => ?_
    refine good_seq fun K8 hK8 => ?_
    refine good_region rfl ?_
    refine ev_q rfl (q_assign (by conv => lhs; whnf) ?_)
    refine ev_nil (hK8 _ ?_); clear hK8
    refine good_block ?_
    refine good_loop (α := Nat) (fun i => { env := upd (upd (upd ((fun _ => .junk)) 0 (.lst 1 (xs.map ci))) 3 (.s (.string (tx (ltx (xs.take i)))))) 4 (.s (.int .i64 i)), H := fun _ => none }) (fun i => i ≤ xs.length) (fun i => xs.length - i) 0 ?_ ?_ ?_
    · show 0 ≤ _; omega
    · refine sub_weak ?_ ?_
      · exact weakH_none _
      · refine weakE_upd ?e4 ?r4 (weakE_upd ?e3 ?r3 (weakE_upd ?e0 ?r0 (weakE_junk _ _)))
        case e0 => first | rfl | exact fI (by omega) | (simp_all)
        case r0 => intro h hh; cases hh
        case e3 => first | rfl | exact fI (by omega) | (first | rfl | exact fS hst | exact fS hst.symm)
        case r3 => intro h hh; cases hh
        case e4 => first | rfl | exact fI (by omega) | (simp_all)
        case r4 => intro h hh; cases hh
    · rintro i hI
      refine good_seq fun K9 hK9 => ?_
      refine good_seq fun K10 hK10 => ?_
      refine good_region rfl ?_
      refine ev_q rfl (q_move (by conv => lhs; whnf) ?_)
      refine ev_q rfl (q_move (by conv => lhs; whnf) ?_)
      refine ev_q rfl (q_len tEs69 rfl ?_)
      intro n11 hn11
      try simp only [List.length_map] at hn11
      refine ev_q rfl (q_int rfl rfl ?_)
      intro b12 hb12; cases b12
      · replace hb12 := dF hb12
        obtain rfl : i = xs.length := by omega
        refine ev_nil (hK10 _ ?_); clear hK10
        refine good_condF rfl ?_
        refine good_exit ?_
        repeat (first | refine thenQ_exit ?_ | refine blockQ_pass rfl ?_)
        refine blockQ_exit (hK7 _ ?_); clear hK7
        refine good_seq fun K13 hK13 => ?_
        refine good_region rfl ?_
        refine ev_q rfl (q_move (by conv => lhs; whnf) ?_)
        refine ev_q rfl (q_assign (by conv => lhs; whnf) ?_)
        refine ev_nil (hK13 _ ?_); clear hK13
        refine good_ret ?_
        repeat (first | refine thenQ_ret ?_ | refine blockQ_ret ?_)
        refine ret_tmp (st := _) rfl (by conv => lhs; whnf) rfl ?_
        clear hK9
        first | exact fS (by rw [if_pos h0]; rfl) | exact fS (by rw [if_neg hne, List.take_length])
      · replace hb12 := dT hb12
        obtain ⟨q, hq⟩ := getL (xs := xs) (n := (i : Int)) (by omega) (by omega)
        replace hq : xs[i]? = some q := hq
        have hl := ltx_len hi (i := i) (by omega)
        have hqI := hi q (List.mem_of_getElem? hq)
        have hds := dec_size hqI.1 hqI.2
        refine ev_nil (hK10 _ ?_); clear hK10
        refine good_condT rfl ?_
        refine good_skip (hK9 _ ?_); clear hK9
        refine good_seq fun K14 hK14 => ?_
        refine good_block ?_
        refine good_seq fun K15 hK15 => ?_
        refine good_seq fun K16 hK16 => ?_
        refine good_region rfl ?_
        refine ev_q rfl (q_move (by conv => lhs; whnf) ?_)
        refine ev_q rfl (q_int rfl rfl ?_)
        intro b17 hb17; cases b17
        · replace hb17 := dF hb17
          refine ev_nil (hK16 _ ?_); clear hK16
          refine good_condF rfl ?_
          refine good_skip (hK15 _ ?_); clear hK15
          refine good_region rfl ?_
          refine ev_q rfl (q_move (by conv => lhs; whnf) ?_)
          refine ev_q rfl (q_move (by conv => lhs; whnf) ?_)
          refine ev_q rfl (q_move (by conv => lhs; whnf) ?_)
          refine ev_q rfl (q_idx tE69 rfl rfl (by exact Int.natCast_nonneg _) (by exact map_get hq) rfl ?_)
          refine ev_q rfl (q_load tA2 rfl ?_)
          refine ev_q rfl (q_call rfl rfl (rfl) (D_spec_l01Dec q hqI) rfl ?_)
          refine ev_q rfl (q_str rfl rfl ⟨by first | omega | (rw [tx_size]; omega), ?_⟩)
          intro s18 hs18
          first | have hst := ltx_s2 hq (by omega) h17 hs18 | have hst := ltx_s1 hq (by omega) hs18
          refine ev_q rfl (q_assign (by conv => lhs; whnf) ?_)
          refine ev_nil (hK14 _ ?_); clear hK14
          refine good_region rfl ?_
          refine ev_q rfl (q_move (by conv => lhs; whnf) ?_)
          refine ev_q rfl (q_int rfl rfl ?_)
          intro n19 hn19
          replace hn19 := in64 hn19 (by omega) (by omega)
          refine ev_q rfl (q_assign (by conv => lhs; whnf) ?_)
          refine ev_nil ?_
          clear hK7
          refine ⟨i + 1, ?_, ?_, ?_⟩
          · show _ ≤ _; omega
          · first | omega | (simp only []; omega) | (dsimp only; omega)
          · refine sub_weak ?_ ?_
            · exact weakH_none _
            · refine weakE_upd ?e4 ?r4 (weakE_upd ?e3 ?r3 (weakE_upd ?e0 ?r0 (weakE_junk _ _)))
              case e0 => first | rfl | exact fI (by omega) | (simp_all)
              case r0 => intro h hh; cases hh
              case e3 => first | rfl | exact fI (by omega) | (first | rfl | exact fS hst | exact fS hst.symm)
              case r3 => intro h hh; cases hh
              case e4 => first | rfl | exact fI (by omega) | (simp_all)
              case r4 => intro h hh; cases hh
        · replace hb17 := dT hb17
          refine ev_nil (hK16 _ ?_); clear hK16
          refine good_condT rfl ?_
          refine good_region rfl ?_
          refine ev_q rfl (q_move (by conv => lhs; whnf) ?_)
          refine ev_q rfl (q_str rfl rfl ⟨by rw [tx_size, show (⟨#[44]⟩ : ByteArray).size = 1 from rfl]; omega, ?_⟩)
          intro s20 hs20
          have h17 := hs20
          have hz17 := sz_app hs20
          rw [tx_size, show (⟨#[44]⟩ : ByteArray).size = 1 from rfl] at hz17
          refine ev_q rfl (q_assign (by conv => lhs; whnf) ?_)
          refine ev_nil (hK15 _ ?_); clear hK15
          refine good_region rfl ?_
          refine ev_q rfl (q_move (by conv => lhs; whnf) ?_)
          refine ev_q rfl (q_move (by conv => lhs; whnf) ?_)
          refine ev_q rfl (q_move (by conv => lhs; whnf) ?_)
          refine ev_q rfl (q_idx tE69 rfl rfl (by exact Int.natCast_nonneg _) (by exact map_get hq) rfl ?_)
          refine ev_q rfl (q_load tA2 rfl ?_)
          refine ev_q rfl (q_call rfl rfl (rfl) (D_spec_l01Dec q hqI) rfl ?_)
          refine ev_q rfl (q_str rfl rfl ⟨by first | omega | (rw [tx_size]; omega), ?_⟩)
          intro s21 hs21
          first | have hst := ltx_s2 hq (by omega) h17 hs21 | have hst := ltx_s1 hq (by omega) hs21
          refine ev_q rfl (q_assign (by conv => lhs; whnf) ?_)
          refine ev_nil (hK14 _ ?_); clear hK14
          refine good_region rfl ?_
          refine ev_q rfl (q_move (by conv => lhs; whnf) ?_)
          refine ev_q rfl (q_int rfl rfl ?_)
          intro n22 hn22
          replace hn22 := in64 hn22 (by omega) (by omega)
          refine ev_q rfl (q_assign (by conv => lhs; whnf) ?_)
          refine ev_nil ?_
          clear hK7
          refine ⟨i + 1, ?_, ?_, ?_⟩
          · show _ ≤ _; omega
          · first | omega | (simp only []; omega) | (dsimp only; omega)
          · refine sub_weak ?_ ?_
            · exact weakH_none _
            · refine weakE_upd ?e4 ?r4 (weakE_upd ?e3 ?r3 (weakE_upd ?e0 ?r0 (weakE_junk _ _)))
              case e0 => first | rfl | exact fI (by omega) | (simp_all)
              case r0 => intro h hh; cases hh
              case e3 => first | rfl | exact fI (by omega) | (first | rfl | exact fS hst | exact fS hst.symm)
              case r3 => intro h hh; cases hh
              case e4 => first | rfl | exact fI (by omega) | (simp_all)
              case r4 => intro h hh; cases hh
  · replace hb5 := eqT hb5
    have h0 : xs = [] := List.eq_nil_of_length_eq_zero (by omega)
    refine ev_nil (hK3 _ ?_); clear hK3
    refine good_condT rfl ?_
    refine good_seq fun K23 hK23 => ?_
    refine good_region rfl ?_
    refine ev_q rfl (q_assign (by conv => lhs; whnf) ?_)
    refine ev_nil (hK23 _ ?_); clear hK23
    refine good_ret ?_
    repeat (first | refine thenQ_ret ?_ | refine blockQ_ret ?_)
    refine ret_tmp (st := _) rfl (by conv => lhs; whnf) rfl ?_
    clear hK2
    first | exact fS (by rw [if_pos h0]; rfl) | exact fS (by rw [if_neg hne, List.take_length])

-- spec.l01Digit
set_option maxRecDepth 20000 in
set_option maxHeartbeats 2000000 in
theorem D_spec_l01Digit (u : UInt8)  : Den Tryd.prog 120 [.s (.int .u8 u.toNat)] (.s (.bool (digit u))) := by
  refine den_of_good Tryd.func120 (by decide) rfl (Nat.le_of_ble_eq_true rfl) (Nat.le_of_ble_eq_true rfl) ?_
  refine good_seq fun K1 hK1 => ?_
  refine good_region rfl ?_
  refine ev_q rfl (q_assign (by conv => lhs; whnf) ?_)
  refine ev_nil (hK1 _ ?_); clear hK1
  refine good_seq fun K2 hK2 => ?_
  refine good_region rfl ?_
  refine ev_q rfl (q_move (by conv => lhs; whnf) ?_)
  refine ev_q rfl (q_int rfl rfl ?_)
  intro b3 hb3; cases b3
  · replace hb3 := dF hb3
    refine ev_q rfl (q_move (by conv => lhs; whnf) ?_)
    refine ev_skip rfl ?_
    refine ev_skip rfl ?_
    refine ev_q rfl (q_pickF rfl (by conv => lhs; whnf) ?_)
    refine ev_q rfl (q_assign (by conv => lhs; whnf) ?_)
    refine ev_nil (hK2 _ ?_); clear hK2
    refine good_ret ?_
    repeat (first | refine thenQ_ret ?_ | refine blockQ_ret ?_)
    refine ret_tmp (st := _) rfl (by conv => lhs; whnf) rfl ?_
    exact fB (by simp only [digit]; grind)
  · replace hb3 := dT hb3
    refine ev_q rfl (q_move (by conv => lhs; whnf) ?_)
    refine ev_q rfl (q_move (by conv => lhs; whnf) ?_)
    refine ev_q rfl (q_int rfl rfl ?_)
    intro b4 hb4; cases b4
    · replace hb4 := dF hb4
      refine ev_q rfl (q_pickT rfl (by conv => lhs; whnf) ?_)
      refine ev_q rfl (q_assign (by conv => lhs; whnf) ?_)
      refine ev_nil (hK2 _ ?_); clear hK2
      refine good_ret ?_
      repeat (first | refine thenQ_ret ?_ | refine blockQ_ret ?_)
      refine ret_tmp (st := _) rfl (by conv => lhs; whnf) rfl ?_
      exact fB (by simp only [digit]; grind)
    · replace hb4 := dT hb4
      refine ev_q rfl (q_pickT rfl (by conv => lhs; whnf) ?_)
      refine ev_q rfl (q_assign (by conv => lhs; whnf) ?_)
      refine ev_nil (hK2 _ ?_); clear hK2
      refine good_ret ?_
      repeat (first | refine thenQ_ret ?_ | refine blockQ_ret ?_)
      refine ret_tmp (st := _) rfl (by conv => lhs; whnf) rfl ?_
      exact fB (by simp only [digit]; grind)

-- spec.l03Degrees
set_option maxRecDepth 20000 in
set_option maxHeartbeats 2000000 in
theorem D_spec_l03Degrees (a : Int)  : Den Tryd.prog 91 [.s (.int .i64 a)] (.s (.bool (decide (-5000 ≤ a ∧ a ≤ 20000)))) := by
  refine den_of_good Tryd.func91 (by decide) rfl (Nat.le_of_ble_eq_true rfl) (Nat.le_of_ble_eq_true rfl) ?_
  refine good_seq fun K1 hK1 => ?_
  refine good_region rfl ?_
  refine ev_q rfl (q_assign (by conv => lhs; whnf) ?_)
  refine ev_nil (hK1 _ ?_); clear hK1
  refine good_seq fun K2 hK2 => ?_
  refine good_region rfl ?_
  refine ev_q rfl (q_move (by conv => lhs; whnf) ?_)
  refine ev_q rfl (q_callB rfl rfl (rfl) (D_spec_l00In ..) ?_)
  intro b3 hb3; cases b3
  · first | replace hb3 := dF hb3 | skip
    refine ev_q rfl (q_assign (by conv => lhs; whnf) ?_)
    refine ev_nil (hK2 _ ?_); clear hK2
    refine good_ret ?_
    repeat (first | refine thenQ_ret ?_ | refine blockQ_ret ?_)
    refine ret_tmp (st := _) rfl (by conv => lhs; whnf) rfl ?_
    first | rfl | exact fT (by first | omega | grind) | exact fF (by first | omega | grind) | exact fT' (by first | omega | grind) | (exfalso; first | omega | grind)
  · first | replace hb3 := dT hb3 | skip
    refine ev_q rfl (q_assign (by conv => lhs; whnf) ?_)
    refine ev_nil (hK2 _ ?_); clear hK2
    refine good_ret ?_
    repeat (first | refine thenQ_ret ?_ | refine blockQ_ret ?_)
    refine ret_tmp (st := _) rfl (by conv => lhs; whnf) rfl ?_
    first | rfl | exact fT (by first | omega | grind) | exact fF (by first | omega | grind) | exact fT' (by first | omega | grind) | (exfalso; first | omega | grind)

-- spec.l09Time
set_option maxRecDepth 20000 in
set_option maxHeartbeats 2000000 in
theorem D_spec_l09Time (a : Int)  : Den Tryd.prog 90 [.s (.int .i64 a)] (.s (.bool (decide (0 ≤ a ∧ a ≤ 1000000)))) := by
  refine den_of_good Tryd.func90 (by decide) rfl (Nat.le_of_ble_eq_true rfl) (Nat.le_of_ble_eq_true rfl) ?_
  refine good_seq fun K1 hK1 => ?_
  refine good_region rfl ?_
  refine ev_q rfl (q_assign (by conv => lhs; whnf) ?_)
  refine ev_nil (hK1 _ ?_); clear hK1
  refine good_seq fun K2 hK2 => ?_
  refine good_region rfl ?_
  refine ev_q rfl (q_move (by conv => lhs; whnf) ?_)
  refine ev_q rfl (q_callB rfl rfl (rfl) (D_spec_l00In ..) ?_)
  intro b3 hb3; cases b3
  · first | replace hb3 := dF hb3 | skip
    refine ev_q rfl (q_assign (by conv => lhs; whnf) ?_)
    refine ev_nil (hK2 _ ?_); clear hK2
    refine good_ret ?_
    repeat (first | refine thenQ_ret ?_ | refine blockQ_ret ?_)
    refine ret_tmp (st := _) rfl (by conv => lhs; whnf) rfl ?_
    first | rfl | exact fT (by first | omega | grind) | exact fF (by first | omega | grind) | exact fT' (by first | omega | grind) | (exfalso; first | omega | grind)
  · first | replace hb3 := dT hb3 | skip
    refine ev_q rfl (q_assign (by conv => lhs; whnf) ?_)
    refine ev_nil (hK2 _ ?_); clear hK2
    refine good_ret ?_
    repeat (first | refine thenQ_ret ?_ | refine blockQ_ret ?_)
    refine ret_tmp (st := _) rfl (by conv => lhs; whnf) rfl ?_
    first | rfl | exact fT (by first | omega | grind) | exact fF (by first | omega | grind) | exact fT' (by first | omega | grind) | (exfalso; first | omega | grind)

-- impl.timeOk
set_option maxRecDepth 20000 in
set_option maxHeartbeats 2000000 in
theorem D_impl_timeOk (a : Int)  : Den Tryd.prog 93 [.s (.int .i64 a)] (.s (.bool (decide (0 ≤ a ∧ a ≤ 1000000)))) := by
  refine den_of_good Tryd.func93 (by decide) rfl (Nat.le_of_ble_eq_true rfl) (Nat.le_of_ble_eq_true rfl) ?_
  refine good_seq fun K1 hK1 => ?_
  refine good_region rfl ?_
  refine ev_q rfl (q_assign (by conv => lhs; whnf) ?_)
  refine ev_nil (hK1 _ ?_); clear hK1
  refine good_seq fun K2 hK2 => ?_
  refine good_region rfl ?_
  refine ev_q rfl (q_move (by conv => lhs; whnf) ?_)
  refine ev_q rfl (q_callB rfl rfl (rfl) (D_impl_within ..) ?_)
  intro b3 hb3; cases b3
  · first | replace hb3 := dF hb3 | skip
    refine ev_q rfl (q_assign (by conv => lhs; whnf) ?_)
    refine ev_nil (hK2 _ ?_); clear hK2
    refine good_ret ?_
    repeat (first | refine thenQ_ret ?_ | refine blockQ_ret ?_)
    refine ret_tmp (st := _) rfl (by conv => lhs; whnf) rfl ?_
    first | rfl | exact fT (by first | omega | grind) | exact fF (by first | omega | grind) | exact fT' (by first | omega | grind) | (exfalso; first | omega | grind)
  · first | replace hb3 := dT hb3 | skip
    refine ev_q rfl (q_assign (by conv => lhs; whnf) ?_)
    refine ev_nil (hK2 _ ?_); clear hK2
    refine good_ret ?_
    repeat (first | refine thenQ_ret ?_ | refine blockQ_ret ?_)
    refine ret_tmp (st := _) rfl (by conv => lhs; whnf) rfl ?_
    first | rfl | exact fT (by first | omega | grind) | exact fF (by first | omega | grind) | exact fT' (by first | omega | grind) | (exfalso; first | omega | grind)

-- impl.degreesOk
set_option maxRecDepth 20000 in
set_option maxHeartbeats 2000000 in
theorem D_impl_degreesOk (a : Int)  : Den Tryd.prog 94 [.s (.int .i64 a)] (.s (.bool (decide (-5000 ≤ a ∧ a ≤ 20000)))) := by
  refine den_of_good Tryd.func94 (by decide) rfl (Nat.le_of_ble_eq_true rfl) (Nat.le_of_ble_eq_true rfl) ?_
  refine good_seq fun K1 hK1 => ?_
  refine good_region rfl ?_
  refine ev_q rfl (q_assign (by conv => lhs; whnf) ?_)
  refine ev_nil (hK1 _ ?_); clear hK1
  refine good_seq fun K2 hK2 => ?_
  refine good_region rfl ?_
  refine ev_q rfl (q_move (by conv => lhs; whnf) ?_)
  refine ev_q rfl (q_callB rfl rfl (rfl) (D_impl_within ..) ?_)
  intro b3 hb3; cases b3
  · first | replace hb3 := dF hb3 | skip
    refine ev_q rfl (q_assign (by conv => lhs; whnf) ?_)
    refine ev_nil (hK2 _ ?_); clear hK2
    refine good_ret ?_
    repeat (first | refine thenQ_ret ?_ | refine blockQ_ret ?_)
    refine ret_tmp (st := _) rfl (by conv => lhs; whnf) rfl ?_
    first | rfl | exact fT (by first | omega | grind) | exact fF (by first | omega | grind) | exact fT' (by first | omega | grind) | (exfalso; first | omega | grind)
  · first | replace hb3 := dT hb3 | skip
    refine ev_q rfl (q_assign (by conv => lhs; whnf) ?_)
    refine ev_nil (hK2 _ ?_); clear hK2
    refine good_ret ?_
    repeat (first | refine thenQ_ret ?_ | refine blockQ_ret ?_)
    refine ret_tmp (st := _) rfl (by conv => lhs; whnf) rfl ?_
    first | rfl | exact fT (by first | omega | grind) | exact fF (by first | omega | grind) | exact fT' (by first | omega | grind) | (exfalso; first | omega | grind)

-- spec.l09Ok
set_option maxRecDepth 20000 in
set_option maxHeartbeats 2000000 in
theorem D_spec_l09Ok (xs : List (Int × Int)) (hx : xs.length ≤ 8796093022208) : Den Tryd.prog 53 [.lst 2 (xs.map stp)] (.s (.bool (decide (waveOk xs)))) := by
  refine den_of_good Tryd.func53 (by decide) rfl (Nat.le_of_ble_eq_true rfl) (Nat.le_of_ble_eq_true rfl) ?_
  refine good_seq fun K1 hK1 => ?_
  refine good_region rfl ?_
  refine ev_q rfl (q_assign (by conv => lhs; whnf) ?_)
  refine ev_nil (hK1 _ ?_); clear hK1
  refine good_seq fun K2 hK2 => ?_
  refine good_seq fun K3 hK3 => ?_
  refine good_region rfl ?_
  refine ev_q rfl (q_assign (by conv => lhs; whnf) ?_)
  refine ev_nil (hK3 _ ?_); clear hK3
  refine good_block ?_
  refine good_loop (α := Nat) (fun i => { env := upd (upd ((fun _ => .junk)) 0 (.lst 2 (xs.map stp))) 3 (.s (.int .i64 i)), H := fun _ => none }) (fun i => i ≤ xs.length ∧ ∀ j p, j < i → xs[j]? = some p → okAt xs j p) (fun i => xs.length - i) 0 ?_ ?_ ?_
  · exact ⟨by omega, fun j u hj => by omega⟩
  · refine sub_weak ?_ ?_
    · exact weakH_none _
    · refine weakE_upd ?e3 ?r3 (weakE_upd ?e0 ?r0 (weakE_junk _ _))
      case e0 => first | rfl | exact fI (by omega) | (simp_all)
      case r0 => intro h hh; cases hh
      case e3 => first | rfl | exact fI (by omega) | (simp_all)
      case r3 => intro h hh; cases hh
  · rintro i ⟨hI, hJ⟩
    refine good_seq fun K4 hK4 => ?_
    refine good_seq fun K5 hK5 => ?_
    refine good_region rfl ?_
    refine ev_q rfl (q_move (by conv => lhs; whnf) ?_)
    refine ev_q rfl (q_move (by conv => lhs; whnf) ?_)
    refine ev_q rfl (q_len tEs31 rfl ?_)
    intro n6 hn6
    try simp only [List.length_map] at hn6
    refine ev_q rfl (q_int rfl rfl ?_)
    intro b7 hb7; cases b7
    · replace hb7 := dF hb7
      refine ev_nil (hK5 _ ?_); clear hK5
      refine good_condF rfl ?_
      refine good_exit ?_
      repeat (first | refine thenQ_exit ?_ | refine blockQ_pass rfl ?_)
      refine blockQ_exit (hK2 _ ?_); clear hK2
      refine good_seq fun K8 hK8 => ?_
      refine good_region rfl ?_
      refine ev_q rfl (q_move (by conv => lhs; whnf) ?_)
      refine ev_q rfl (q_len tEs31 rfl ?_)
      intro n9 hn9
      try simp only [List.length_map] at hn9
      refine ev_q rfl (q_callB rfl rfl (rfl) (D_spec_l00In ..) ?_)
      intro b10 hb10; cases b10
      · first | replace hb10 := dF hb10 | skip
        refine ev_q rfl (q_assign (by conv => lhs; whnf) ?_)
        refine ev_nil (hK8 _ ?_); clear hK8
        refine good_ret ?_
        repeat (first | refine thenQ_ret ?_ | refine blockQ_ret ?_)
        refine ret_tmp (st := _) rfl (by conv => lhs; whnf) rfl ?_
        clear hK4
        first | exact fT ((wave_iff (all_fin hJ (by omega))).1 (by omega)) | exact fF (fun h => absurd ((wave_iff (all_fin hJ (by omega))).2 h) (by omega)) | exact fF (wave_no hp (by simp only [okAt]; grind))
      · first | replace hb10 := dT hb10 | skip
        refine ev_q rfl (q_assign (by conv => lhs; whnf) ?_)
        refine ev_nil (hK8 _ ?_); clear hK8
        refine good_ret ?_
        repeat (first | refine thenQ_ret ?_ | refine blockQ_ret ?_)
        refine ret_tmp (st := _) rfl (by conv => lhs; whnf) rfl ?_
        clear hK4
        first | exact fT ((wave_iff (all_fin hJ (by omega))).1 (by omega)) | exact fF (fun h => absurd ((wave_iff (all_fin hJ (by omega))).2 h) (by omega)) | exact fF (wave_no hp (by simp only [okAt]; grind))
    · replace hb7 := dT hb7
      obtain ⟨p, hp⟩ := getL (xs := xs) (n := (i : Int)) (by omega) (by omega)
      replace hp : xs[i]? = some p := hp
      refine ev_nil (hK5 _ ?_); clear hK5
      refine good_condT rfl ?_
      refine good_skip (hK4 _ ?_); clear hK4
      refine good_seq fun K11 hK11 => ?_
      refine good_block ?_
      refine good_seq fun K12 hK12 => ?_
      refine good_draw 46 hmix (by kernel_rfl) rfl ?_
      refine qo_q rfl (q_move (by conv => lhs; whnf) ?_)
      refine qo_q rfl (q_move (by conv => lhs; whnf) ?_)
      refine qo_q rfl (q_idx tE31 rfl rfl (by exact Int.natCast_nonneg _) (by exact map_get hp) rfl ?_)
      refine qo_q rfl (q_fieldAddr fO83_0 rfl rfl ?_)
      refine qo_q rfl (q_load tA2 rfl ?_)
      refine qo_q rfl (q_callB rfl rfl (rfl) (D_spec_l09Time ..) ?_)
      intro b13 hb13; cases b13
      · first | replace hb13 := dF hb13 | skip
        refine qo_q rfl (q_not rfl rfl ?_)
        refine qo_q rfl (q_move (by conv => lhs; whnf) ?_)
        refine qo_skip rfl ?_
        refine qo_skip rfl ?_
        refine qo_skip rfl ?_
        refine qo_skip rfl ?_
        refine qo_skip rfl ?_
        refine qo_skip rfl ?_
        refine qo_skip rfl ?_
        refine qo_q rfl (q_pickT rfl (by conv => lhs; whnf) ?_)
        refine qo_q rfl (q_move (by conv => lhs; whnf) ?_)
        refine qo_skip rfl ?_
        refine qo_skip rfl ?_
        refine qo_skip rfl ?_
        refine qo_skip rfl ?_
        refine qo_skip rfl ?_
        refine qo_skip rfl ?_
        refine qo_skip rfl ?_
        refine qo_skip rfl ?_
        refine qo_skip rfl ?_
        refine qo_skip rfl ?_
        refine qo_q rfl (q_pickT rfl (by conv => lhs; whnf) ?_)
        refine qo_q rfl (q_move (by conv => lhs; whnf) ?_)
        refine qo_skip rfl ?_
        refine qo_skip rfl ?_
        refine qo_skip rfl ?_
        refine qo_skip rfl ?_
        refine qo_skip rfl ?_
        refine qo_skip rfl ?_
        refine qo_skip rfl ?_
        refine qo_skip rfl ?_
        refine qo_skip rfl ?_
        refine qo_skip rfl ?_
        refine qo_skip rfl ?_
        refine qo_skip rfl ?_
        refine qo_skip rfl ?_
        refine qo_skip rfl ?_
        refine qo_skip rfl ?_
        refine qo_skip rfl ?_
        refine qo_q rfl (q_pickT rfl (by conv => lhs; whnf) ?_)
        refine qo_nil ?_
        refine ev_nil (hK12 _ ?_); clear hK12
        refine good_condT rfl ?_
        refine good_seq fun K14 hK14 => ?_
        refine good_region rfl ?_
        refine ev_q rfl (q_assign (by conv => lhs; whnf) ?_)
        refine ev_nil (hK14 _ ?_); clear hK14
        refine good_ret ?_
        repeat (first | refine thenQ_ret ?_ | refine blockQ_ret ?_)
        refine ret_tmp (st := _) rfl (by conv => lhs; whnf) rfl ?_
        clear hK2 hK11
        first | exact fT ((wave_iff (all_fin hJ (by omega))).1 (by omega)) | exact fF (fun h => absurd ((wave_iff (all_fin hJ (by omega))).2 h) (by omega)) | exact fF (wave_no hp (by simp only [okAt]; grind))
      · first | replace hb13 := dT hb13 | skip
        refine qo_q rfl (q_not rfl rfl ?_)
        refine qo_q rfl (q_move (by conv => lhs; whnf) ?_)
        refine qo_q rfl (q_move (by conv => lhs; whnf) ?_)
        refine qo_q rfl (q_move (by conv => lhs; whnf) ?_)
        refine qo_q rfl (q_idx tE31 rfl rfl (by exact Int.natCast_nonneg _) (by exact map_get hp) rfl ?_)
        refine qo_q rfl (q_fieldAddr fO83_1 rfl rfl ?_)
        refine qo_q rfl (q_load tA2 rfl ?_)
        refine qo_q rfl (q_callB rfl rfl (rfl) (D_spec_l03Degrees ..) ?_)
        intro b15 hb15; cases b15
        · first | replace hb15 := dF hb15 | skip
          refine qo_q rfl (q_not rfl rfl ?_)
          refine qo_q rfl (q_pickF rfl (by conv => lhs; whnf) ?_)
          refine qo_q rfl (q_move (by conv => lhs; whnf) ?_)
          refine qo_skip rfl ?_
          refine qo_skip rfl ?_
          refine qo_skip rfl ?_
          refine qo_skip rfl ?_
          refine qo_skip rfl ?_
          refine qo_skip rfl ?_
          refine qo_skip rfl ?_
          refine qo_skip rfl ?_
          refine qo_skip rfl ?_
          refine qo_skip rfl ?_
          refine qo_q rfl (q_pickT rfl (by conv => lhs; whnf) ?_)
          refine qo_q rfl (q_move (by conv => lhs; whnf) ?_)
          refine qo_skip rfl ?_
          refine qo_skip rfl ?_
          refine qo_skip rfl ?_
          refine qo_skip rfl ?_
          refine qo_skip rfl ?_
          refine qo_skip rfl ?_
          refine qo_skip rfl ?_
          refine qo_skip rfl ?_
          refine qo_skip rfl ?_
          refine qo_skip rfl ?_
          refine qo_skip rfl ?_
          refine qo_skip rfl ?_
          refine qo_skip rfl ?_
          refine qo_skip rfl ?_
          refine qo_skip rfl ?_
          refine qo_skip rfl ?_
          refine qo_q rfl (q_pickT rfl (by conv => lhs; whnf) ?_)
          refine qo_nil ?_
          refine ev_nil (hK12 _ ?_); clear hK12
          refine good_condT rfl ?_
          refine good_seq fun K16 hK16 => ?_
          refine good_region rfl ?_
          refine ev_q rfl (q_assign (by conv => lhs; whnf) ?_)
          refine ev_nil (hK16 _ ?_); clear hK16
          refine good_ret ?_
          repeat (first | refine thenQ_ret ?_ | refine blockQ_ret ?_)
          refine ret_tmp (st := _) rfl (by conv => lhs; whnf) rfl ?_
          clear hK2 hK11
          first | exact fT ((wave_iff (all_fin hJ (by omega))).1 (by omega)) | exact fF (fun h => absurd ((wave_iff (all_fin hJ (by omega))).2 h) (by omega)) | exact fF (wave_no hp (by simp only [okAt]; grind))
        · first | replace hb15 := dT hb15 | skip
          refine qo_q rfl (q_not rfl rfl ?_)
          refine qo_q rfl (q_pickF rfl (by conv => lhs; whnf) ?_)
          refine qo_q rfl (q_move (by conv => lhs; whnf) ?_)
          refine qo_q rfl (q_move (by conv => lhs; whnf) ?_)
          refine qo_q rfl (q_int rfl rfl ?_)
          intro b17 hb17; cases b17
          · replace hb17 := eqF hb17
            refine qo_q rfl (q_move (by conv => lhs; whnf) ?_)
            refine qo_skip rfl ?_
            refine qo_skip rfl ?_
            refine qo_skip rfl ?_
            refine qo_skip rfl ?_
            refine qo_skip rfl ?_
            refine qo_skip rfl ?_
            refine qo_q rfl (q_pickF rfl (by conv => lhs; whnf) ?_)
            refine qo_q rfl (q_pickF rfl (by conv => lhs; whnf) ?_)
            refine qo_q rfl (q_move (by conv => lhs; whnf) ?_)
            refine qo_q rfl (q_move (by conv => lhs; whnf) ?_)
            refine qo_q rfl (q_int rfl rfl ?_)
            intro b18 hb18; cases b18
            · replace hb18 := dF hb18
              refine qo_q rfl (q_move (by conv => lhs; whnf) ?_)
              refine qo_skip rfl ?_
              refine qo_skip rfl ?_
              refine qo_skip rfl ?_
              refine qo_skip rfl ?_
              refine qo_skip rfl ?_
              refine qo_skip rfl ?_
              refine qo_skip rfl ?_
              refine qo_skip rfl ?_
              refine qo_skip rfl ?_
              refine qo_skip rfl ?_
              refine qo_skip rfl ?_
              refine qo_skip rfl ?_
              refine qo_q rfl (q_pickF rfl (by conv => lhs; whnf) ?_)
              refine qo_q rfl (q_pickF rfl (by conv => lhs; whnf) ?_)
              refine qo_nil ?_
              refine ev_nil (hK12 _ ?_); clear hK12
              refine good_condF rfl ?_
              refine good_skip (hK11 _ ?_); clear hK11
              refine good_region rfl ?_
              refine ev_q rfl (q_move (by conv => lhs; whnf) ?_)
              refine ev_q rfl (q_int rfl rfl ?_)
              intro n19 hn19
              replace hn19 := in64 hn19 (by omega) (by omega)
              refine ev_q rfl (q_assign (by conv => lhs; whnf) ?_)
              refine ev_nil ?_
              clear hK2
              refine ⟨i + 1, ?_, ?_, ?_⟩
              · refine ⟨by omega, all_ext hJ hp ?_⟩
                refine ⟨by omega, by omega, by intro hz; grind, fun z hz0 hz => ?_⟩
                grind
              · first | omega | (simp only []; omega) | (dsimp only; omega)
              · refine sub_weak ?_ ?_
                · exact weakH_none _
                · refine weakE_upd ?e3 ?r3 (weakE_upd ?e0 ?r0 (weakE_junk _ _))
                  case e0 => first | rfl | exact fI (by omega) | (simp_all)
                  case r0 => intro h hh; cases hh
                  case e3 => first | rfl | exact fI (by omega) | (simp_all)
                  case r3 => intro h hh; cases hh
            · replace hb18 := dT hb18
              refine qo_q rfl (q_move (by conv => lhs; whnf) ?_)
              refine qo_q rfl (q_move (by conv => lhs; whnf) ?_)
              refine qo_q rfl (q_move (by conv => lhs; whnf) ?_)
              refine qo_q rfl (q_int rfl rfl ?_)
              intro n20 hn20
              replace hn20 := in64 hn20 (by omega) (by omega)
              obtain ⟨q, hq⟩ := getL (xs := xs) (n := n20) (by omega) (by omega)
              refine qo_q rfl (q_idx tE31 rfl rfl (by omega) (by exact map_get hq) rfl ?_)
              refine qo_q rfl (q_fieldAddr fO83_0 rfl rfl ?_)
              refine qo_q rfl (q_load tA2 rfl ?_)
              refine qo_q rfl (q_move (by conv => lhs; whnf) ?_)
              refine qo_q rfl (q_move (by conv => lhs; whnf) ?_)
              refine qo_q rfl (q_idx tE31 rfl rfl (by exact Int.natCast_nonneg _) (by exact map_get hp) rfl ?_)
              refine qo_q rfl (q_fieldAddr fO83_0 rfl rfl ?_)
              refine qo_q rfl (q_load tA2 rfl ?_)
              refine qo_q rfl (q_int rfl rfl ?_)
              intro b21 hb21; cases b21
              · replace hb21 := dF hb21
                refine qo_q rfl (q_pickT rfl (by conv => lhs; whnf) ?_)
                refine qo_q rfl (q_pickF rfl (by conv => lhs; whnf) ?_)
                refine qo_nil ?_
                refine ev_nil (hK12 _ ?_); clear hK12
                refine good_condF rfl ?_
                refine good_skip (hK11 _ ?_); clear hK11
                refine good_region rfl ?_
                refine ev_q rfl (q_move (by conv => lhs; whnf) ?_)
                refine ev_q rfl (q_int rfl rfl ?_)
                intro n22 hn22
                replace hn22 := in64 hn22 (by omega) (by omega)
                refine ev_q rfl (q_assign (by conv => lhs; whnf) ?_)
                refine ev_nil ?_
                clear hK2
                refine ⟨i + 1, ?_, ?_, ?_⟩
                · refine ⟨by omega, all_ext hJ hp ?_⟩
                  refine ⟨by omega, by omega, by intro hz; grind, fun z hz0 hz => ?_⟩
                  grind
                · first | omega | (simp only []; omega) | (dsimp only; omega)
                · refine sub_weak ?_ ?_
                  · exact weakH_none _
                  · refine weakE_upd ?e3 ?r3 (weakE_upd ?e0 ?r0 (weakE_junk _ _))
                    case e0 => first | rfl | exact fI (by omega) | (simp_all)
                    case r0 => intro h hh; cases hh
                    case e3 => first | rfl | exact fI (by omega) | (simp_all)
                    case r3 => intro h hh; cases hh
              · replace hb21 := dT hb21
                refine qo_q rfl (q_pickT rfl (by conv => lhs; whnf) ?_)
                refine qo_q rfl (q_pickF rfl (by conv => lhs; whnf) ?_)
                refine qo_nil ?_
                refine ev_nil (hK12 _ ?_); clear hK12
                refine good_condT rfl ?_
                refine good_seq fun K23 hK23 => ?_
                refine good_region rfl ?_
                refine ev_q rfl (q_assign (by conv => lhs; whnf) ?_)
                refine ev_nil (hK23 _ ?_); clear hK23
                refine good_ret ?_
                repeat (first | refine thenQ_ret ?_ | refine blockQ_ret ?_)
                refine ret_tmp (st := _) rfl (by conv => lhs; whnf) rfl ?_
                clear hK2 hK11
                first | exact fT ((wave_iff (all_fin hJ (by omega))).1 (by omega)) | exact fF (fun h => absurd ((wave_iff (all_fin hJ (by omega))).2 h) (by omega)) | exact fF (wave_no hp (by simp only [okAt]; grind))
          · replace hb17 := eqT hb17
            refine qo_q rfl (q_move (by conv => lhs; whnf) ?_)
            refine qo_q rfl (q_move (by conv => lhs; whnf) ?_)
            refine qo_q rfl (q_move (by conv => lhs; whnf) ?_)
            refine qo_q rfl (q_idx tE31 rfl rfl (by exact Int.natCast_nonneg _) (by exact map_get hp) rfl ?_)
            refine qo_q rfl (q_fieldAddr fO83_0 rfl rfl ?_)
            refine qo_q rfl (q_load tA2 rfl ?_)
            refine qo_q rfl (q_int rfl rfl ?_)
            intro b24 hb24; cases b24
            · replace hb24 := neF hb24
              refine qo_q rfl (q_pickT rfl (by conv => lhs; whnf) ?_)
              refine qo_q rfl (q_pickF rfl (by conv => lhs; whnf) ?_)
              refine qo_q rfl (q_move (by conv => lhs; whnf) ?_)
              refine qo_q rfl (q_move (by conv => lhs; whnf) ?_)
              refine qo_q rfl (q_int rfl rfl ?_)
              intro b25 hb25; cases b25
              · replace hb25 := dF hb25
                refine qo_q rfl (q_move (by conv => lhs; whnf) ?_)
                refine qo_skip rfl ?_
                refine qo_skip rfl ?_
                refine qo_skip rfl ?_
                refine qo_skip rfl ?_
                refine qo_skip rfl ?_
                refine qo_skip rfl ?_
                refine qo_skip rfl ?_
                refine qo_skip rfl ?_
                refine qo_skip rfl ?_
                refine qo_skip rfl ?_
                refine qo_skip rfl ?_
                refine qo_skip rfl ?_
                refine qo_q rfl (q_pickF rfl (by conv => lhs; whnf) ?_)
                refine qo_q rfl (q_pickF rfl (by conv => lhs; whnf) ?_)
                refine qo_nil ?_
                refine ev_nil (hK12 _ ?_); clear hK12
                refine good_condF rfl ?_
                refine good_skip (hK11 _ ?_); clear hK11
                refine good_region rfl ?_
                refine ev_q rfl (q_move (by conv => lhs; whnf) ?_)
                refine ev_q rfl (q_int rfl rfl ?_)
                intro n26 hn26
                replace hn26 := in64 hn26 (by omega) (by omega)
                refine ev_q rfl (q_assign (by conv => lhs; whnf) ?_)
                refine ev_nil ?_
                clear hK2
                refine ⟨i + 1, ?_, ?_, ?_⟩
                · refine ⟨by omega, all_ext hJ hp ?_⟩
                  refine ⟨by omega, by omega, by intro hz; grind, fun z hz0 hz => ?_⟩
                  grind
                · first | omega | (simp only []; omega) | (dsimp only; omega)
                · refine sub_weak ?_ ?_
                  · exact weakH_none _
                  · refine weakE_upd ?e3 ?r3 (weakE_upd ?e0 ?r0 (weakE_junk _ _))
                    case e0 => first | rfl | exact fI (by omega) | (simp_all)
                    case r0 => intro h hh; cases hh
                    case e3 => first | rfl | exact fI (by omega) | (simp_all)
                    case r3 => intro h hh; cases hh
              · replace hb25 := dT hb25
                refine qo_q rfl (q_move (by conv => lhs; whnf) ?_)
                refine qo_q rfl (q_move (by conv => lhs; whnf) ?_)
                refine qo_q rfl (q_move (by conv => lhs; whnf) ?_)
                refine qo_q rfl (q_int rfl rfl ?_)
                intro n27 hn27
                replace hn27 := in64 hn27 (by omega) (by omega)
                obtain ⟨q, hq⟩ := getL (xs := xs) (n := n27) (by omega) (by omega)
                refine qo_q rfl (q_idx tE31 rfl rfl (by omega) (by exact map_get hq) rfl ?_)
                refine qo_q rfl (q_fieldAddr fO83_0 rfl rfl ?_)
                refine qo_q rfl (q_load tA2 rfl ?_)
                refine qo_q rfl (q_move (by conv => lhs; whnf) ?_)
                refine qo_q rfl (q_move (by conv => lhs; whnf) ?_)
                refine qo_q rfl (q_idx tE31 rfl rfl (by exact Int.natCast_nonneg _) (by exact map_get hp) rfl ?_)
                refine qo_q rfl (q_fieldAddr fO83_0 rfl rfl ?_)
                refine qo_q rfl (q_load tA2 rfl ?_)
                refine qo_q rfl (q_int rfl rfl ?_)
                intro b28 hb28; cases b28
                · replace hb28 := dF hb28
                  refine qo_q rfl (q_pickT rfl (by conv => lhs; whnf) ?_)
                  refine qo_q rfl (q_pickF rfl (by conv => lhs; whnf) ?_)
                  refine qo_nil ?_
                  refine ev_nil (hK12 _ ?_); clear hK12
                  refine good_condF rfl ?_
                  refine good_skip (hK11 _ ?_); clear hK11
                  refine good_region rfl ?_
                  refine ev_q rfl (q_move (by conv => lhs; whnf) ?_)
                  refine ev_q rfl (q_int rfl rfl ?_)
                  intro n29 hn29
                  replace hn29 := in64 hn29 (by omega) (by omega)
                  refine ev_q rfl (q_assign (by conv => lhs; whnf) ?_)
                  refine ev_nil ?_
                  clear hK2
                  refine ⟨i + 1, ?_, ?_, ?_⟩
                  · refine ⟨by omega, all_ext hJ hp ?_⟩
                    refine ⟨by omega, by omega, by intro hz; grind, fun z hz0 hz => ?_⟩
                    grind
                  · first | omega | (simp only []; omega) | (dsimp only; omega)
                  · refine sub_weak ?_ ?_
                    · exact weakH_none _
                    · refine weakE_upd ?e3 ?r3 (weakE_upd ?e0 ?r0 (weakE_junk _ _))
                      case e0 => first | rfl | exact fI (by omega) | (simp_all)
                      case r0 => intro h hh; cases hh
                      case e3 => first | rfl | exact fI (by omega) | (simp_all)
                      case r3 => intro h hh; cases hh
                · replace hb28 := dT hb28
                  refine qo_q rfl (q_pickT rfl (by conv => lhs; whnf) ?_)
                  refine qo_q rfl (q_pickF rfl (by conv => lhs; whnf) ?_)
                  refine qo_nil ?_
                  refine ev_nil (hK12 _ ?_); clear hK12
                  refine good_condT rfl ?_
                  refine good_seq fun K30 hK30 => ?_
                  refine good_region rfl ?_
                  refine ev_q rfl (q_assign (by conv => lhs; whnf) ?_)
                  refine ev_nil (hK30 _ ?_); clear hK30
                  refine good_ret ?_
                  repeat (first | refine thenQ_ret ?_ | refine blockQ_ret ?_)
                  refine ret_tmp (st := _) rfl (by conv => lhs; whnf) rfl ?_
                  clear hK2 hK11
                  first | exact fT ((wave_iff (all_fin hJ (by omega))).1 (by omega)) | exact fF (fun h => absurd ((wave_iff (all_fin hJ (by omega))).2 h) (by omega)) | exact fF (wave_no hp (by simp only [okAt]; grind))
            · replace hb24 := neT hb24
              refine qo_q rfl (q_pickT rfl (by conv => lhs; whnf) ?_)
              refine qo_q rfl (q_pickF rfl (by conv => lhs; whnf) ?_)
              refine qo_q rfl (q_move (by conv => lhs; whnf) ?_)
              refine qo_skip rfl ?_
              refine qo_skip rfl ?_
              refine qo_skip rfl ?_
              refine qo_skip rfl ?_
              refine qo_skip rfl ?_
              refine qo_skip rfl ?_
              refine qo_skip rfl ?_
              refine qo_skip rfl ?_
              refine qo_skip rfl ?_
              refine qo_skip rfl ?_
              refine qo_skip rfl ?_
              refine qo_skip rfl ?_
              refine qo_skip rfl ?_
              refine qo_skip rfl ?_
              refine qo_skip rfl ?_
              refine qo_skip rfl ?_
              refine qo_q rfl (q_pickT rfl (by conv => lhs; whnf) ?_)
              refine qo_nil ?_
              refine ev_nil (hK12 _ ?_); clear hK12
              refine good_condT rfl ?_
              refine good_seq fun K31 hK31 => ?_
              refine good_region rfl ?_
              refine ev_q rfl (q_assign (by conv => lhs; whnf) ?_)
              refine ev_nil (hK31 _ ?_); clear hK31
              refine good_ret ?_
              repeat (first | refine thenQ_ret ?_ | refine blockQ_ret ?_)
              refine ret_tmp (st := _) rfl (by conv => lhs; whnf) rfl ?_
              clear hK2 hK11
              first | exact fT ((wave_iff (all_fin hJ (by omega))).1 (by omega)) | exact fF (fun h => absurd ((wave_iff (all_fin hJ (by omega))).2 h) (by omega)) | exact fF (wave_no hp (by simp only [okAt]; grind))

-- impl.ValidWave
set_option maxRecDepth 20000 in
set_option maxHeartbeats 2000000 in
theorem D_impl_ValidWave (xs : List (Int × Int)) (hx : xs.length ≤ 8796093022208) : Den Tryd.prog 56 [.lst 2 (xs.map stp)] (.s (.bool (decide (waveOk xs)))) := by
  refine den_of_good Tryd.func56 (by decide) rfl (Nat.le_of_ble_eq_true rfl) (Nat.le_of_ble_eq_true rfl) ?_
  refine good_seq fun K1 hK1 => ?_
  refine good_region rfl ?_
  refine ev_q rfl (q_assign (by conv => lhs; whnf) ?_)
  refine ev_nil (hK1 _ ?_); clear hK1
  refine good_seq fun K2 hK2 => ?_
  refine good_seq fun K3 hK3 => ?_
  refine good_region rfl ?_
  refine ev_q rfl (q_move (by conv => lhs; whnf) ?_)
  refine ev_q rfl (q_len tEs31 rfl ?_)
  intro n4 hn4
  try simp only [List.length_map] at hn4
  refine ev_q rfl (q_int rfl rfl ?_)
  intro b5 hb5; cases b5
  · replace hb5 := dF hb5
    refine ev_q rfl (q_move (by conv => lhs; whnf) ?_)
    refine ev_q rfl (q_move (by conv => lhs; whnf) ?_)
    refine ev_q rfl (q_len tEs31 rfl ?_)
    intro n6 hn6
    try simp only [List.length_map] at hn6
    refine ev_q rfl (q_int rfl rfl ?_)
    intro b7 hb7; cases b7
    · replace hb7 := dF hb7
      refine ev_q rfl (q_pickF rfl (by conv => lhs; whnf) ?_)
      refine ev_q rfl (q_move (by conv => lhs; whnf) ?_)
      refine ev_q rfl (q_move (by conv => lhs; whnf) ?_)
      obtain ⟨p0, hp0⟩ := getL (xs := xs) (n := 0) (by omega) (by omega)
      refine ev_q rfl (q_idx tE31 rfl rfl (by decide) (by exact map_get hp0) rfl ?_)
      refine ev_q rfl (q_fieldAddr fO83_0 rfl rfl ?_)
      refine ev_q rfl (q_load tA2 rfl ?_)
      refine ev_q rfl (q_int rfl rfl ?_)
      intro b8 hb8; cases b8
      · replace hb8 := neF hb8
        refine ev_q rfl (q_pickF rfl (by conv => lhs; whnf) ?_)
        refine ev_nil (hK3 _ ?_); clear hK3
        refine good_condF rfl ?_
        refine good_skip (hK2 _ ?_); clear hK2
        refine good_seq fun K9 hK9 => ?_
        refine good_seq fun K10 hK10 => ?_
        refine good_region rfl ?_
        refine ev_q rfl (q_move (by conv => lhs; whnf) ?_)
        refine ev_q rfl (q_len tEs31 rfl ?_)
        intro n11 hn11
        try simp only [List.length_map] at hn11
        refine ev_q rfl (q_move (by conv => lhs; whnf) ?_)
        refine ev_nil (hK10 _ ?_); clear hK10
        refine good_block ?_
        refine good_loop (α := Nat) (fun i => { env := upd (upd (upd (upd ((fun _ => .junk)) 0 (.lst 2 (xs.map stp))) 20 (.lst 2 (xs.map stp))) 21 (.s (.int .i64 ((xs.length : Int))))) 22 (.s (.int .i64 i)), H := fun _ => none }) (fun i => i ≤ xs.length ∧ ∀ j p, j < i → xs[j]? = some p → okAt xs j p) (fun i => xs.length - i) 0 ?_ ?_ ?_
        · exact ⟨by omega, fun j u hj => by omega⟩
        · refine sub_weak ?_ ?_
          · exact weakH_none _
          · refine weakE_upd ?e22 ?r22 (weakE_upd ?e21 ?r21 (weakE_upd ?e20 ?r20 (weakE_upd ?e0 ?r0 (weakE_junk _ _))))
            case e0 => first | rfl | exact fI (by omega) | (simp_all)
            case r0 => intro h hh; cases hh
            case e20 => first | rfl | exact fI (by omega) | (simp_all)
            case r20 => intro h hh; cases hh
            case e21 => first | rfl | exact fI (by omega) | (simp_all)
            case r21 => intro h hh; cases hh
            case e22 => first | rfl | exact fI (by omega) | (simp_all)
            case r22 => intro h hh; cases hh
        · rintro i ⟨hI, hJ⟩
          refine good_seq fun K12 hK12 => ?_
          refine good_region rfl ?_
          refine ev_q rfl (q_int rfl rfl ?_)
          intro b13 hb13; cases b13
          · replace hb13 := dF hb13
            refine ev_nil (hK12 _ ?_); clear hK12
            refine good_seq fun K14 hK14 => ?_
            refine good_condF rfl ?_
            refine good_exit ?_
            repeat (first | refine thenQ_exit ?_ | refine blockQ_pass rfl ?_)
            refine blockQ_exit (hK9 _ ?_); clear hK9
            refine good_seq fun K15 hK15 => ?_
            refine good_region rfl ?_
            refine ev_q rfl (q_assign (by conv => lhs; whnf) ?_)
            refine ev_nil (hK15 _ ?_); clear hK15
            refine good_ret ?_
            repeat (first | refine thenQ_ret ?_ | refine blockQ_ret ?_)
            refine ret_tmp (st := _) rfl (by conv => lhs; whnf) rfl ?_
            clear hK14
            first | exact fT ((wave_iff (all_fin hJ (by omega))).1 (by omega)) | exact fF (fun h => by have := h.1; omega) | exact fF (wave_no hp (by simp only [okAt]; grind)) | exact fF (wave_no hp0 (by simp only [okAt]; grind))
          · replace hb13 := dT hb13
            obtain ⟨p, hp⟩ := getL (xs := xs) (n := (i : Int)) (by omega) (by omega)
            replace hp : xs[i]? = some p := hp
            refine ev_nil (hK12 _ ?_); clear hK12
            refine good_seq fun K16 hK16 => ?_
            refine good_condT rfl ?_
            refine good_skip (hK16 _ ?_); clear hK16
            refine good_seq fun K17 hK17 => ?_
            refine good_block ?_
            refine good_seq fun K18 hK18 => ?_
            refine good_region rfl ?_
            refine ev_q rfl (q_move (by conv => lhs; whnf) ?_)
            refine ev_q rfl (q_idx tE31 rfl rfl (by exact Int.natCast_nonneg _) (by exact map_get hp) rfl ?_)
            refine ev_q rfl (q_loadA tA83 rfl rfl rfl ?_)
            refine ev_k rfl (k_alloc zA83 rfl ?_)
            refine ev_q rfl (q_assign (by conv => lhs; whnf) ?_)
            refine ev_k rfl (k_store sz83 rfl (by conv => lhs; whnf) rfl rfl rfl (Nat.le_of_ble_eq_true rfl) rfl ?_)
            refine ev_nil (hK18 _ ?_); clear hK18
            refine good_seq fun K19 hK19 => ?_
            refine good_draw 25 hmix (by kernel_rfl) rfl ?_
            refine qo_q rfl (q_fieldAddrP fO83_0 rfl rfl ?_)
            refine qo_q rfl (q_load tA2 rfl ?_)
            refine qo_q rfl (q_callB rfl rfl (rfl) (D_impl_timeOk ..) ?_)
            intro b20 hb20; cases b20
            · first | replace hb20 := dF hb20 | skip
              refine qo_q rfl (q_not rfl rfl ?_)
              refine qo_q rfl (q_move (by conv => lhs; whnf) ?_)
              refine qo_skip rfl ?_
              refine qo_skip rfl ?_
              refine qo_skip rfl ?_
              refine qo_skip rfl ?_
              refine qo_q rfl (q_pickT rfl (by conv => lhs; whnf) ?_)
              refine qo_q rfl (q_move (by conv => lhs; whnf) ?_)
              refine qo_skip rfl ?_
              refine qo_skip rfl ?_
              refine qo_skip rfl ?_
              refine qo_skip rfl ?_
              refine qo_skip rfl ?_
              refine qo_skip rfl ?_
              refine qo_skip rfl ?_
              refine qo_skip rfl ?_
              refine qo_skip rfl ?_
              refine qo_skip rfl ?_
              refine qo_skip rfl ?_
              refine qo_skip rfl ?_
              refine qo_skip rfl ?_
              refine qo_q rfl (q_pickT rfl (by conv => lhs; whnf) ?_)
              refine qo_nil ?_
              refine ev_nil (hK19 _ ?_); clear hK19
              refine good_condT rfl ?_
              refine good_seq fun K21 hK21 => ?_
              refine good_region rfl ?_
              refine ev_q rfl (q_assign (by conv => lhs; whnf) ?_)
              refine ev_nil (hK21 _ ?_); clear hK21
              refine good_ret ?_
              repeat (first | refine thenQ_ret ?_ | refine blockQ_ret ?_)
              refine ret_tmp (st := _) rfl (by conv => lhs; whnf) rfl ?_
              clear hK9 hK17
              first | exact fT ((wave_iff (all_fin hJ (by omega))).1 (by omega)) | exact fF (fun h => by have := h.1; omega) | exact fF (wave_no hp (by simp only [okAt]; grind)) | exact fF (wave_no hp0 (by simp only [okAt]; grind))
            · first | replace hb20 := dT hb20 | skip
              refine qo_q rfl (q_not rfl rfl ?_)
              refine qo_q rfl (q_move (by conv => lhs; whnf) ?_)
              refine qo_q rfl (q_fieldAddrP fO83_1 rfl rfl ?_)
              refine qo_q rfl (q_load tA2 rfl ?_)
              refine qo_q rfl (q_callB rfl rfl (rfl) (D_impl_degreesOk ..) ?_)
              intro b22 hb22; cases b22
              · first | replace hb22 := dF hb22 | skip
                refine qo_q rfl (q_not rfl rfl ?_)
                refine qo_q rfl (q_pickF rfl (by conv => lhs; whnf) ?_)
                refine qo_q rfl (q_move (by conv => lhs; whnf) ?_)
                refine qo_skip rfl ?_
                refine qo_skip rfl ?_
                refine qo_skip rfl ?_
                refine qo_skip rfl ?_
                refine qo_skip rfl ?_
                refine qo_skip rfl ?_
                refine qo_skip rfl ?_
                refine qo_skip rfl ?_
                refine qo_skip rfl ?_
                refine qo_skip rfl ?_
                refine qo_skip rfl ?_
                refine qo_skip rfl ?_
                refine qo_skip rfl ?_
                refine qo_q rfl (q_pickT rfl (by conv => lhs; whnf) ?_)
                refine qo_nil ?_
                refine ev_nil (hK19 _ ?_); clear hK19
                refine good_condT rfl ?_
                refine good_seq fun K23 hK23 => ?_
                refine good_region rfl ?_
                refine ev_q rfl (q_assign (by conv => lhs; whnf) ?_)
                refine ev_nil (hK23 _ ?_); clear hK23
                refine good_ret ?_
                repeat (first | refine thenQ_ret ?_ | refine blockQ_ret ?_)
                refine ret_tmp (st := _) rfl (by conv => lhs; whnf) rfl ?_
                clear hK9 hK17
                first | exact fT ((wave_iff (all_fin hJ (by omega))).1 (by omega)) | exact fF (fun h => by have := h.1; omega) | exact fF (wave_no hp (by simp only [okAt]; grind)) | exact fF (wave_no hp0 (by simp only [okAt]; grind))
              · first | replace hb22 := dT hb22 | skip
                refine qo_q rfl (q_not rfl rfl ?_)
                refine qo_q rfl (q_pickF rfl (by conv => lhs; whnf) ?_)
                refine qo_q rfl (q_move (by conv => lhs; whnf) ?_)
                refine qo_q rfl (q_move (by conv => lhs; whnf) ?_)
                refine qo_q rfl (q_int rfl rfl ?_)
                intro b24 hb24; cases b24
                · replace hb24 := dF hb24
                  refine qo_q rfl (q_move (by conv => lhs; whnf) ?_)
                  refine qo_skip rfl ?_
                  refine qo_skip rfl ?_
                  refine qo_skip rfl ?_
                  refine qo_skip rfl ?_
                  refine qo_skip rfl ?_
                  refine qo_skip rfl ?_
                  refine qo_skip rfl ?_
                  refine qo_skip rfl ?_
                  refine qo_skip rfl ?_
                  refine qo_q rfl (q_pickF rfl (by conv => lhs; whnf) ?_)
                  refine qo_q rfl (q_pickF rfl (by conv => lhs; whnf) ?_)
                  refine qo_nil ?_
                  refine ev_nil (hK19 _ ?_); clear hK19
                  refine good_condF rfl ?_
                  refine good_skip (hK17 _ ?_); clear hK17
                  refine good_region rfl ?_
                  refine ev_q rfl (q_int rfl rfl ?_)
                  intro n25 hn25
                  replace hn25 := in64 hn25 (by omega) (by omega)
                  refine ev_q rfl (q_move (by conv => lhs; whnf) ?_)
                  refine ev_nil ?_
                  clear hK9
                  refine ⟨i + 1, ?_, ?_, ?_⟩
                  · refine ⟨by omega, all_ext hJ hp ?_⟩
                    refine ⟨by omega, by omega, by intro hz; subst hz; have e : some p = some p0 := hp.symm.trans hp0; cases e; omega, fun z hz0 hz => ?_⟩
                    grind
                  · first | omega | (simp only []; omega) | (dsimp only; omega)
                  · refine sub_weak ?_ ?_
                    · exact weakH_none _
                    · refine weakE_upd ?e22 ?r22 (weakE_upd ?e21 ?r21 (weakE_upd ?e20 ?r20 (weakE_upd ?e0 ?r0 (weakE_junk _ _))))
                      case e0 => first | rfl | exact fI (by omega) | (simp_all)
                      case r0 => intro h hh; cases hh
                      case e20 => first | rfl | exact fI (by omega) | (simp_all)
                      case r20 => intro h hh; cases hh
                      case e21 => first | rfl | exact fI (by omega) | (simp_all)
                      case r21 => intro h hh; cases hh
                      case e22 => first | rfl | exact fI (by omega) | (simp_all)
                      case r22 => intro h hh; cases hh
                · replace hb24 := dT hb24
                  refine qo_q rfl (q_move (by conv => lhs; whnf) ?_)
                  refine qo_q rfl (q_fieldAddrP fO83_0 rfl rfl ?_)
                  refine qo_q rfl (q_load tA2 rfl ?_)
                  refine qo_q rfl (q_move (by conv => lhs; whnf) ?_)
                  refine qo_q rfl (q_move (by conv => lhs; whnf) ?_)
                  refine qo_q rfl (q_int rfl rfl ?_)
                  intro n26 hn26
                  replace hn26 := in64 hn26 (by omega) (by omega)
                  obtain ⟨q, hq⟩ := getL (xs := xs) (n := n26) (by omega) (by omega)
                  refine qo_q rfl (q_idx tE31 rfl rfl (by omega) (by exact map_get hq) rfl ?_)
                  refine qo_q rfl (q_fieldAddr fO83_0 rfl rfl ?_)
                  refine qo_q rfl (q_load tA2 rfl ?_)
                  refine qo_q rfl (q_int rfl rfl ?_)
                  intro b27 hb27; cases b27
                  · replace hb27 := dF hb27
                    refine qo_q rfl (q_pickT rfl (by conv => lhs; whnf) ?_)
                    refine qo_q rfl (q_pickF rfl (by conv => lhs; whnf) ?_)
                    refine qo_nil ?_
                    refine ev_nil (hK19 _ ?_); clear hK19
                    refine good_condF rfl ?_
                    refine good_skip (hK17 _ ?_); clear hK17
                    refine good_region rfl ?_
                    refine ev_q rfl (q_int rfl rfl ?_)
                    intro n28 hn28
                    replace hn28 := in64 hn28 (by omega) (by omega)
                    refine ev_q rfl (q_move (by conv => lhs; whnf) ?_)
                    refine ev_nil ?_
                    clear hK9
                    refine ⟨i + 1, ?_, ?_, ?_⟩
                    · refine ⟨by omega, all_ext hJ hp ?_⟩
                      refine ⟨by omega, by omega, by intro hz; subst hz; have e : some p = some p0 := hp.symm.trans hp0; cases e; omega, fun z hz0 hz => ?_⟩
                      grind
                    · first | omega | (simp only []; omega) | (dsimp only; omega)
                    · refine sub_weak ?_ ?_
                      · exact weakH_none _
                      · refine weakE_upd ?e22 ?r22 (weakE_upd ?e21 ?r21 (weakE_upd ?e20 ?r20 (weakE_upd ?e0 ?r0 (weakE_junk _ _))))
                        case e0 => first | rfl | exact fI (by omega) | (simp_all)
                        case r0 => intro h hh; cases hh
                        case e20 => first | rfl | exact fI (by omega) | (simp_all)
                        case r20 => intro h hh; cases hh
                        case e21 => first | rfl | exact fI (by omega) | (simp_all)
                        case r21 => intro h hh; cases hh
                        case e22 => first | rfl | exact fI (by omega) | (simp_all)
                        case r22 => intro h hh; cases hh
                  · replace hb27 := dT hb27
                    refine qo_q rfl (q_pickT rfl (by conv => lhs; whnf) ?_)
                    refine qo_q rfl (q_pickF rfl (by conv => lhs; whnf) ?_)
                    refine qo_nil ?_
                    refine ev_nil (hK19 _ ?_); clear hK19
                    refine good_condT rfl ?_
                    refine good_seq fun K29 hK29 => ?_
                    refine good_region rfl ?_
                    refine ev_q rfl (q_assign (by conv => lhs; whnf) ?_)
                    refine ev_nil (hK29 _ ?_); clear hK29
                    refine good_ret ?_
                    repeat (first | refine thenQ_ret ?_ | refine blockQ_ret ?_)
                    refine ret_tmp (st := _) rfl (by conv => lhs; whnf) rfl ?_
                    clear hK9 hK17
                    first | exact fT ((wave_iff (all_fin hJ (by omega))).1 (by omega)) | exact fF (fun h => by have := h.1; omega) | exact fF (wave_no hp (by simp only [okAt]; grind)) | exact fF (wave_no hp0 (by simp only [okAt]; grind))
      · replace hb8 := neT hb8
        refine ev_q rfl (q_pickF rfl (by conv => lhs; whnf) ?_)
        refine ev_nil (hK3 _ ?_); clear hK3
        refine good_condT rfl ?_
        refine good_seq fun K30 hK30 => ?_
        refine good_region rfl ?_
        refine ev_q rfl (q_assign (by conv => lhs; whnf) ?_)
        refine ev_nil (hK30 _ ?_); clear hK30
        refine good_ret ?_
        repeat (first | refine thenQ_ret ?_ | refine blockQ_ret ?_)
        refine ret_tmp (st := _) rfl (by conv => lhs; whnf) rfl ?_
        clear hK2
        first | exact fT ((wave_iff (all_fin hJ (by omega))).1 (by omega)) | exact fF (fun h => by have := h.1; omega) | exact fF (wave_no hp (by simp only [okAt]; grind)) | exact fF (wave_no hp0 (by simp only [okAt]; grind))
    · replace hb7 := dT hb7
      refine ev_q rfl (q_pickF rfl (by conv => lhs; whnf) ?_)
      refine ev_q rfl (q_move (by conv => lhs; whnf) ?_)
      refine ev_skip rfl ?_
      refine ev_skip rfl ?_
      refine ev_skip rfl ?_
      refine ev_skip rfl ?_
      refine ev_skip rfl ?_
      refine ev_q rfl (q_pickT rfl (by conv => lhs; whnf) ?_)
      refine ev_nil (hK3 _ ?_); clear hK3
      refine good_condT rfl ?_
      refine good_seq fun K31 hK31 => ?_
      refine good_region rfl ?_
      refine ev_q rfl (q_assign (by conv => lhs; whnf) ?_)
      refine ev_nil (hK31 _ ?_); clear hK31
      refine good_ret ?_
      repeat (first | refine thenQ_ret ?_ | refine blockQ_ret ?_)
      refine ret_tmp (st := _) rfl (by conv => lhs; whnf) rfl ?_
      clear hK2
      first | exact fT ((wave_iff (all_fin hJ (by omega))).1 (by omega)) | exact fF (fun h => by have := h.1; omega) | exact fF (wave_no hp (by simp only [okAt]; grind)) | exact fF (wave_no hp0 (by simp only [okAt]; grind))
  · replace hb5 := dT hb5
    refine ev_q rfl (q_move (by conv => lhs; whnf) ?_)
    refine ev_skip rfl ?_
    refine ev_skip rfl ?_
    refine ev_skip rfl ?_
    refine ev_q rfl (q_pickT rfl (by conv => lhs; whnf) ?_)
    refine ev_q rfl (q_move (by conv => lhs; whnf) ?_)
    refine ev_skip rfl ?_
    refine ev_skip rfl ?_
    refine ev_skip rfl ?_
    refine ev_skip rfl ?_
    refine ev_skip rfl ?_
    refine ev_q rfl (q_pickT rfl (by conv => lhs; whnf) ?_)
    refine ev_nil (hK3 _ ?_); clear hK3
    refine good_condT rfl ?_
    refine good_seq fun K32 hK32 => ?_
    refine good_region rfl ?_
    refine ev_q rfl (q_assign (by conv => lhs; whnf) ?_)
    refine ev_nil (hK32 _ ?_); clear hK32
    refine good_ret ?_
    repeat (first | refine thenQ_ret ?_ | refine blockQ_ret ?_)
    refine ret_tmp (st := _) rfl (by conv => lhs; whnf) rfl ?_
    clear hK2
    first | exact fT ((wave_iff (all_fin hJ (by omega))).1 (by omega)) | exact fF (fun h => by have := h.1; omega) | exact fF (wave_no hp (by simp only [okAt]; grind)) | exact fF (wave_no hp0 (by simp only [okAt]; grind))

-- laws.eqStep
set_option maxRecDepth 20000 in
set_option maxHeartbeats 2000000 in
theorem D_laws_eqStep (a b c d : Int)  : Den Tryd.prog 58 [.agg [.s (.int .i64 a), .s (.int .i64 b)], .agg [.s (.int .i64 c), .s (.int .i64 d)]] (.s (.bool (decide (a = c ∧ b = d)))) := by
  refine den_of_good Tryd.func58 (by decide) rfl (Nat.le_of_ble_eq_true rfl) (Nat.le_of_ble_eq_true rfl) ?_
  refine good_seq fun K1 hK1 => ?_
  refine good_region rfl ?_
  refine ev_k rfl (k_box (by conv => lhs; whnf) rfl rfl rfl ?_)
  refine ev_k rfl (k_box (by conv => lhs; whnf) rfl rfl rfl ?_)
  refine ev_q rfl (q_assign (by conv => lhs; whnf) ?_)
  refine ev_nil (hK1 _ ?_); clear hK1
  refine good_seq fun K2 hK2 => ?_
  refine good_seq fun K3 hK3 => ?_
  refine good_region rfl ?_
  refine ev_q rfl (q_fieldAddrP fO83_0 rfl rfl ?_)
  refine ev_q rfl (q_load tA2 rfl ?_)
  refine ev_q rfl (q_fieldAddrP fO83_0 rfl rfl ?_)
  refine ev_q rfl (q_load tA2 rfl ?_)
  refine ev_q rfl (q_int rfl rfl ?_)
  intro b4 hb4; cases b4
  · replace hb4 := neF hb4
    refine ev_nil (hK3 _ ?_); clear hK3
    refine good_condF rfl ?_
    refine good_skip (hK2 _ ?_); clear hK2
    refine good_seq fun K5 hK5 => ?_
    refine good_seq fun K6 hK6 => ?_
    refine good_region rfl ?_
    refine ev_q rfl (q_fieldAddrP fO83_1 rfl rfl ?_)
    refine ev_q rfl (q_load tA2 rfl ?_)
    refine ev_q rfl (q_fieldAddrP fO83_1 rfl rfl ?_)
    refine ev_q rfl (q_load tA2 rfl ?_)
    refine ev_q rfl (q_int rfl rfl ?_)
    intro b7 hb7; cases b7
    · replace hb7 := neF hb7
      refine ev_nil (hK6 _ ?_); clear hK6
      refine good_condF rfl ?_
      refine good_skip (hK5 _ ?_); clear hK5
      refine good_seq fun K8 hK8 => ?_
      refine good_region rfl ?_
      refine ev_q rfl (q_assign (by conv => lhs; whnf) ?_)
      refine ev_nil (hK8 _ ?_); clear hK8
      refine good_ret ?_
      repeat (first | refine thenQ_ret ?_ | refine blockQ_ret ?_)
      refine ret_tmp (st := _) rfl (by conv => lhs; whnf) rfl ?_
      first | rfl | exact fT (by first | omega | grind) | exact fF (by first | omega | grind) | exact fT' (by first | omega | grind) | (exfalso; first | omega | grind)
    · replace hb7 := neT hb7
      refine ev_nil (hK6 _ ?_); clear hK6
      refine good_condT rfl ?_
      refine good_seq fun K9 hK9 => ?_
      refine good_region rfl ?_
      refine ev_q rfl (q_assign (by conv => lhs; whnf) ?_)
      refine ev_nil (hK9 _ ?_); clear hK9
      refine good_ret ?_
      repeat (first | refine thenQ_ret ?_ | refine blockQ_ret ?_)
      refine ret_tmp (st := _) rfl (by conv => lhs; whnf) rfl ?_
      clear hK5
      first | rfl | exact fT (by first | omega | grind) | exact fF (by first | omega | grind) | exact fT' (by first | omega | grind) | (exfalso; first | omega | grind)
  · replace hb4 := neT hb4
    refine ev_nil (hK3 _ ?_); clear hK3
    refine good_condT rfl ?_
    refine good_seq fun K10 hK10 => ?_
    refine good_region rfl ?_
    refine ev_q rfl (q_assign (by conv => lhs; whnf) ?_)
    refine ev_nil (hK10 _ ?_); clear hK10
    refine good_ret ?_
    repeat (first | refine thenQ_ret ?_ | refine blockQ_ret ?_)
    refine ret_tmp (st := _) rfl (by conv => lhs; whnf) rfl ?_
    clear hK2
    first | rfl | exact fT (by first | omega | grind) | exact fF (by first | omega | grind) | exact fT' (by first | omega | grind) | (exfalso; first | omega | grind)

-- laws.eqStepS
set_option maxRecDepth 20000 in
set_option maxHeartbeats 2000000 in
theorem D_laws_eqStepS (xs : List (Int × Int)) (hx : xs.length ≤ 8796093022208) : Den Tryd.prog 18 [.lst 2 (xs.map stp), .lst 2 (xs.map stp)] (.s (.bool true)) := by
  refine den_of_good Tryd.func18 (by decide) rfl (Nat.le_of_ble_eq_true rfl) (Nat.le_of_ble_eq_true rfl) ?_
  refine good_seq fun K1 hK1 => ?_
  refine good_region rfl ?_
  refine ev_q rfl (q_assign (by conv => lhs; whnf) ?_)
  refine ev_nil (hK1 _ ?_); clear hK1
  refine good_seq fun K2 hK2 => ?_
  refine good_seq fun K3 hK3 => ?_
  refine good_region rfl ?_
  refine ev_q rfl (q_move (by conv => lhs; whnf) ?_)
  refine ev_q rfl (q_len tEs31 rfl ?_)
  intro n4 hn4
  try simp only [List.length_map] at hn4
  refine ev_q rfl (q_move (by conv => lhs; whnf) ?_)
  refine ev_q rfl (q_len tEs31 rfl ?_)
  intro n5 hn5
  try simp only [List.length_map] at hn5
  refine ev_q rfl (q_int rfl rfl ?_)
  intro b6 hb6; cases b6
  · replace hb6 := neF hb6
    refine ev_nil (hK3 _ ?_); clear hK3
    refine good_condF rfl ?_
    refine good_skip (hK2 _ ?_); clear hK2
    refine good_seq fun K7 hK7 => ?_
    refine good_seq fun K8 hK8 => ?_
    refine good_region rfl ?_
    refine ev_q rfl (q_assign (by conv => lhs; whnf) ?_)
    refine ev_nil (hK8 _ ?_); clear hK8
    refine good_block ?_
    refine good_loop (α := Nat) (fun i => { env := upd (upd (upd ((fun _ => .junk)) 0 (.lst 2 (xs.map stp))) 1 (.lst 2 (xs.map stp))) 5 (.s (.int .i64 i)), H := fun _ => none }) (fun i => i ≤ xs.length) (fun i => xs.length - i) 0 ?_ ?_ ?_
    · show 0 ≤ _; omega
    · refine sub_weak ?_ ?_
      · exact weakH_none _
      · refine weakE_upd ?e5 ?r5 (weakE_upd ?e1 ?r1 (weakE_upd ?e0 ?r0 (weakE_junk _ _)))
        case e0 => first | rfl | exact fI (by omega) | (simp_all)
        case r0 => intro h hh; cases hh
        case e1 => first | rfl | exact fI (by omega) | (simp_all)
        case r1 => intro h hh; cases hh
        case e5 => first | rfl | exact fI (by omega) | (simp_all)
        case r5 => intro h hh; cases hh
    · rintro i hI
      refine good_seq fun K9 hK9 => ?_
      refine good_seq fun K10 hK10 => ?_
      refine good_region rfl ?_
      refine ev_q rfl (q_move (by conv => lhs; whnf) ?_)
      refine ev_q rfl (q_move (by conv => lhs; whnf) ?_)
      refine ev_q rfl (q_len tEs31 rfl ?_)
      intro n11 hn11
      try simp only [List.length_map] at hn11
      refine ev_q rfl (q_int rfl rfl ?_)
      intro b12 hb12; cases b12
      · replace hb12 := dF hb12
        refine ev_nil (hK10 _ ?_); clear hK10
        refine good_condF rfl ?_
        refine good_exit ?_
        repeat (first | refine thenQ_exit ?_ | refine blockQ_pass rfl ?_)
        refine blockQ_exit (hK7 _ ?_); clear hK7
        refine good_seq fun K13 hK13 => ?_
        refine good_region rfl ?_
        refine ev_q rfl (q_assign (by conv => lhs; whnf) ?_)
        refine ev_nil (hK13 _ ?_); clear hK13
        refine good_ret ?_
        repeat (first | refine thenQ_ret ?_ | refine blockQ_ret ?_)
        refine ret_tmp (st := _) rfl (by conv => lhs; whnf) rfl ?_
        clear hK9
        first | rfl | (exfalso; omega)
      · replace hb12 := dT hb12
        obtain ⟨p, hp⟩ := getL (xs := xs) (n := (i : Int)) (by omega) (by omega)
        replace hp : xs[i]? = some p := hp
        refine ev_nil (hK10 _ ?_); clear hK10
        refine good_condT rfl ?_
        refine good_skip (hK9 _ ?_); clear hK9
        refine good_seq fun K14 hK14 => ?_
        refine good_block ?_
        refine good_seq fun K15 hK15 => ?_
        refine good_draw 10 hmix (by kernel_rfl) rfl ?_
        refine qo_q rfl (q_move (by conv => lhs; whnf) ?_)
        refine qo_q rfl (q_move (by conv => lhs; whnf) ?_)
        refine qo_q rfl (q_idx tE31 rfl rfl (by exact Int.natCast_nonneg _) (by exact map_get hp) rfl ?_)
        refine qo_q rfl (q_loadA tA83 rfl rfl rfl ?_)
        refine qo_q rfl (q_move (by conv => lhs; whnf) ?_)
        refine qo_q rfl (q_move (by conv => lhs; whnf) ?_)
        refine qo_q rfl (q_idx tE31 rfl rfl (by exact Int.natCast_nonneg _) (by exact map_get hp) rfl ?_)
        refine qo_q rfl (q_loadA tA83 rfl rfl rfl ?_)
        refine qo_q rfl (q_callB rfl rfl (rfl) (D_laws_eqStep ..) ?_)
        intro b16 hb16; cases b16
        · first | replace hb16 := dF hb16 | skip
          refine qo_q rfl (q_not rfl rfl ?_)
          refine qo_nil ?_
          refine ev_nil (hK15 _ ?_); clear hK15
          refine good_condT rfl ?_
          refine good_seq fun K17 hK17 => ?_
          refine good_region rfl ?_
          refine ev_q rfl (q_assign (by conv => lhs; whnf) ?_)
          refine ev_nil (hK17 _ ?_); clear hK17
          refine good_ret ?_
          repeat (first | refine thenQ_ret ?_ | refine blockQ_ret ?_)
          refine ret_tmp (st := _) rfl (by conv => lhs; whnf) rfl ?_
          clear hK7 hK14
          first | rfl | (exfalso; omega)
        · first | replace hb16 := dT hb16 | skip
          refine qo_q rfl (q_not rfl rfl ?_)
          refine qo_nil ?_
          refine ev_nil (hK15 _ ?_); clear hK15
          refine good_condF rfl ?_
          refine good_skip (hK14 _ ?_); clear hK14
          refine good_region rfl ?_
          refine ev_q rfl (q_move (by conv => lhs; whnf) ?_)
          refine ev_q rfl (q_int rfl rfl ?_)
          intro n18 hn18
          replace hn18 := in64 hn18 (by omega) (by omega)
          refine ev_q rfl (q_assign (by conv => lhs; whnf) ?_)
          refine ev_nil ?_
          clear hK7
          refine ⟨i + 1, ?_, ?_, ?_⟩
          · show _ ≤ _; omega
          · first | omega | (simp only []; omega) | (dsimp only; omega)
          · refine sub_weak ?_ ?_
            · exact weakH_none _
            · refine weakE_upd ?e5 ?r5 (weakE_upd ?e1 ?r1 (weakE_upd ?e0 ?r0 (weakE_junk _ _)))
              case e0 => first | rfl | exact fI (by omega) | (simp_all)
              case r0 => intro h hh; cases hh
              case e1 => first | rfl | exact fI (by omega) | (simp_all)
              case r1 => intro h hh; cases hh
              case e5 => first | rfl | exact fI (by omega) | (simp_all)
              case r5 => intro h hh; cases hh
  · replace hb6 := neT hb6
    refine ev_nil (hK3 _ ?_); clear hK3
    refine good_condT rfl ?_
    refine good_seq fun K19 hK19 => ?_
    refine good_region rfl ?_
    refine ev_q rfl (q_assign (by conv => lhs; whnf) ?_)
    refine ev_nil (hK19 _ ?_); clear hK19
    refine good_ret ?_
    repeat (first | refine thenQ_ret ?_ | refine blockQ_ret ?_)
    refine ret_tmp (st := _) rfl (by conv => lhs; whnf) rfl ?_
    clear hK2
    first | rfl | (exfalso; omega)

theorem D_parse (s : ByteArray) (v : Int) (hs : s.size ≤ 1048576) (hp : Lib.parseIntB 64 s.data.toList = .ok v) : Den Tryd.prog 85 [.s (.string s), .s (.int .i64 10), .s (.int .i64 64)] (.tup [.s (.int .i64 v), .s .nilIface]) :=
  den_parse (te := _) ⟨_, Tryd.func85, rfl, rfl⟩ s v (fun w => Tryd.strconv_ParseInt_10_at64_ok s (by omega) v hp w)
theorem D_parseN (s : ByteArray) (hs : s.size ≤ 1048576) (hno : ∀ v, Lib.parseIntB 64 s.data.toList ≠ .ok v) : DenR Tryd.prog 85 [.s (.string s), .s (.int .i64 10), .s (.int .i64 64)] (τ := Int × Nat) (fun _ => True) (fun x => .tup [.s (.int .i64 x.1), .s (.iface 144 (.pointer (some ⟨x.2, 0, none⟩)))]) :=
  denR_parse ⟨_, Tryd.func85, rfl, rfl⟩ s (by kernel_rfl) (by kernel_rfl) hno
    (fun h ev w hv hev => (Tryd.strconv_ParseInt_10_at64_syntax s (by omega) h ev w hv hev).mono fun e w' ⟨N, he, _, _, hb⟩ => ⟨_, N, he, hb⟩)
    (fun h ev w hv hev => (Tryd.strconv_ParseInt_10_at64_range s (by omega) h ev w hv hev).mono fun e w' ⟨N, he, _, _, hb⟩ => ⟨_, N, he, hb⟩)
theorem D_trim45 (s : ByteArray) : Den Tryd.prog 86 [.s (.string s), .s (.string ⟨#[45]⟩)] (.s (.string (tx (Lib.trimPrefix s.data.toList [45])))) :=
  den_trim ⟨_, Tryd.func86, rfl, rfl⟩ (fun s p w => Tryd.strings_TrimPrefix s p w) s ⟨#[45]⟩
theorem D_split (c : UInt8) (k : Nat) (s : ByteArray) (hs : s.size ≤ 1048576) (hk : 1 ≤ k) (hk2 : k ≤ 1000000) : Den Tryd.prog 73 [.s (.string s), .s (.string ⟨#[c]⟩), .s (.int .i64 (k : Int))] (.lst 1 ((splN c k s).map stA)) :=
  den_splitN (ty := _) ⟨_, Tryd.func73, rfl, rfl⟩ (by kernel_rfl) (fun s sep n m w h1 h2 h3 h4 h5 => Tryd.strings_SplitN s sep n m w h1 h2 h3 h4 h5) s ⟨#[c]⟩ k hs (by show 1 ≤ 1; decide) hk hk2

-- impl.ReadDecimal
set_option maxRecDepth 20000 in
set_option maxHeartbeats 2000000 in
theorem D_impl_ReadDecimal_ok (s : ByteArray) (v : Int) (hs : s.size ≤ 1048576) (hp : Lib.parseIntB 64 s.data.toList = .ok v) : Den Tryd.prog 47 [.s (.string s)] (.tup [.s (.int .i64 (rdN s)), .s (.bool (decide (rdB s)))]) := by
  have hv := parse_in hp
  refine den_of_good Tryd.func47 (by decide) rfl (Nat.le_of_ble_eq_true rfl) (Nat.le_of_ble_eq_true rfl) ?_
  refine good_seq fun K1 hK1 => ?_
  refine good_region rfl ?_
  refine ev_q rfl (q_assign (by conv => lhs; whnf) ?_)
  refine ev_q rfl (q_assign (by conv => lhs; whnf) ?_)
  refine ev_nil (hK1 _ ?_); clear hK1
  refine good_seq fun K2 hK2 => ?_
  refine good_region rfl ?_
  refine ev_q rfl (q_move (by conv => lhs; whnf) ?_)
  refine ev_q rfl (q_call rfl rfl (rfl) (D_parse s v hs hp) rfl ?_)
  refine ev_q rfl (q_move (by conv => lhs; whnf) ?_)
  refine ev_q rfl (q_extractI rfl rfl ?_)
  intro n3 hn3
  have h9 := hn3
  refine ev_q rfl (q_extract rfl rfl ?_)
  refine ev_q rfl (q_assign (by conv => lhs; whnf) ?_)
  refine ev_q rfl (q_assign (by conv => lhs; whnf) ?_)
  refine ev_nil (hK2 _ ?_); clear hK2
  refine good_seq fun K4 hK4 => ?_
  refine good_seq fun K5 hK5 => ?_
  refine good_region rfl ?_
  refine ev_q rfl (q_move (by conv => lhs; whnf) ?_)
  refine ev_q rfl (q_neN0 tIf115 rfl ?_)
  refine ev_q rfl (q_move (by conv => lhs; whnf) ?_)
  refine ev_q rfl (q_move (by conv => lhs; whnf) ?_)
  refine ev_q rfl (q_call rfl rfl (rfl) (D_trim45 s) rfl ?_)
  refine ev_q rfl (q_lenS tStr9 rfl ?_)
  intro n6 hn6
  refine ev_q rfl (q_int rfl rfl ?_)
  intro b7 hb7; cases b7
  · replace hb7 := dF hb7
    have h18 : (tx (Lib.trimPrefix s.data.toList [45])).size ≤ 18 := by omega
    refine ev_q rfl (q_pickF rfl (by conv => lhs; whnf) ?_)
    refine ev_q rfl (q_move (by conv => lhs; whnf) ?_)
    refine ev_q rfl (q_move (by conv => lhs; whnf) ?_)
    refine ev_q rfl (q_call rfl rfl (rfl) (D_impl_Decimal n3 (by rw [h9]; exact hv)) rfl ?_)
    refine ev_q rfl (q_move (by conv => lhs; whnf) ?_)
    refine ev_q rfl (q_str rfl rfl ?_)
    intro b8 hb8; cases b8
    · replace hb8 := snF hb8
      have hy := rd_c3 (s := s) (v := v) (by rw [← h9]; exact hb8) h18
      refine ev_q rfl (q_pickF rfl (by conv => lhs; whnf) ?_)
      refine ev_nil (hK5 _ ?_); clear hK5
      refine good_condF rfl ?_
      refine good_skip (hK4 _ ?_); clear hK4
      refine good_seq fun K9 hK9 => ?_
      refine good_region rfl ?_
      refine ev_q rfl (q_move (by conv => lhs; whnf) ?_)
      refine ev_q rfl (q_assign (by conv => lhs; whnf) ?_)
      refine ev_q rfl (q_assign (by conv => lhs; whnf) ?_)
      refine ev_nil (hK9 _ ?_); clear hK9
      refine good_ret ?_
      repeat (first | refine thenQ_ret ?_ | refine blockQ_ret ?_)
      refine ret_many rfl ?_
      refine res_tmp (by conv => lhs; whnf) rfl ?_
      refine res_tmp (by conv => lhs; whnf) rfl ?_
      refine res_nil ?_
      first | exact fTup1 (fI (rdN_no hc).symm) (fTup1 (fF hc) rfl) | exact fTup1 (fI (h9.trans hy.2.symm)) (fTup1 (fT hy.1) rfl)
    · replace hb8 := snT hb8
      have hc := rd_c2 hp (by rw [← h9]; exact hb8)
      refine ev_q rfl (q_pickF rfl (by conv => lhs; whnf) ?_)
      refine ev_nil (hK5 _ ?_); clear hK5
      refine good_condT rfl ?_
      refine good_seq fun K10 hK10 => ?_
      refine good_region rfl ?_
      refine ev_q rfl (q_assign (by conv => lhs; whnf) ?_)
      refine ev_q rfl (q_assign (by conv => lhs; whnf) ?_)
      refine ev_nil (hK10 _ ?_); clear hK10
      refine good_ret ?_
      repeat (first | refine thenQ_ret ?_ | refine blockQ_ret ?_)
      refine ret_many rfl ?_
      refine res_tmp (by conv => lhs; whnf) rfl ?_
      refine res_tmp (by conv => lhs; whnf) rfl ?_
      refine res_nil ?_
      clear hK4
      first | exact fTup1 (fI (rdN_no hc).symm) (fTup1 (fF hc) rfl) | exact fTup1 (fI (h9.trans hy.2.symm)) (fTup1 (fT hy.1) rfl)
  · replace hb7 := dT hb7
    have hc := rd_c1 hp (by omega)
    refine ev_q rfl (q_pickF rfl (by conv => lhs; whnf) ?_)
    refine ev_q rfl (q_move (by conv => lhs; whnf) ?_)
    refine ev_skip rfl ?_
    refine ev_skip rfl ?_
    refine ev_skip rfl ?_
    refine ev_skip rfl ?_
    refine ev_q rfl (q_pickT rfl (by conv => lhs; whnf) ?_)
    refine ev_nil (hK5 _ ?_); clear hK5
    refine good_condT rfl ?_
    refine good_seq fun K11 hK11 => ?_
    refine good_region rfl ?_
    refine ev_q rfl (q_assign (by conv => lhs; whnf) ?_)
    refine ev_q rfl (q_assign (by conv => lhs; whnf) ?_)
    refine ev_nil (hK11 _ ?_); clear hK11
    refine good_ret ?_
    repeat (first | refine thenQ_ret ?_ | refine blockQ_ret ?_)
    refine ret_many rfl ?_
    refine res_tmp (by conv => lhs; whnf) rfl ?_
    refine res_tmp (by conv => lhs; whnf) rfl ?_
    refine res_nil ?_
    clear hK4
    first | exact fTup1 (fI (rdN_no hc).symm) (fTup1 (fF hc) rfl) | exact fTup1 (fI (h9.trans hy.2.symm)) (fTup1 (fT hy.1) rfl)

-- impl.ReadDecimal
set_option maxRecDepth 20000 in
set_option maxHeartbeats 2000000 in
theorem D_impl_ReadDecimal_no (s : ByteArray) (hs : s.size ≤ 1048576) (hno : ∀ v, Lib.parseIntB 64 s.data.toList ≠ .ok v) : Den Tryd.prog 47 [.s (.string s)] (.tup [.s (.int .i64 (rdN s)), .s (.bool (decide (rdB s)))]) := by
  have hc := rd_c0 hno
  refine den_of_good Tryd.func47 (by decide) rfl (Nat.le_of_ble_eq_true rfl) (Nat.le_of_ble_eq_true rfl) ?_
  refine good_seq fun K1 hK1 => ?_
  refine good_region rfl ?_
  refine ev_q rfl (q_assign (by conv => lhs; whnf) ?_)
  refine ev_q rfl (q_assign (by conv => lhs; whnf) ?_)
  refine ev_nil (hK1 _ ?_); clear hK1
  refine good_seq fun K2 hK2 => ?_
  refine good_region rfl ?_
  refine ev_q rfl (q_move (by conv => lhs; whnf) ?_)
  refine ev_k rfl (k_callR [] (D_parseN s hs hno) rfl (rfl) (rfl) trivial rfl (by rintro ⟨n3, e3⟩ hx3_0; exact ⟨trivial, rfl⟩) rfl rfl ?_)
  rintro ⟨n3, e3⟩ hx3_0
  refine ev_q rfl (q_move (by conv => lhs; whnf) ?_)
  refine ev_q rfl (q_extractI rfl rfl ?_)
  intro n4 hn4
  refine ev_q rfl (q_extract rfl rfl ?_)
  refine ev_q rfl (q_assign (by conv => lhs; whnf) ?_)
  refine ev_q rfl (q_assign (by conv => lhs; whnf) ?_)
  refine ev_nil (hK2 _ ?_); clear hK2
  refine good_seq fun K5 hK5 => ?_
  refine good_seq fun K6 hK6 => ?_
  refine good_region rfl ?_
  refine ev_q rfl (q_move (by conv => lhs; whnf) ?_)
  refine ev_q rfl (q_neN tIf115 rfl ?_)
  refine ev_q rfl (q_move (by conv => lhs; whnf) ?_)
  refine ev_skip rfl ?_
  refine ev_skip rfl ?_
  refine ev_skip rfl ?_
  refine ev_skip rfl ?_
  refine ev_q rfl (q_pickT rfl (by conv => lhs; whnf) ?_)
  refine ev_q rfl (q_move (by conv => lhs; whnf) ?_)
  refine ev_skip rfl ?_
  refine ev_skip rfl ?_
  refine ev_skip rfl ?_
  refine ev_skip rfl ?_
  refine ev_q rfl (q_pickT rfl (by conv => lhs; whnf) ?_)
  refine ev_nil (hK6 _ ?_); clear hK6
  refine good_condT rfl ?_
  refine good_seq fun K7 hK7 => ?_
  refine good_region rfl ?_
  refine ev_q rfl (q_assign (by conv => lhs; whnf) ?_)
  refine ev_q rfl (q_assign (by conv => lhs; whnf) ?_)
  refine ev_nil (hK7 _ ?_); clear hK7
  refine good_ret ?_
  repeat (first | refine thenQ_ret ?_ | refine blockQ_ret ?_)
  refine ret_many rfl ?_
  refine res_tmp (by conv => lhs; whnf) rfl ?_
  refine res_tmp (by conv => lhs; whnf) rfl ?_
  refine res_nil ?_
  clear hK5
  exact fTup1 (fI (rdN_no hc).symm) (fTup1 (fF hc) rfl)

theorem D_impl_ReadDecimal (s : ByteArray) (hs : s.size ≤ 1048576) : Den Tryd.prog 47 [.s (.string s)] (.tup [.s (.int .i64 (rdN s)), .s (.bool (decide (rdB s)))]) := by
  cases hp : Lib.parseIntB 64 s.data.toList with
  | ok v => exact D_impl_ReadDecimal_ok s v hs hp
  | «syntax» => exact D_impl_ReadDecimal_no s hs (fun v h => by rw [hp] at h; cases h)
  | range => exact D_impl_ReadDecimal_no s hs (fun v h => by rw [hp] at h; cases h)

-- impl.ReadList
set_option maxRecDepth 20000 in
set_option maxHeartbeats 2000000 in
theorem D_impl_ReadList_X (s : ByteArray) (hs : s.size ≤ 1048576) : DenX Tryd.prog 45 [] [.s (.string s)] [(900003, .row 2 1 ((rlL s).map ci))] (.tup [.own 900003 (rlL s).length, .s (.bool (decide (rlB s)))]) := by
  have hsl := splN_le (c := 44) (k := 65) (s := s) (by omega)
  refine denX_of_good Tryd.func45 (by decide) rfl (Nat.le_of_ble_eq_true rfl) (Nat.le_of_ble_eq_true rfl) rfl ?_
  refine good_seq fun K1 hK1 => ?_
  refine good_region rfl ?_
  refine ev_q rfl (q_assign (by conv => lhs; whnf) ?_)
  refine ev_q rfl (q_assign (by conv => lhs; whnf) ?_)
  refine ev_nil (hK1 _ ?_); clear hK1
  refine good_seq fun K2 hK2 => ?_
  refine good_seq fun K3 hK3 => ?_
  refine good_region rfl ?_
  refine ev_q rfl (q_move (by conv => lhs; whnf) ?_)
  refine ev_q rfl (q_str rfl rfl ?_)
  intro b4 hb4; cases b4
  · replace hb4 := seF hb4
    have hnd : ¬ s = tx [45] := hb4
    refine ev_nil (hK3 _ ?_); clear hK3
    refine good_condF rfl ?_
    refine good_skip (hK2 _ ?_); clear hK2
    refine good_seq fun K5 hK5 => ?_
    refine good_region rfl ?_
    refine ev_q rfl (q_assign (by conv => lhs; whnf) ?_)
    refine ev_nil (hK5 _ ?_); clear hK5
    refine good_seq fun K6 hK6 => ?_
    refine good_seq fun K7 hK7 => ?_
    refine good_region rfl ?_
    refine ev_q rfl (q_move (by conv => lhs; whnf) ?_)
    refine ev_q rfl (q_call rfl rfl (rfl) (D_split 44 65 s hs (by decide) (by decide)) rfl ?_)
    refine ev_q rfl (q_len tEs86 rfl ?_)
    intro n8 hn8
    try simp only [List.length_map] at hn8
    refine ev_q rfl (q_move (by conv => lhs; whnf) ?_)
    refine ev_nil (hK7 _ ?_); clear hK7
    refine good_block ?_
    refine good_loop (α := Nat) (fun i => { env := upd (upd (upd (upd (upd ((fun _ => .junk)) 0 (.s (.string s))) 4 (.own 28 ((splN 44 65 s).take i).length)) 12 (.lst 1 ((splN 44 65 s).map stA))) 13 (.s (.int .i64 (((splN 44 65 s).length : Int))))) 14 (.s (.int .i64 ((i : Int)))), H := upd ((fun _ => none)) 28 (some (.row 2 1 ((((splN 44 65 s).take i).map rdN).map ci))) }) (fun i => i ≤ (splN 44 65 s).length ∧ ∀ j q, j < i → (splN 44 65 s)[j]? = some q → rdB q) (fun i => (splN 44 65 s).length - i) 0 ?_ ?_ ?_
    · exact ⟨Nat.zero_le _, fun j u hj => by omega⟩
    · refine Sub.trans (sub_nil 4 28 2 1 rfl rfl (by decide)) ?_
      refine sub_weak ?_ ?_
      · exact weakH_row (rowEq (rfl)) (weakH_none _)
      · refine weakE_upd ?e14 ?r14 (weakE_upd ?e13 ?r13 (weakE_upd ?e12 ?r12 (weakE_upd ?e4 ?r4 (weakE_upd ?e0 ?r0 (weakE_junk _ _)))))
        case e0 => first | rfl | exact fI (by omega) | (simp_all)
        case r0 => intro h hh; cases hh
        case e4 => first | rfl | exact fI (by omega) | (first | rfl | (rw [hst]; exact ownEq (by simp)))
        case r4 => intro h hh; simp [refs] at hh; subst hh; rfl
        case e12 => first | rfl | exact fI (by omega) | (simp_all)
        case r12 => intro h hh; cases hh
        case e13 => first | rfl | exact fI (by omega) | (simp_all)
        case r13 => intro h hh; cases hh
        case e14 => first | rfl | exact fI (by omega) | (simp_all)
        case r14 => intro h hh; cases hh
    · rintro i ⟨hI, hJ⟩
      refine good_seq fun K9 hK9 => ?_
      refine good_region rfl ?_
      refine ev_q rfl (q_int rfl rfl ?_)
      intro b10 hb10; cases b10
      · replace hb10 := dF hb10
        obtain rfl : i = (splN 44 65 s).length := by omega
        have hall : ∀ p ∈ (splN 44 65 s), rdB p := fun p hp => by obtain ⟨j, hj⟩ := List.getElem?_of_mem hp; exact hJ j p (List.getElem?_eq_some_iff.1 hj).1 hj
        refine ev_nil (hK9 _ ?_); clear hK9
        refine good_seq fun K11 hK11 => ?_
        refine good_condF rfl ?_
        refine good_exit ?_
        repeat (first | refine thenQ_exit ?_ | refine blockQ_pass rfl ?_)
        refine blockQ_exit (hK6 _ ?_); clear hK6
        refine good_seq fun K12 hK12 => ?_
        refine good_seq fun K13 hK13 => ?_
        refine good_region rfl ?_
        refine ev_q rfl (q_move (by conv => lhs; whnf) ?_)
        refine ev_q rfl (q_call rfl rfl (by change ([.lst 1 (List.take (List.take (splN 44 65 s).length (splN 44 65 s)).length (((List.take (splN 44 65 s).length (splN 44 65 s)).map rdN).map ci))] : List AV) = _; simp only [List.take_length]; rw [List.take_of_length_le (by simp)]) (D_impl_ListText ((splN 44 65 s).map rdN) (by rw [List.length_map]; omega)) rfl ?_)
        refine ev_q rfl (q_move (by conv => lhs; whnf) ?_)
        refine ev_q rfl (q_str rfl rfl ?_)
        intro b14 hb14; cases b14
        · replace hb14 := snF hb14
          have hee := rl_y2 hnd ((rlP_iff hall).2 hb14)
          refine ev_nil (hK13 _ ?_); clear hK13
          refine good_condF rfl ?_
          refine good_skip (hK12 _ ?_); clear hK12
          refine good_seq fun K15 hK15 => ?_
          refine good_region rfl ?_
          refine ev_q rfl (q_move (by conv => lhs; whnf) ?_)
          refine ev_q rfl (q_assign (by conv => lhs; whnf) ?_)
          refine ev_q rfl (q_assign (by conv => lhs; whnf) ?_)
          refine ev_nil (hK15 _ ?_); clear hK15
          refine good_weak (sub_move 2 28 900003 rfl rfl rfl (by decide)) ?_
          refine good_ret ?_
          repeat (first | refine thenQ_ret ?_ | refine blockQ_ret ?_)
          refine fx_many rfl ?_
          refine fxs_tmp (by conv => lhs; whnf) ?_
          refine fxs_tmp (by conv => lhs; whnf) ?_
          refine fx_nil ?_
          clear hK11
          obtain ⟨e2, e⟩ := hee
          try rw [List.take_length]
          exact ⟨_, .tup (.cons (conv_eq (by first | rfl | (rw [e]; done) | (rw [e]; rfl) | exact ownEq (by first | omega | simp_all))) (.cons (conv_eq (by first | rfl | exact fT (by first | exact e2 | assumption) | exact fF (by first | exact e2 | assumption) | exact fT' (by first | exact e2 | assumption) | (exfalso; first | omega | grind))) (.nil))), weakH_row (rowEq (by first | (rw [e]; done) | (rw [e]; rfl))) (weakH_none _), refsIn_ok rfl⟩
        · replace hb14 := snT hb14
          have hee := rl_n hnd (fun h => hb14 ((rlP_iff hall).1 h))
          refine ev_nil (hK13 _ ?_); clear hK13
          refine good_condT rfl ?_
          refine good_seq fun K16 hK16 => ?_
          refine good_region rfl ?_
          refine ev_q rfl (q_assign (by conv => lhs; whnf) ?_)
          refine ev_q rfl (q_assign (by conv => lhs; whnf) ?_)
          refine ev_nil (hK16 _ ?_); clear hK16
          refine good_ret ?_
          repeat (first | refine thenQ_ret ?_ | refine blockQ_ret ?_)
          refine fx_many rfl ?_
          refine fxs_tmp (by conv => lhs; whnf) ?_
          refine fxs_tmp (by conv => lhs; whnf) ?_
          refine fx_nil ?_
          clear hK11 hK12
          obtain ⟨e2, e⟩ := hee
          try rw [List.take_length]
          exact ⟨_, .tup (.cons (conv_nil rfl (by decide) (by rw [e]; rfl)) (.cons (conv_eq (by first | rfl | exact fT (by first | exact e2 | assumption) | exact fF (by first | exact e2 | assumption) | exact fT' (by first | exact e2 | assumption) | (exfalso; first | omega | grind))) (.nil))), weakH_row (rowEq (by first | (rw [e]; done) | (rw [e]; rfl))) (weakH_none _), refsIn_ok rfl⟩
      · replace hb10 := dT hb10
        obtain ⟨q, hq⟩ := getL (xs := (splN 44 65 s)) (n := (i : Int)) (by omega) (by omega)
        replace hq : (splN 44 65 s)[i]? = some q := hq
        have hst := takeS hq
        refine ev_nil (hK9 _ ?_); clear hK9
        refine good_seq fun K17 hK17 => ?_
        refine good_condT rfl ?_
        refine good_skip (hK17 _ ?_); clear hK17
        refine good_seq fun K18 hK18 => ?_
        refine good_block ?_
        refine good_seq fun K19 hK19 => ?_
        refine good_region rfl ?_
        refine ev_q rfl (q_idx tE86 rfl rfl (by exact Int.natCast_nonneg _) (by exact map_get hq) rfl ?_)
        refine ev_q rfl (q_load tA9 rfl ?_)
        refine ev_q rfl (q_assign (by conv => lhs; whnf) ?_)
        refine ev_nil (hK19 _ ?_); clear hK19
        refine good_seq fun K20 hK20 => ?_
        refine good_region rfl ?_
        refine ev_q rfl (q_move (by conv => lhs; whnf) ?_)
        refine ev_q rfl (q_call rfl rfl (rfl) (D_impl_ReadDecimal q (by have := splN_sz (List.mem_of_getElem? hq); omega)) rfl ?_)
        refine ev_q rfl (q_move (by conv => lhs; whnf) ?_)
        refine ev_q rfl (q_extractI rfl rfl ?_)
        intro n21 hn21
        have h21 := hn21
        refine ev_q rfl (q_extractB rfl rfl ?_)
        intro b22 hb22; cases b22
        · first | replace hb22 := dF hb22 | skip
          have hee := rl_n hnd (rlP_no1 (List.mem_of_getElem? hq) hb22)
          refine ev_q rfl (q_assign (by conv => lhs; whnf) ?_)
          refine ev_q rfl (q_assign (by conv => lhs; whnf) ?_)
          refine ev_nil (hK20 _ ?_); clear hK20
          refine good_seq fun K23 hK23 => ?_
          refine good_seq fun K24 hK24 => ?_
          refine good_region rfl ?_
          refine ev_q rfl (q_move (by conv => lhs; whnf) ?_)
          refine ev_q rfl (q_not rfl rfl ?_)
          refine ev_nil (hK24 _ ?_); clear hK24
          refine good_condT rfl ?_
          refine good_seq fun K25 hK25 => ?_
          refine good_region rfl ?_
          refine ev_q rfl (q_assign (by conv => lhs; whnf) ?_)
          refine ev_q rfl (q_assign (by conv => lhs; whnf) ?_)
          refine ev_nil (hK25 _ ?_); clear hK25
          refine good_ret ?_
          repeat (first | refine thenQ_ret ?_ | refine blockQ_ret ?_)
          refine fx_many rfl ?_
          refine fxs_tmp (by conv => lhs; whnf) ?_
          refine fxs_tmp (by conv => lhs; whnf) ?_
          refine fx_nil ?_
          clear hK6 hK18 hK23
          obtain ⟨e2, e⟩ := hee
          try rw [List.take_length]
          exact ⟨_, .tup (.cons (conv_nil rfl (by decide) (by rw [e]; rfl)) (.cons (conv_eq (by first | rfl | exact fT (by first | exact e2 | assumption) | exact fF (by first | exact e2 | assumption) | exact fT' (by first | exact e2 | assumption) | (exfalso; first | omega | grind))) (.nil))), weakH_row (rowEq (by first | (rw [e]; done) | (rw [e]; rfl))) (weakH_none _), refsIn_ok rfl⟩
        · first | replace hb22 := dT hb22 | skip
          have hqb : rdB q := hb22
          refine ev_q rfl (q_assign (by conv => lhs; whnf) ?_)
          refine ev_q rfl (q_assign (by conv => lhs; whnf) ?_)
          refine ev_nil (hK20 _ ?_); clear hK20
          refine good_seq fun K26 hK26 => ?_
          refine good_seq fun K27 hK27 => ?_
          refine good_region rfl ?_
          refine ev_q rfl (q_move (by conv => lhs; whnf) ?_)
          refine ev_q rfl (q_not rfl rfl ?_)
          refine ev_nil (hK27 _ ?_); clear hK27
          refine good_condF rfl ?_
          refine good_skip (hK26 _ ?_); clear hK26
          refine good_region rfl ?_
          refine ev_q rfl (q_move (by conv => lhs; whnf) ?_)
          refine ev_q rfl (q_move (by conv => lhs; whnf) ?_)
          refine ev_k rfl (k_lit tE69 zA2 rfl rfl (by decide) (by decide) rfl rfl rfl ?_)
          refine ev_k rfl (k_app tApp69 rfl rfl (by simp) rfl (.inr rfl) (by first | (simp [maxLen]; done) | (simp [maxLen]; omega)) (by first | (simp; done) | (simp; omega)) ?_)
          refine ev_q rfl (q_assign (by conv => lhs; whnf) ?_)
          refine ev_nil (hK18 _ ?_); clear hK18
          refine good_region rfl ?_
          refine ev_q rfl (q_int rfl rfl ?_)
          intro n28 hn28
          replace hn28 := in64 hn28 (by omega) (by omega)
          refine ev_q rfl (q_move (by conv => lhs; whnf) ?_)
          refine ev_nil ?_
          clear hK6
          refine ⟨i + 1, ?_, ?_, ?_⟩
          · exact ⟨by omega, all_extI (Q := fun _ (q : ByteArray) => rdB q) hJ hq hqb⟩
          · first | omega | (simp only []; omega) | (dsimp only; omega)
          · refine sub_weak ?_ ?_
            · exact weakH_row (rowEq (appG (p := rdN q) (by rw [hst, List.map_append]; rfl) (fI h21))) (weakH_none _)
            · refine weakE_upd ?e14 ?r14 (weakE_upd ?e13 ?r13 (weakE_upd ?e12 ?r12 (weakE_upd ?e4 ?r4 (weakE_upd ?e0 ?r0 (weakE_junk _ _)))))
              case e0 => first | rfl | exact fI (by omega) | (simp_all)
              case r0 => intro h hh; cases hh
              case e4 => first | rfl | exact fI (by omega) | (first | rfl | (rw [hst]; exact ownEq (by simp)))
              case r4 => intro h hh; simp [refs] at hh; subst hh; rfl
              case e12 => first | rfl | exact fI (by omega) | (simp_all)
              case r12 => intro h hh; cases hh
              case e13 => first | rfl | exact fI (by omega) | (simp_all)
              case r13 => intro h hh; cases hh
              case e14 => first | rfl | exact fI (by omega) | (simp_all)
              case r14 => intro h hh; cases hh
  · replace hb4 := seT hb4
    have hee := rl_d hb4
    refine ev_nil (hK3 _ ?_); clear hK3
    refine good_condT rfl ?_
    refine good_seq fun K29 hK29 => ?_
    refine good_region rfl ?_
    refine ev_q rfl (q_assign (by conv => lhs; whnf) ?_)
    refine ev_q rfl (q_assign (by conv => lhs; whnf) ?_)
    refine ev_nil (hK29 _ ?_); clear hK29
    refine good_ret ?_
    repeat (first | refine thenQ_ret ?_ | refine blockQ_ret ?_)
    refine fx_many rfl ?_
    refine fxs_tmp (by conv => lhs; whnf) ?_
    refine fxs_tmp (by conv => lhs; whnf) ?_
    refine fx_nil ?_
    clear hK2
    obtain ⟨e2, e⟩ := hee
    try rw [List.take_length]
    exact ⟨_, .tup (.cons (conv_nil rfl (by decide) (by rw [e]; rfl)) (.cons (conv_eq (by first | rfl | exact fT (by first | exact e2 | assumption) | exact fF (by first | exact e2 | assumption) | exact fT' (by first | exact e2 | assumption) | (exfalso; first | omega | grind))) (.nil))), weakH_row (rowEq (by first | (rw [e]; done) | (rw [e]; rfl))) (weakH_none _), refsIn_ok rfl⟩
theorem D_impl_ReadList (s : ByteArray) (hs : s.size ≤ 1048576) : Den Tryd.prog 45 [.s (.string s)] (.tup [.lst 1 ((rlL s).map ci), .s (.bool (decide (rlB s)))]) :=
  den_of_denX (D_impl_ReadList_X s hs) (by change (some (.tup [.lst 1 (List.take (rlL s).length ((rlL s).map ci)), .s (.bool (decide (rlB s)))]) : Option AV) = some (.tup [.lst 1 ((rlL s).map ci), .s (.bool (decide (rlB s)))]); simp only [takeMap])

end Go.Proofs.YtodghlkodiidaaaDoor.DFnExactReadWave
