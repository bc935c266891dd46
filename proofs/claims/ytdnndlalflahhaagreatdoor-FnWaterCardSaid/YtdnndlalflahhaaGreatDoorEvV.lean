/- Numerals, lists of numerals and pieces of texts: what is of no program. -/
import Derived.Test.YtdnndlalflahhaaGreatDoorEvU
set_option linter.unusedVariables false
set_option linter.unusedSimpArgs false
namespace Go.Proofs.YtdnndlalflahhaaGreatDoor.Ev
open Go Go.RowKit
theorem tx_app (a b : List UInt8) : tx a ++ tx b = tx (a ++ b) := by
  apply ByteArray.ext
  simp [tx]
theorem tx_data (l : List UInt8) : (tx l).data.toList = l := by simp [tx]
theorem tx_size (l : List UInt8) : (tx l).size = l.length := by simp [tx, ByteArray.size]
theorem tx_self (s : ByteArray) : tx s.data.toList = s := by cases s; simp [tx]
theorem tx_inj {a b : List UInt8} (h : tx a = tx b) : a = b := by rw [← tx_data a, h, tx_data]
theorem tx_eq {s : ByteArray} {l : List UInt8} (h : s.data.toList = l) : s = tx l := by rw [← h, tx_self]
theorem son_tx {l : List UInt8} {xs : List Int} (h : xs = l.map fun b => (b.toNat : Int)) : strOfNums xs = tx l := by
  subst h
  unfold strOfNums tx
  rw [List.map_map]
  congr 2
  conv => rhs; rw [← List.map_id l]
  exact List.map_congr_left fun b _ => by simp
/-! ### digits -/
def dgs (u : Nat) : List Int := (Lib.decDigits u).map fun b => (b.toNat : Int)
def itD (n : Int) : List Int := (Lib.itoa n).map fun b => (b.toNat : Int)
theorem dec_son {n : Int} {xs : List Int} (h : xs = itD n) : strOfNums xs = dec n := son_tx h
theorem u8n {k : Nat} (h : k < 256) : (UInt8.ofNat k).toNat = k := by simp [UInt8.toNat_ofNat']; omega
theorem dgs_step (u : Nat) : dgs u = (if u / 10 = 0 then [] else dgs (u / 10)) ++ [48 + ((u % 10 : Nat) : Int)] := by
  have e : (((UInt8.ofNat (48 + u % 10)).toNat : Nat) : Int) = 48 + ((u % 10 : Nat) : Int) := by rw [u8n (by omega)]; omega
  unfold dgs
  by_cases h : u < 10
  · rw [Lib.decDigits, dif_pos h, if_pos (by omega)]
    have : u % 10 = u := Nat.mod_eq_of_lt h
    simp only [List.map_cons, List.map_nil, List.nil_append]
    rw [← e, this]
  · rw [Lib.decDigits, dif_neg h, if_neg (by omega), List.map_append]
    simp only [List.map_cons, List.map_nil]
    rw [e]
theorem nDigits_le : ∀ (k u : Nat), u < 10 ^ (k + 1) → Lib.nDigits u ≤ k + 1
  | 0, u, h => by rw [Lib.nDigits_small (by simpa using h)]; omega
  | k + 1, u, h => by
    by_cases h2 : u < 10
    · rw [Lib.nDigits_small h2]; omega
    · rw [Lib.nDigits_big h2]
      have := nDigits_le k (u / 10) (by rw [Nat.pow_succ] at h; omega)
      omega
theorem dgs_len {u : Nat} (h : u ≤ 9223372036854775808) : (dgs u).length ≤ 19 := by
  unfold dgs; rw [List.length_map, Lib.decDigits_length]
  exact nDigits_le 18 u (by omega)
theorem itoa_len {n : Int} (h : -9223372036854775808 ≤ n) (h2 : n ≤ 9223372036854775807) : (Lib.itoa n).length ≤ 20 := by
  have h3 := dgs_len (u := n.natAbs) (by omega)
  unfold dgs at h3; rw [List.length_map] at h3
  unfold Lib.itoa
  split
  · simp only [List.length_cons]; omega
  · rw [show n.toNat = n.natAbs by omega]; omega
theorem dec_size {n : Int} (h : -9223372036854775808 ≤ n) (h2 : n ≤ 9223372036854775807) : (dec n).size ≤ 20 := by
  unfold dec; rw [tx_size]; exact itoa_len h h2
theorem itD_pos {n : Int} (h : 0 ≤ n) : itD n = dgs n.natAbs := by
  unfold itD Lib.itoa dgs; rw [if_neg (by omega), show n.toNat = n.natAbs by omega]
theorem itD_neg {n : Int} (h : n < 0) : itD n = 45 :: dgs n.natAbs := by
  unfold itD Lib.itoa dgs; rw [if_pos h]; rfl
theorem tmod_pos {m : Int} (h : 0 ≤ m) : Int.tmod m 10 = m % 10 := Int.tmod_eq_emod_of_nonneg h
theorem tmod_neg {m : Int} (h : m ≤ 0) : Int.tmod m 10 = -((-m) % 10) := by
  have : m = -(-m) := by omega
  rw [this, Int.neg_tmod, Int.tmod_eq_emod_of_nonneg (by omega)]; simp
theorem tdiv_pos {m : Int} (h : 0 ≤ m) : Int.tdiv m 10 = m / 10 := Int.tdiv_eq_ediv_of_nonneg h
theorem tdiv_neg {m : Int} (h : m ≤ 0) : Int.tdiv m 10 = -((-m) / 10) := by
  have : m = -(-m) := by omega
  rw [this, Int.neg_tdiv, Int.tdiv_eq_ediv_of_nonneg (by omega)]; simp
def decI (n m : Int) (L : List Int) : Prop := (0 ≤ n → 0 ≤ m ∧ m ≤ n) ∧ (n ≤ 0 → n ≤ m ∧ m ≤ 0) ∧ dgs n.natAbs = (if m = 0 then [] else dgs m.natAbs) ++ L.reverse
theorem decI_0 {n : Int} (h : n ≠ 0) : decI n n [] := ⟨fun h => ⟨h, Int.le_refl _⟩, fun h => ⟨Int.le_refl _, h⟩, by rw [if_neg h]; simp⟩
theorem decI_s {n m m' d : Int} {L : List Int} (h : decI n m L) (hm : m ≠ 0) (hm' : m' = Int.tdiv m 10) (hd : d = 48 + ((m.natAbs % 10 : Nat) : Int)) : decI n m' (L ++ [d]) := by
  obtain ⟨h1, h2, h3⟩ := h
  have hab : m'.natAbs = m.natAbs / 10 := by
    by_cases h0 : 0 ≤ m
    · rw [hm', tdiv_pos h0]; omega
    · rw [hm', tdiv_neg (by omega)]; omega
  have hz : m' = 0 ↔ m.natAbs / 10 = 0 := by omega
  refine ⟨fun h => ?_, fun h => ?_, ?_⟩
  · have := h1 h; rw [hm', tdiv_pos this.1]; omega
  · have := h2 h; rw [hm', tdiv_neg this.2]; omega
  · rw [h3, if_neg hm, dgs_step m.natAbs, hd]
    by_cases hz2 : m' = 0
    · rw [if_pos hz2, if_pos (hz.1 hz2)]; simp
    · rw [if_neg hz2, if_neg (fun h => hz2 (hz.2 h)), hab]; simp
theorem decI_len {n m : Int} {L : List Int} (h : decI n m L) (hn : -9223372036854775808 ≤ n ∧ n ≤ 9223372036854775807) : L.length ≤ 19 := by
  have h2 := dgs_len (u := n.natAbs) (by omega)
  rw [h.2.2] at h2
  rw [List.length_append, List.length_reverse] at h2
  omega
theorem decI_bd {n m d : Int} {L : List Int} (h : decI n m L) (hm : m ≠ 0) : (dgs m.natAbs).length + L.length = (dgs n.natAbs).length := by
  rw [h.2.2, if_neg hm]; simp
theorem decI_end {n : Int} {L : List Int} (h : decI n 0 L) : dgs n.natAbs = L.reverse := by rw [h.2.2, if_pos rfl]; rfl
theorem join_snoc {xs : List (List UInt8)} {x sep : List UInt8} : Lib.join (xs ++ [x]) sep = if xs = [] then x else Lib.join xs sep ++ sep ++ x := by
  cases xs with
  | nil => rw [if_pos rfl]; exact Lib.join_one x sep
  | cons y r =>
    rw [if_neg (by simp), List.cons_append, Lib.join_cons, Lib.join_cons]
    simp [Lib.joinTail]
def ltx (L : List Int) : List UInt8 := Lib.join (L.map Lib.itoa) [44]
def inI (n : Int) : Prop := -9223372036854775808 ≤ n ∧ n ≤ 9223372036854775807
theorem join_take {α : Type} (f : α → List UInt8) (sep : List UInt8) {L : List α} {i : Nat} {x : α} (h : L[i]? = some x) : Lib.join ((L.take (i + 1)).map f) sep = if i = 0 then f x else Lib.join ((L.take i).map f) sep ++ sep ++ f x := by
  have hl := (List.getElem?_eq_some_iff.1 h).1
  rw [List.take_add_one, h]
  show Lib.join ((L.take i ++ [x]).map f) sep = _
  rw [List.map_append, List.map_cons, List.map_nil, join_snoc]
  by_cases h0 : i = 0
  · subst h0; simp
  · rw [if_neg h0, if_neg (by
      intro e
      have e2 := congrArg List.length e
      rw [List.length_map, List.length_take, List.length_nil] at e2
      omega)]
theorem join_len {α : Type} (f : α → List UInt8) (sep : List UInt8) {L : List α} {m : Nat} (h : ∀ x ∈ L, (f x).length + sep.length ≤ m) : ∀ i : Nat, i ≤ L.length → (Lib.join ((L.take i).map f) sep).length ≤ m * i
  | 0, _ => by simp [Lib.join_nil]
  | i + 1, hi => by
    have ih := join_len f sep h i (by omega)
    have hx : L[i]? = some (L[i]'(by omega)) := List.getElem?_eq_getElem (by omega)
    have hm := h _ (List.getElem_mem (by omega : i < L.length))
    rw [join_take f sep hx, Nat.mul_succ]
    split
    · omega
    · simp only [List.length_append]; omega
theorem ltx_len {L : List Int} (h : ∀ x ∈ L, inI x) {i : Nat} (hi : i ≤ L.length) : (ltx (L.take i)).length ≤ 21 * i :=
  join_len Lib.itoa [44] (fun x hx => by have := itoa_len (h x hx).1 (h x hx).2; simp; omega) i hi
theorem ltx_take {L : List Int} {i : Nat} {x : Int} (h : L[i]? = some x) : ltx (L.take (i + 1)) = if i = 0 then Lib.itoa x else ltx (L.take i) ++ [44] ++ Lib.itoa x := join_take Lib.itoa [44] h
def fitsL (L : List Int) : Prop := L.length ≤ 64 ∧ ∀ x ∈ L, -1000000000000 ≤ x ∧ x ≤ 1000000000000
noncomputable instance (L : List Int) : Decidable (fitsL L) := Classical.propDecidable _
noncomputable def lt (L : List Int) : ByteArray := if fitsL L then (if L = [] then tx [45] else tx (ltx L)) else tx []
theorem lt_no {L : List Int} (h : ¬ fitsL L) : lt L = tx [] := if_neg h
theorem lt_0 : lt [] = tx [45] := by unfold lt; rw [if_pos ⟨by simp, by intro x h; cases h⟩, if_pos rfl]
theorem lt_ok {L : List Int} (h : fitsL L) (h0 : L ≠ []) : lt L = tx (ltx L) := by unfold lt; rw [if_pos h, if_neg h0]
/-! ### numbers read -/
def dig (c : UInt8) : Prop := 48 ≤ c.toNat ∧ c.toNat ≤ 57
instance (c : UInt8) : Decidable (dig c) := by unfold dig; infer_instance
def valD (l : List UInt8) : Nat := l.foldl (fun a c => a * 10 + (c.toNat - 48)) 0
theorem valD_snoc (l : List UInt8) (c : UInt8) : valD (l ++ [c]) = valD l * 10 + (c.toNat - 48) := by simp [valD, List.foldl_append]
theorem valD_dec (u : Nat) : valD (Lib.decDigits u) = u := by
  induction u using Nat.strongRecOn with
  | _ u ih =>
    rw [Lib.decDigits]
    split
    · rename_i h; simp [valD, UInt8.toNat_ofNat']; omega
    · rw [valD_snoc, ih (u / 10) (by omega), u8n (by omega)]; omega
theorem dec_dig (u : Nat) : ∀ c ∈ Lib.decDigits u, dig c := by
  induction u using Nat.strongRecOn with
  | _ u ih =>
    rw [Lib.decDigits]
    split
    · rename_i h; intro c hc; have hc := List.mem_singleton.1 hc; subst hc; unfold dig; rw [u8n (by omega)]; omega
    · intro c hc
      rcases List.mem_append.1 hc with h | h
      · exact ih (u / 10) (by omega) c h
      · have h := List.mem_singleton.1 h; subst h; unfold dig; rw [u8n (by omega)]; omega
theorem dec_ne (u : Nat) : Lib.decDigits u ≠ [] := by
  rw [Lib.decDigits]; split <;> simp
theorem dec_head (u : Nat) {c : UInt8} (h : (Lib.decDigits u).head? = some c) (hc : c.toNat = 48) : u = 0 := by
  induction u using Nat.strongRecOn generalizing c with
  | _ u ih =>
    rw [Lib.decDigits] at h
    split at h
    · rename_i h2; have h := Option.some.inj h; subst h; rw [u8n (by omega)] at hc; omega
    · rename_i h2
      obtain ⟨y, r, e⟩ := List.exists_cons_of_ne_nil (dec_ne (u / 10))
      rw [e] at h
      simp at h; subst h
      have := ih (u / 10) (by omega) (c := y) (by rw [e]; rfl) hc
      omega
theorem dec_len18 {u : Nat} : u < 1000000000000000000 ↔ (Lib.decDigits u).length ≤ 18 := by
  rw [Lib.decDigits_length]
  constructor
  · intro h; exact nDigits_le 17 u (by omega)
  · intro h
    have h1 := Lib.lt_pow_nDigits u
    have h2 : 10 ^ Lib.nDigits u ≤ 10 ^ 18 := Nat.pow_le_pow_right (by omega) h
    omega
def canD (l : List UInt8) : Prop := l ≠ [] ∧ (∀ c ∈ l, dig c) ∧ ∀ c, l.head? = some c → c.toNat = 48 → l.length = 1
theorem canD_dec (u : Nat) : canD (Lib.decDigits u) := ⟨dec_ne u, dec_dig u, fun c h hc => by
  have := dec_head u h hc; subst this; rw [Lib.decDigits, dif_pos (by omega)]; rfl⟩
theorem dec_val : ∀ (n : Nat) (l : List UInt8), l.length = n → canD l → Lib.decDigits (valD l) = l ∧ (valD l = 0 → l.length = 1)
  | 0, l, hl, h => absurd (List.eq_nil_of_length_eq_zero hl) h.1
  | n + 1, l, hl, h => by
    obtain ⟨h1, h2, h3⟩ := h
    have e : l = l.dropLast ++ [l.getLast h1] := (List.dropLast_concat_getLast h1).symm
    generalize l.dropLast = es at e
    generalize l.getLast h1 = c at e
    subst e
    have hc : dig c := h2 c (by simp)
    unfold dig at hc
    rw [valD_snoc]
    by_cases h0 : es = []
    · subst h0
      refine ⟨?_, fun _ => rfl⟩
      have e1 : valD [] * 10 + (c.toNat - 48) = c.toNat - 48 := by simp [valD]
      rw [e1, Lib.decDigits, dif_pos (by omega), show 48 + (c.toNat - 48) = c.toNat by omega]
      simp
    · obtain ⟨y, r, ey⟩ := List.exists_cons_of_ne_nil h0
      have hne : ∀ c', es.head? = some c' → c'.toNat = 48 → False := fun c' hh h48 => by
        have := h3 c' (by rw [ey] at hh ⊢; simpa using hh) h48
        rw [ey] at this; simp at this
      have ih := dec_val n es (by simp at hl; omega) ⟨h0, fun x hx => h2 x (by simp [hx]), fun c' hh h48 => (hne c' hh h48).elim⟩
      have hv : valD es ≠ 0 := fun hz => by
        have e2 := ih.1
        rw [hz, Lib.decDigits, dif_pos (by omega)] at e2
        exact hne (UInt8.ofNat (48 + 0)) (by rw [← e2]; rfl) (by rw [u8n (by omega)])
      refine ⟨?_, fun hz => by omega⟩
      rw [Lib.decDigits, dif_neg (by omega), show (valD es * 10 + (c.toNat - 48)) / 10 = valD es by omega, ih.1, show (valD es * 10 + (c.toNat - 48)) % 10 = c.toNat - 48 by omega, show 48 + (c.toNat - 48) = c.toNat by omega]
      simp
theorem itoa_inj {n m : Int} (h : Lib.itoa n = Lib.itoa m) : n = m := by
  have nd : ∀ u, (Lib.decDigits u).head? ≠ some 45 := fun u e => by
    have := dec_dig u 45 (List.mem_of_head? e)
    unfold dig at this; simp at this
  unfold Lib.itoa at h
  split at h <;> split at h
  · have := congrArg valD (List.cons.inj h).2
    rw [valD_dec, valD_dec] at this; omega
  · exact absurd (by rw [← h]; rfl) (nd m.toNat)
  · exact absurd (by rw [h]; rfl) (nd n.toNat)
  · have := congrArg valD h
    rw [valD_dec, valD_dec] at this; omega
def rdB (s : ByteArray) : Prop := ∃ n : Int, s = dec n ∧ n.natAbs < 1000000000000000000
noncomputable instance (s : ByteArray) : Decidable (rdB s) := Classical.propDecidable _
noncomputable def rdN (s : ByteArray) : Int := if h : rdB s then h.choose else 0
theorem rdN_eq {n : Int} (h : n.natAbs < 1000000000000000000) : rdB (dec n) ∧ rdN (dec n) = n := by
  have hb : rdB (dec n) := ⟨n, rfl, h⟩
  refine ⟨hb, ?_⟩
  unfold rdN
  rw [dif_pos hb]
  exact (itoa_inj (tx_inj hb.choose_spec.1)).symm
theorem rdN_of {s : ByteArray} (h : rdB s) : s = dec (rdN s) ∧ (rdN s).natAbs < 1000000000000000000 := by
  obtain ⟨n, rfl, hn⟩ := h
  have := (rdN_eq hn).2
  rw [this]; exact ⟨rfl, hn⟩
theorem rdN_no {s : ByteArray} (h : ¬ rdB s) : rdN s = 0 := by unfold rdN; rw [dif_neg h]
theorem pU_ok {M : Nat} : ∀ (l : List UInt8) (acc : Nat), (∀ c ∈ l, dig c) → l.foldl (fun a c => a * 10 + (c.toNat - 48)) acc < 1000000000000000000 → 1000000000000000000 ≤ M → Lib.parseUintM M acc l = .ok (l.foldl (fun a c => a * 10 + (c.toNat - 48)) acc)
  | [], acc, _, _, _ => rfl
  | c :: r, acc, hd, hv, hM => by
    have mono : ∀ (l : List UInt8) (a : Nat), a ≤ l.foldl (fun a c => a * 10 + (c.toNat - 48)) a := by
      intro l
      induction l with
      | nil => intro a; exact Nat.le_refl _
      | cons x l ih => intro a; exact Nat.le_trans (by omega) (ih (a * 10 + (x.toNat - 48)))
    have hc := hd c (by simp)
    have hm := mono r (acc * 10 + (c.toNat - 48))
    rw [List.foldl_cons] at hv ⊢
    rw [Lib.parseUintM, if_pos (show 48 ≤ c.toNat ∧ c.toNat ≤ 57 from hc), if_neg (by omega), if_neg (by omega)]
    exact pU_ok r _ (fun x hx => hd x (by simp [hx])) hv hM
theorem parse_itoa {n : Int} (h : n.natAbs < 1000000000000000000) : Lib.parseIntB 64 (Lib.itoa n) = .ok n := by
  have main : ∀ u : Nat, u < 1000000000000000000 → Lib.parseUintB 64 (Lib.decDigits u) = .ok u := fun u hu => by
    unfold Lib.parseUintB
    rw [if_neg (dec_ne u)]
    have e := valD_dec u
    have := pU_ok (M := 2 ^ 64 - 1) (Lib.decDigits u) 0 (dec_dig u) (by show valD _ < _; rw [e]; exact hu) (by decide)
    rw [this]; show Lib.NumEnd.ok (valD _) = _; rw [e]
  unfold Lib.itoa
  split
  · rename_i hn
    unfold Lib.parseIntB
    simp only
    have e45 : (45 : UInt8).toNat = 45 := rfl
    rw [if_pos (.inr e45), main n.natAbs h]
    simp only [e45]
    rw [if_neg (by simp), if_neg (by simp; omega), if_pos trivial]
    congr 1; omega
  · rename_i hn
    have m := main n.toNat (by omega)
    obtain ⟨c, r, e⟩ := List.exists_cons_of_ne_nil (dec_ne n.toNat)
    have hc := dec_dig n.toNat c (by rw [e]; simp)
    unfold dig at hc
    rw [e] at m ⊢
    unfold Lib.parseIntB
    simp only
    rw [if_neg (by omega), m]
    simp only
    rw [if_neg (by simp; omega), if_neg (by intro h; omega), if_neg (by omega)]
    congr 1; omega
theorem trim_len {n : Int} : (Lib.trimPrefix (Lib.itoa n) [45]).length = (Lib.decDigits n.natAbs).length := by
  unfold Lib.itoa Lib.trimPrefix
  split
  · rw [if_pos (by simp [Lib.hasPrefix])]; simp
  · obtain ⟨c, r, e⟩ := List.exists_cons_of_ne_nil (dec_ne n.toNat)
    have hc := dec_dig n.toNat c (by rw [e]; simp)
    unfold dig at hc
    rw [show n.natAbs = n.toNat by omega, if_neg]
    rw [e]
    simp [Lib.hasPrefix]
    intro h
    subst h
    simp at hc
theorem trim_18 {s : ByteArray} {n : Int} (h : s = dec n) : (tx (Lib.trimPrefix s.data.toList [45])).size ≤ 18 ↔ n.natAbs < 1000000000000000000 := by
  subst h
  rw [tx_size, dec_len18]
  unfold dec
  rw [tx_data, trim_len]
/-! ### pieces -/
def pcs (c : UInt8) : List UInt8 → List (List UInt8)
  | [] => [[]]
  | b :: l => if b = c then [] :: pcs c l else match pcs c l with
    | p :: ps => (b :: p) :: ps
    | [] => [[b]]
theorem pcs_ne (c : UInt8) (l : List UInt8) : pcs c l ≠ [] := by
  cases l with
  | nil => simp [pcs]
  | cons b l => unfold pcs; split; · simp
                split <;> simp
theorem pcs_no {c : UInt8} : ∀ {p : List UInt8}, (∀ x ∈ p, x ≠ c) → pcs c p = [p]
  | [], _ => rfl
  | b :: l, h => by
    unfold pcs
    rw [if_neg (h b (by simp)), pcs_no (p := l) (fun x hx => h x (by simp [hx]))]
theorem pcs_hit {c : UInt8} {r : List UInt8} : ∀ {p : List UInt8}, (∀ x ∈ p, x ≠ c) → pcs c (p ++ c :: r) = p :: pcs c r
  | [], _ => by simp [pcs]
  | b :: l, h => by
    rw [List.cons_append]
    conv => lhs; unfold pcs
    rw [if_neg (h b (by simp)), pcs_hit (p := l) (fun x hx => h x (by simp [hx]))]
theorem pcs_len {c : UInt8} : ∀ l : List UInt8, (pcs c l).length ≤ l.length + 1
  | [] => by simp [pcs]
  | b :: l => by
    have := pcs_len (c := c) l
    unfold pcs
    split
    · simp; omega
    · split
      · rename_i e; rw [e] at this; simp at this ⊢; omega
      · simp
theorem join_pcs {c : UInt8} : ∀ l : List UInt8, Lib.join (pcs c l) [c] = l
  | [] => by simp [pcs, Lib.join_one]
  | b :: l => by
    have ih := join_pcs (c := c) l
    unfold pcs
    split
    · rename_i h
      obtain ⟨p, ps, e⟩ := List.exists_cons_of_ne_nil (pcs_ne c l)
      rw [e] at ih ⊢
      rw [Lib.join_cons] at ih ⊢
      rw [← ih, h]
      simp [Lib.joinTail]
    · split
      · rename_i p ps e
        rw [e, Lib.join_cons] at ih
        rw [Lib.join_cons, ← ih]; rfl
      · rename_i e; exact absurd e (pcs_ne c l)
theorem index_one {c : UInt8} : ∀ l : List UInt8, (Lib.index l [c] = -1 ∧ ∀ x ∈ l, x ≠ c) ∨ ∃ p r, l = p ++ c :: r ∧ Lib.index l [c] = p.length ∧ ∀ x ∈ p, x ≠ c
  | [] => .inl ⟨rfl, fun x h => by cases h⟩
  | b :: l => by
    by_cases h : b = c
    · subst h
      refine .inr ⟨[], l, rfl, ?_, fun x h => by cases h⟩
      simp [Lib.index]
    · have hp : ([c] : List UInt8).isPrefixOf (b :: l) = false := by
        simp [List.isPrefixOf]; exact fun e => h e.symm
      rcases index_one (c := c) l with ⟨h1, h2⟩ | ⟨p, r, h1, h2, h3⟩
      · refine .inl ⟨?_, fun x hx => ?_⟩
        · unfold Lib.index; rw [hp, h1]; rfl
        · rcases List.mem_cons.1 hx with e | e
          · subst e; exact h
          · exact h2 x e
      · refine .inr ⟨b :: p, r, by rw [h1]; rfl, ?_, fun x hx => ?_⟩
        · unfold Lib.index
          rw [hp, h2]
          have : (((p.length : Nat) : Int) == -1) = false := by rw [beq_eq_false_iff_ne]; omega
          rw [this]; simp
        · rcases List.mem_cons.1 hx with e | e
          · subst e; exact h
          · exact h3 x e
theorem splitK_pcs {c : UInt8} : ∀ (k : Nat) (l : List UInt8), ((pcs c l).length ≤ k + 1 → Lib.splitK [c] 0 k l = pcs c l) ∧ (¬ (pcs c l).length ≤ k + 1 → (Lib.splitK [c] 0 k l).length = k + 1)
  | 0, l => by
    refine ⟨fun h => ?_, fun _ => rfl⟩
    rcases index_one (c := c) l with ⟨h1, h2⟩ | ⟨p, r, h1, h2, h3⟩
    · rw [pcs_no h2]; rfl
    · rw [h1, pcs_hit h3] at h
      have := List.length_pos_iff.2 (pcs_ne c r)
      rw [List.length_cons] at h; omega
  | k + 1, l => by
    rcases index_one (c := c) l with ⟨h1, h2⟩ | ⟨p, r, h1, h2, h3⟩
    · rw [pcs_no h2]
      unfold Lib.splitK
      rw [h1]
      exact ⟨fun _ => rfl, fun h => absurd (by simp) h⟩
    · obtain ⟨i1, i2⟩ := splitK_pcs (c := c) k r
      have e : Lib.splitK [c] 0 (k + 1) l = p :: Lib.splitK [c] 0 k r := by
        have h4 : (((p.length : Nat) : Int) == -1) = false := by rw [beq_eq_false_iff_ne]; omega
        conv => lhs; unfold Lib.splitK
        rw [h2, h4, h1]
        simp
      rw [e, h1, pcs_hit h3]
      refine ⟨fun h => ?_, fun h => ?_⟩
      · rw [i1 (by rw [List.length_cons] at h; omega)]
      · rw [List.length_cons, i2 (by rw [List.length_cons] at h; omega)]
theorem pcs_drop_hit {c : UInt8} {l : List UInt8} {f i : Nat} (hf : f ≤ i) (hi : l[i]? = some c) (h : ∀ j b, f ≤ j → j < i → l[j]? = some b → b ≠ c) : pcs c (l.drop f) = (l.drop f).take (i - f) :: pcs c (l.drop (i + 1)) := by
  have hl := (List.getElem?_eq_some_iff.1 hi).1
  have e : l.drop f = (l.drop f).take (i - f) ++ c :: l.drop (i + 1) := by
    conv => lhs; rw [← List.take_append_drop (i - f) (l.drop f)]
    rw [List.drop_drop, show f + (i - f) = i by omega, List.drop_eq_getElem_cons hl]
    rw [List.getElem?_eq_getElem hl] at hi
    rw [Option.some.inj hi]
  conv => lhs; rw [e]
  refine pcs_hit fun x hx => ?_
  obtain ⟨j, hj⟩ := List.getElem?_of_mem hx
  have hjl : j < i - f := by have := (List.getElem?_eq_some_iff.1 hj).1; simp at this; omega
  rw [List.getElem?_take_of_lt hjl, List.getElem?_drop] at hj
  exact h (f + j) x (by omega) (by omega) hj
theorem pcs_drop_no {c : UInt8} {l : List UInt8} {f : Nat} (h : ∀ j b, f ≤ j → l[j]? = some b → b ≠ c) : pcs c (l.drop f) = [l.drop f] := by
  refine pcs_no fun x hx => ?_
  obtain ⟨j, hj⟩ := List.getElem?_of_mem hx
  rw [List.getElem?_drop] at hj
  exact h (f + j) x (by omega) hj
/-! ### lists read -/
def pieces (c : UInt8) (s : ByteArray) : List ByteArray := (pcs c s.data.toList).map tx
theorem pieces_len {c : UInt8} {s : ByteArray} : (pieces c s).length ≤ s.size + 1 := by
  unfold pieces; rw [List.length_map]; have := pcs_len (c := c) s.data.toList; rw [Lib.size_eq]; exact this
def splN (c : UInt8) (k : Nat) (s : ByteArray) : List ByteArray := Lib.splitB (tx [c]) 0 (min k (s.size + 1) - 1) s
theorem splN_eq {c : UInt8} {k : Nat} {s : ByteArray} (h : (pieces c s).length ≤ k) (hk : 1 ≤ k) : splN c k s = pieces c s := by
  have hl := pieces_len (c := c) (s := s)
  have hd := Lib.splitB_data (tx [c]) 0 (min k (s.size + 1) - 1) s
  rw [tx_data, (splitK_pcs (c := c) _ s.data.toList).1 (by unfold pieces at h hl; rw [List.length_map] at h hl; omega)] at hd
  unfold splN pieces
  rw [← hd, List.map_map]
  conv => lhs; rw [← List.map_id (Lib.splitB (tx [c]) 0 (min k (s.size + 1) - 1) s)]
  exact List.map_congr_left fun b _ => (tx_self b).symm
theorem splN_len {c : UInt8} {k : Nat} {s : ByteArray} (h : ¬ (pieces c s).length ≤ k) (hk : 1 ≤ k) : (splN c k s).length = k := by
  have hl := pieces_len (c := c) (s := s)
  have hd := Lib.splitB_data (tx [c]) 0 (min k (s.size + 1) - 1) s
  have e := (splitK_pcs (c := c) (min k (s.size + 1) - 1) s.data.toList).2 (by unfold pieces at h hl; rw [List.length_map] at h hl; rw [tx_data] at hd; omega)
  rw [tx_data] at hd
  rw [← hd, List.length_map] at e
  unfold splN; omega
theorem splN_le {c : UInt8} {k : Nat} {s : ByteArray} (hk : 1 ≤ k) : (splN c k s).length ≤ k := by
  by_cases h : (pieces c s).length ≤ k
  · rw [splN_eq h hk]; exact h
  · rw [splN_len h hk]; exact Nat.le_refl _
theorem dec_pieces {s : ByteArray} {L : List Int} {c : UInt8} (h : pieces c s = L.map dec) : s = tx (Lib.join (L.map Lib.itoa) [c]) := by
  have e := join_pcs (c := c) s.data.toList
  have e2 : pcs c s.data.toList = L.map Lib.itoa := by
    have := congrArg (List.map (fun b : ByteArray => b.data.toList)) h
    unfold pieces at this
    rw [List.map_map, List.map_map] at this
    have e3 : ((fun b : ByteArray => b.data.toList) ∘ tx) = id := by funext l; simp [tx_data]
    have e4 : ((fun b : ByteArray => b.data.toList) ∘ dec) = Lib.itoa := by funext n; simp [dec, tx_data]
    rw [e3, e4, List.map_id] at this
    exact this
  rw [e2] at e
  rw [e, tx_self]
def inM (x : Int) : Prop := -1000000000000 ≤ x ∧ x ≤ 1000000000000
def rlP (s : ByteArray) : Prop := (pieces 44 s).length ≤ 64 ∧ ∀ p ∈ pieces 44 s, rdB p ∧ inM (rdN p)
def rlB (s : ByteArray) : Prop := s = tx [45] ∨ rlP s
noncomputable instance (s : ByteArray) : Decidable (rlP s) := Classical.propDecidable _
noncomputable instance (s : ByteArray) : Decidable (rlB s) := Classical.propDecidable _
noncomputable def rlL (s : ByteArray) : List Int := if s = tx [45] then [] else if rlP s then (pieces 44 s).map rdN else []
theorem rl_d {s : ByteArray} (h : s = tx [45]) : rlB s ∧ rlL s = [] := ⟨.inl h, if_pos h⟩
theorem rl_y {s : ByteArray} (h : ¬ s = tx [45]) (h2 : rlP s) : rlB s ∧ rlL s = (pieces 44 s).map rdN := ⟨.inr h2, by unfold rlL; rw [if_neg h, if_pos h2]⟩
theorem rl_n {s : ByteArray} (h : ¬ s = tx [45]) (h2 : ¬ rlP s) : ¬ rlB s ∧ rlL s = [] := ⟨fun h3 => h3.elim h h2, by unfold rlL; rw [if_neg h, if_neg h2]⟩
theorem rlL_len {s : ByteArray} : (rlL s).length ≤ 64 := by
  unfold rlL; split; · simp
  split
  · rename_i h; rw [List.length_map]; exact h.1
  · simp
theorem splN_mem {s : ByteArray} (h : rlP s) : splN 44 65 s = pieces 44 s := splN_eq (by have := h.1; omega) (by omega)
theorem rlP_iff {s : ByteArray} (h : ∀ p ∈ splN 44 65 s, rdB p) : rlP s ↔ lt ((splN 44 65 s).map rdN) = s := by
  have hm : splN 44 65 s = ((splN 44 65 s).map rdN).map dec := by
    rw [List.map_map]
    conv => lhs; rw [← List.map_id (splN 44 65 s)]
    exact List.map_congr_left fun p hp => (rdN_of (h p hp)).1
  have hne : (splN 44 65 s) ≠ [] := by
    by_cases hl : (pieces 44 s).length ≤ 65
    · rw [splN_eq hl (by omega)]; unfold pieces; intro e; exact pcs_ne 44 _ (List.map_eq_nil_iff.1 e)
    · intro e; have := splN_len hl (by omega); rw [e] at this; simp at this
  constructor
  · intro hr
    have e := splN_mem hr
    have hf : fitsL ((splN 44 65 s).map rdN) := ⟨by rw [List.length_map, e]; exact hr.1, fun x hx => by
      obtain ⟨p, hp, rfl⟩ := List.mem_map.1 hx
      rw [e] at hp; exact (hr.2 p hp).2⟩
    rw [lt_ok hf (fun e => hne (List.map_eq_nil_iff.1 e))]
    exact (dec_pieces (c := 44) (by rw [← e]; exact hm)).symm
  · intro he
    have hf : fitsL ((splN 44 65 s).map rdN) := by
      apply Classical.byContradiction
      intro hn
      rw [lt_no hn] at he
      have hp : pieces 44 s = [tx []] := by unfold pieces; rw [← he, tx_data]; rfl
      have hq : splN 44 65 s = [tx []] := by rw [splN_eq (by rw [hp]; simp) (by omega), hp]
      obtain ⟨n, e1, -⟩ := h (tx []) (by rw [hq]; simp)
      have e2 := tx_inj e1
      unfold Lib.itoa at e2
      split at e2
      · cases e2
      · exact dec_ne _ e2.symm
    have hl : (pieces 44 s).length ≤ 65 := by
      apply Classical.byContradiction
      intro hn
      have := splN_len hn (by omega)
      have h2 := hf.1
      rw [List.length_map] at h2; omega
    have e := splN_eq hl (by omega)
    have h2 := hf.1
    rw [List.length_map, e] at h2
    refine ⟨h2, fun p hp => ?_⟩
    rw [← e] at hp
    exact ⟨h p hp, hf.2 _ (List.mem_map_of_mem hp)⟩
end Go.Proofs.YtdnndlalflahhaaGreatDoor.Ev
