/- Numbers read digit by digit. -/
import Derived.Test.YtdnndlalflahhaaGreatDoorEvV
import Derived.Test.YtdnndlalflahhaaGreatDoorEvX
set_option linter.unusedVariables false
set_option linter.unusedSimpArgs false
namespace Go.Proofs.YtdnndlalflahhaaGreatDoor.Ev
open Go Go.RowKit
theorem ba_get {s : ByteArray} {i : Nat} : s[i]? = s.data.toList[i]? := by
  have hs : s.data.toList.length = s.size := (Lib.size_eq s).symm
  by_cases h : i < s.size
  · rw [getElem?_pos s i h, List.getElem?_eq_getElem (by omega)]; rfl
  · rw [getElem?_neg s i h, List.getElem?_eq_none (by omega)]
theorem ba_len {s : ByteArray} : s.data.toList.length = s.size := (Lib.size_eq s).symm
theorem parse_in {l : List UInt8} {v : Int} (h : Lib.parseIntB 64 l = .ok v) : inI v := by
  unfold Lib.parseIntB at h
  split at h
  · cases h
  · simp only at h
    split at h
    · cases h
    · cases h
    · rename_i u hu
      split at h
      · cases h
      · split at h
        · cases h
        · rename_i c1 c2
          cases h
          unfold inI
          split
          · rename_i hn
            have : ¬ 2 ^ (64 - 1) < u := fun hc => c2 ⟨hn, hc⟩
            omega
          · rename_i hn
            have : ¬ 2 ^ (64 - 1) ≤ u := fun hc => c1 ⟨hn, hc⟩
            omega
theorem rd_c0 {s : ByteArray} (h : ∀ v, Lib.parseIntB 64 s.data.toList ≠ .ok v) : ¬ rdB s := fun ⟨n, e, hn⟩ => by
  subst e
  exact h n (by unfold dec; rw [tx_data]; exact parse_itoa hn)
theorem rd_v {s : ByteArray} {v n : Int} (h : Lib.parseIntB 64 s.data.toList = .ok v) (e : s = dec n) (hn : n.natAbs < 1000000000000000000) : v = n := by
  subst e
  unfold dec at h
  rw [tx_data, parse_itoa hn] at h
  cases h; rfl
theorem rd_c1 {s : ByteArray} {v : Int} (h : Lib.parseIntB 64 s.data.toList = .ok v) (h2 : ¬ (tx (Lib.trimPrefix s.data.toList [45])).size ≤ 18) : ¬ rdB s := fun ⟨n, e, hn⟩ => h2 ((trim_18 e).2 hn)
theorem rd_c2 {s : ByteArray} {v : Int} (h : Lib.parseIntB 64 s.data.toList = .ok v) (h2 : ¬ dec v = s) : ¬ rdB s := fun ⟨n, e, hn⟩ => h2 (by rw [rd_v h e hn]; exact e.symm)
theorem rd_c3 {s : ByteArray} {v : Int} (h2 : dec v = s) (h3 : (tx (Lib.trimPrefix s.data.toList [45])).size ≤ 18) : rdB s ∧ rdN s = v := by
  have hv := (trim_18 h2.symm).1 h3
  subst h2
  exact rdN_eq hv
/-! ### digit by digit -/
def sg (s : ByteArray) : Nat := if s.data.toList[0]? = some 45 then 1 else 0
def dsg (s : ByteArray) : List UInt8 := s.data.toList.drop (sg s)
theorem sg_1 {s : ByteArray} (h : s.data.toList[0]? = some 45) : sg s = 1 := if_pos h
theorem sg_0 {s : ByteArray} (h : ¬ s.data.toList[0]? = some 45) : sg s = 0 := if_neg h
def numC (s : ByteArray) : Prop := canD (dsg s) ∧ (dsg s).length ≤ 18 ∧ (sg s = 1 → ∀ c, (dsg s).head? = some c → c.toNat ≠ 48)
theorem num_of {n : Int} (hn : n.natAbs < 1000000000000000000) : numC (dec n) := by
  have hl : (dec n).data.toList = Lib.itoa n := by unfold dec; rw [tx_data]
  have h18 := dec_len18.1 hn
  unfold numC dsg
  by_cases h : n < 0
  · have e : (dec n).data.toList = 45 :: Lib.decDigits n.natAbs := by rw [hl]; unfold Lib.itoa; rw [if_pos h]
    have hs : sg (dec n) = 1 := sg_1 (by rw [e]; rfl)
    rw [hs, e]
    refine ⟨canD_dec _, h18, fun _ c hc h48 => ?_⟩
    have := dec_head n.natAbs hc h48
    omega
  · have e : (dec n).data.toList = Lib.decDigits n.natAbs := by rw [hl]; unfold Lib.itoa; rw [if_neg h, show n.toNat = n.natAbs by omega]
    have hs : sg (dec n) = 0 := sg_0 (by
      rw [e]
      intro h45
      have := dec_dig n.natAbs 45 (List.mem_of_getElem? h45)
      unfold dig at this; simp at this)
    rw [hs, e]
    exact ⟨canD_dec _, h18, fun h => by omega⟩
theorem num_rd {s : ByteArray} (h : numC s) : rdB s ∧ rdN s = if sg s = 1 then -(valD (dsg s) : Int) else (valD (dsg s) : Int) := by
  obtain ⟨h1, h2, h3⟩ := h
  obtain ⟨e1, e2⟩ := dec_val _ (dsg s) rfl h1
  have h18 : valD (dsg s) < 1000000000000000000 := dec_len18.2 (by rw [e1]; exact h2)
  by_cases hs : sg s = 1
  · rw [if_pos hs]
    have h0 : s.data.toList[0]? = some 45 := by
      apply Classical.byContradiction; intro hc; rw [sg_0 hc] at hs; omega
    have hv : valD (dsg s) ≠ 0 := fun hz => by
      have e3 := e1
      rw [hz, Lib.decDigits, dif_pos (by omega)] at e3
      exact h3 hs (UInt8.ofNat (48 + 0)) (by rw [← e3]; rfl) (by rw [u8n (by omega)])
    have es : s = dec (-(valD (dsg s) : Int)) := by
      refine tx_eq ?_
      unfold Lib.itoa
      rw [if_pos (by omega), show (-(valD (dsg s) : Int)).natAbs = valD (dsg s) by omega, e1]
      unfold dsg
      rw [hs]
      cases hl : s.data.toList with
      | nil => rw [hl] at h0; simp at h0
      | cons b r => rw [hl] at h0; simp at h0; subst h0; rfl
    have := rdN_eq (n := -(valD (dsg s) : Int)) (by omega)
    rw [← es] at this
    exact this
  · rw [if_neg hs]
    have hs0 : sg s = 0 := by unfold sg at hs ⊢; split <;> simp_all
    have es : s = dec (valD (dsg s) : Int) := by
      refine tx_eq ?_
      unfold Lib.itoa
      rw [if_neg (by omega), show ((valD (dsg s) : Nat) : Int).toNat = valD (dsg s) by omega, e1]
      unfold dsg
      rw [hs0]; rfl
    have := rdN_eq (n := (valD (dsg s) : Int)) (by omega)
    rw [← es] at this
    exact this
theorem num_no {s : ByteArray} (h : ¬ numC s) : ¬ rdB s := fun ⟨n, e, hn⟩ => h (by subst e; exact num_of hn)
theorem num_n1 {s : ByteArray} {a : Nat} (ha : sg s = a) (h : s.size = a) : ¬ rdB s := num_no fun hc => hc.1.1 (by unfold dsg; rw [ha]; exact List.drop_eq_nil_of_le (by rw [ba_len]; omega))
theorem num_n2 {s : ByteArray} {a : Nat} (ha : sg s = a) (h : ¬ (s.size : Int) - a ≤ 18) : ¬ rdB s := num_no fun hc => by
  have := hc.2.1
  unfold dsg at this
  rw [List.length_drop, ba_len, ha] at this; omega
theorem dsg_head {s : ByteArray} {a : Nat} (ha : sg s = a) : (dsg s).head? = s.data.toList[a]? := by unfold dsg; rw [ha, List.head?_drop]
theorem num_n3 {s : ByteArray} {a : Nat} {u : UInt8} (ha : sg s = a) (hu : s[a]? = some u) (h48 : (u.toNat : Int) = 48) (h1 : (s.size : Int) > 1) : ¬ rdB s := num_no fun hc => by
  rw [ba_get] at hu
  have hh : (dsg s).head? = some u := by rw [dsg_head ha]; exact hu
  by_cases h : sg s = 1
  · exact hc.2.2 h u hh (by omega)
  · have := hc.1.2.2 u hh (by omega)
    unfold dsg at this
    rw [List.length_drop, ba_len] at this
    have hs0 : sg s = 0 := by unfold sg at h ⊢; split <;> simp_all
    omega
theorem num_n4 {s : ByteArray} {a i : Nat} {u : UInt8} (ha : sg s = a) (hi : a ≤ i) (hu : s[i]? = some u) (h : ¬ dig u) : ¬ rdB s := num_no fun hc => by
  rw [ba_get] at hu
  refine h (hc.1.2.1 u (List.mem_of_getElem? (i := i - a) ?_))
  unfold dsg
  rw [ha, List.getElem?_drop, show a + (i - a) = i by omega]; exact hu
def numV (s : ByteArray) (a i : Nat) : Int := (valD ((s.data.toList.drop a).take (i - a)) : Nat)
theorem numV_0 {s : ByteArray} {a : Nat} : numV s a a = 0 := by simp [numV, valD]
theorem numV_s {s : ByteArray} {a i : Nat} {u : UInt8} (hi : a ≤ i) (hu : s[i]? = some u) (hd : dig u) : numV s a (i + 1) = 10 * numV s a i + ((u.toNat : Int) - 48) := by
  rw [ba_get] at hu
  have e : (s.data.toList.drop a).take (i + 1 - a) = (s.data.toList.drop a).take (i - a) ++ [u] := by
    rw [show i + 1 - a = i - a + 1 by omega, List.take_add_one, List.getElem?_drop, show a + (i - a) = i by omega, hu]; rfl
  unfold numV
  rw [e, valD_snoc]
  unfold dig at hd
  omega
theorem valD_lt : ∀ (n : Nat) (l : List UInt8), l.length = n → (∀ c ∈ l, dig c) → valD l < 10 ^ n
  | 0, l, hl, _ => by have := List.eq_nil_of_length_eq_zero hl; subst this; simp [valD]
  | n + 1, l, hl, h => by
    have h0 : l ≠ [] := fun e => by subst e; simp at hl
    have e : l = l.dropLast ++ [l.getLast h0] := (List.dropLast_concat_getLast h0).symm
    generalize l.dropLast = es at e
    generalize l.getLast h0 = c at e
    subst e
    have hc := h c (by simp)
    unfold dig at hc
    have := valD_lt n es (by simp at hl; omega) (fun x hx => h x (by simp [hx]))
    rw [valD_snoc, Nat.pow_succ]; omega
theorem numV_lt {s : ByteArray} {a i : Nat} (hd : ∀ j u, a ≤ j → j < i → s[j]? = some u → dig u) (hi : i ≤ s.size) (h18 : (s.size : Int) - a ≤ 18) : 0 ≤ numV s a i ∧ numV s a i < 1000000000000000000 := by
  have hl : ((s.data.toList.drop a).take (i - a)).length ≤ 18 := by rw [List.length_take]; omega
  have h := valD_lt _ ((s.data.toList.drop a).take (i - a)) rfl (fun c hc => by
    obtain ⟨j, hj⟩ := List.getElem?_of_mem hc
    have hjl : j < i - a := by have := (List.getElem?_eq_some_iff.1 hj).1; rw [List.length_take] at this; omega
    rw [List.getElem?_take_of_lt hjl, List.getElem?_drop] at hj
    exact hd (a + j) c (by omega) (by omega) (by rw [ba_get]; exact hj))
  have h2 : 10 ^ ((s.data.toList.drop a).take (i - a)).length ≤ 10 ^ 18 := Nat.pow_le_pow_right (by omega) hl
  unfold numV
  omega
theorem num_y {s : ByteArray} {a : Nat} {u : UInt8} (ha : sg s = a) (h0 : ¬ s.size = a) (h18 : (s.size : Int) - a ≤ 18) (hle : a ≤ s.size) (hu : s[a]? = some u) (hz : ¬ ((u.toNat : Int) = 48 ∧ (s.size : Int) > 1)) (hd : ∀ j u, a ≤ j → j < s.size → s[j]? = some u → dig u) :
    rdB s ∧ rdN s = if a = 1 then -numV s a s.size else numV s a s.size := by
  have ed : dsg s = s.data.toList.drop a := by unfold dsg; rw [ha]
  have hlen : (dsg s).length = s.size - a := by rw [ed, List.length_drop, ba_len]
  have hc : numC s := by
    rw [ba_get] at hu
    have hh : (dsg s).head? = some u := by rw [dsg_head ha]; exact hu
    refine ⟨⟨fun e => by rw [e] at hlen; simp at hlen; omega, fun c hc => ?_, fun c hc h48 => ?_⟩, by omega, fun h1 c hc => ?_⟩
    · obtain ⟨j, hj⟩ := List.getElem?_of_mem hc
      have hjl := (List.getElem?_eq_some_iff.1 hj).1
      rw [ed, List.getElem?_drop] at hj
      exact hd (a + j) c (by omega) (by omega) (by rw [ba_get]; exact hj)
    · rw [hh] at hc; cases hc
      have : ¬ (s.size : Int) > 1 := fun h => hz ⟨by omega, h⟩
      omega
    · rw [hh] at hc; cases hc
      intro h48
      have : ¬ (s.size : Int) > 1 := fun h => hz ⟨by omega, h⟩
      omega
  have e : (valD (dsg s) : Int) = numV s a s.size := by
    unfold numV
    rw [ed, List.take_of_length_le (by rw [List.length_drop, ba_len]; exact Nat.le_refl _)]
  have := num_rd hc
  rw [e, ha] at this
  exact this
theorem pc_hit {s : ByteArray} {c : UInt8} {o : List (List UInt8)} {f i : Nat} (hI : pcs c s.data.toList = o ++ pcs c (s.data.toList.drop f)) (hf : f ≤ i) (hu : s[i]? = some c) (hJ : ∀ j b, f ≤ j → j < i → s[j]? = some b → b ≠ c) :
    pcs c s.data.toList = (o ++ [(s.extract f i).data.toList]) ++ pcs c (s.data.toList.drop (i + 1)) := by
  rw [hI, pcs_drop_hit hf (by rw [← ba_get]; exact hu) (fun j b h1 h2 h3 => hJ j b h1 h2 (by rw [ba_get]; exact h3)), Lib.extract_data]
  simp
theorem pc_end {s : ByteArray} {c : UInt8} {o : List (List UInt8)} {f : Nat} (hI : pcs c s.data.toList = o ++ pcs c (s.data.toList.drop f)) (hJ : ∀ j b, f ≤ j → j < s.size → s[j]? = some b → b ≠ c) :
    (o.map tx) ++ [s.extract f s.size] = pieces c s := by
  unfold pieces
  rw [hI, pcs_drop_no (fun j b h1 h3 => hJ j b h1 (by have := (List.getElem?_eq_some_iff.1 h3).1; rw [ba_len] at this; exact this) (by rw [ba_get]; exact h3))]
  rw [List.map_append, List.map_cons, List.map_nil]
  congr 2
  refine tx_eq ?_
  rw [Lib.extract_data, List.take_of_length_le (by rw [List.length_drop, ba_len]; exact Nat.le_refl _)]
end Go.Proofs.YtdnndlalflahhaaGreatDoor.Ev
